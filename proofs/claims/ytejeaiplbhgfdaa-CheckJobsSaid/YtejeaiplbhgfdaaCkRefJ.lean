/- What gristmillref12.Job hands back, by its walk. -/
import Derived.Test.YtejeaiplbhgfdaaCkRefR
set_option linter.unusedVariables false
set_option linter.unusedSimpArgs false
namespace Go.Proofs.Ytejeaiplbhgfdaa.CkLaw
open Go.RowKit Go.Shelf Go.Proofs.YtejeaiplbhgfdaaW.PrintWords Go.Proofs.YtejeaiplbhgfdaaW.PrintLast Go.Proofs.YtejeaiplbhgfdaaW.PrintMore Go.Proofs.Ytejeaiplbhgfdaa.Ck Go.Proofs.Ytejeaiplbhgfdaa.CkIter Go.Proofs.Ytejeaiplbhgfdaa.CkFit

theorem rk_calls (st acc : Int) (hacc : acc = 0 ∨ acc = 1) (x : S26) (A : Option Addr) (c : Nat) (g : Fit26 x) (w : World) (hC : Kd.C k26 w A x.f2.length x.f2) (hc : x.f2.length ≤ c) :
    Calls Try.prog 9 #[.agg #[.int .i64 x.f0, .int .u8 x.f1.f0, .int .i64 x.f1.f1, .string x.f1.f2, .slice A x.f2.length c], .int .i64 st, .int .i64 acc] w fun e W' => e = .returned (.tuple #[.int .i64 (kindS st acc x).1, .int .i64 (kindS st acc x).2]) ∧ Below w.heap.size w W' := by
  obtain ⟨k, hk⟩ := (kind_ref st acc hacc x g).rounds
  exact gristmillref12_Kind.calls k x.f0 x.f1.f0 x.f1.f1 x.f1.f2 A c x.f2 st acc _ _ w hC hc hk
theorem rs_calls (nm : ByteArray) (ea : Int) (A2 : Option Addr) (c2 : Nat) (em : List S47) (fo : Int) (fin : S26) (A8 : Option Addr) (c8 : Nat) (co : Bool) (pa : Int) (w : World) (hC2 : Kd.C k47 w A2 em.length em) (hc2 : em.length ≤ c2) (hC8 : Kd.C k26 w A8 fin.f2.length fin.f2) (hc8 : fin.f2.length ≤ c8) :
    Calls Try.prog 27 #[.agg #[.string nm, .int .i64 ea, .slice A2 em.length c2, .int .i64 fo, .int .i64 fin.f0, .int .u8 fin.f1.f0, .int .i64 fin.f1.f1, .string fin.f1.f2, .slice A8 fin.f2.length c8, .bool co, .int .i64 pa]] w fun e W' => e = .returned (.int .i64 (stageS ea)) ∧ Below w.heap.size w W' :=
  gristmillref12_stage.calls nm ea A2 c2 em fo fin.f0 fin.f1.f0 fin.f1.f1 fin.f1.f2 A8 c8 fin.f2 co pa _ w hC2 hc2 hC8 hc8 (rstage_eq nm ea em fo fin co pa)
theorem ra_calls (nm : ByteArray) (ea : Int) (A2 : Option Addr) (c2 : Nat) (em : List S47) (fo : Int) (fin : S26) (A8 : Option Addr) (c8 : Nat) (co : Bool) (pa : Int) (hm : ∀ m, m ∈ em → Fit47 m) (w : World) (hC2 : Kd.C k47 w A2 em.length em) (hc2 : em.length ≤ c2) (hC8 : Kd.C k26 w A8 fin.f2.length fin.f2) (hc8 : fin.f2.length ≤ c8) :
    Calls Try.prog 15 #[.agg #[.string nm, .int .i64 ea, .slice A2 em.length c2, .int .i64 fo, .int .i64 fin.f0, .int .u8 fin.f1.f0, .int .i64 fin.f1.f1, .string fin.f1.f2, .slice A8 fin.f2.length c8, .bool co, .int .i64 pa]] w fun e W' => e = .returned (.tuple #[.int .i64 (accS ea em fo).1, .int .i64 (accS ea em fo).2]) ∧ Below w.heap.size w W' := by
  obtain ⟨k, hk⟩ := (racc_ev nm ea em fo fin co pa hm).rounds
  exact gristmillref12_Acc.calls k nm ea A2 c2 em fo fin.f0 fin.f1.f0 fin.f1.f1 fin.f1.f2 A8 c8 fin.f2 co pa _ _ w hC2 hc2 hC8 hc8 hk
/-- The box of an emit. -/
def MB (W : World) (B : Nat) (m : S47) (A4 A9 A14 : Option Addr) (c4 c9 c14 : Nat) : Prop := Row3 W B 47 m A4 A9 A14 c4 c9 c14

/-! ### one emit: what the document answers -/
def emitR (st acc fo : Int) (k0 k1 k2 : Int × Int) : Int :=
  if k0.2 ≠ 0 then k0.2 else if k0.1 ≠ 1 then 120 else if k1.2 ≠ 0 then k1.2 else if fo ≠ 3 ∧ k1.1 ≠ acc then 122 else if k2.2 ≠ 0 then k2.2 else if k2.1 ≠ 0 then 120 else 0
theorem emitR_eq (fo st acc : Int) (m : S47) : emitS fo st acc m = emitR st acc fo (kindS st 0 m.f0) (kindS st 0 m.f1) (kindS st 0 m.f2) := by
  unfold emitS emitR mustS
  generalize kindS st 0 m.f0 = k0
  generalize kindS st 0 m.f1 = k1
  generalize kindS st 0 m.f2 = k2
  obtain ⟨a0, b0⟩ := k0
  obtain ⟨a1, b1⟩ := k1
  obtain ⟨a2, b2⟩ := k2
  simp only
  repeat' split
  all_goals first | rfl | omega | (simp_all; done) | (simp_all; omega)


theorem jobS_bad {nm : ByteArray} {ea : Int} {em : List S47} {fo : Int} {fin : S26} {co : Bool} {pa z : Int} (hz : jrS nm ea em fo fin pa = z) (h : ¬ z = 0) : jobS nm ea em fo fin co pa = (-1, z) := by unfold jobS; rw [hz, if_neg h]
theorem jobS_good {nm : ByteArray} {ea : Int} {em : List S47} {fo : Int} {fin : S26} {co : Bool} {pa acc ae : Int} (hz : jrS nm ea em fo fin pa = 0) (h : accS ea em fo = (acc, ae)) : jobS nm ea em fo fin co pa = loopJ fo (stageS ea) fin co acc ae 0 em := by unfold jobS; rw [if_pos hz, h]

theorem eR0 {st acc fo a0 b0 : Int} {k1 k2 : Int × Int} (h : ¬ b0 = 0) : emitR st acc fo (a0, b0) k1 k2 = b0 := if_pos h
theorem eR1 {st acc fo a0 b0 : Int} {k1 k2 : Int × Int} (h : b0 = 0) (h1 : ¬ a0 = 1) : emitR st acc fo (a0, b0) k1 k2 = 120 := (if_neg (fun q => q h)).trans (if_pos h1)
theorem eR2 {st acc fo a0 b0 a1 b1 : Int} {k2 : Int × Int} (h : b0 = 0) (h1 : a0 = 1) (h2 : ¬ b1 = 0) : emitR st acc fo (a0, b0) (a1, b1) k2 = b1 := (if_neg (fun q => q h)).trans ((if_neg (fun q => q h1)).trans (if_pos h2))
theorem eR3 {st acc fo a0 b0 a1 b1 : Int} {k2 : Int × Int} (h : b0 = 0) (h1 : a0 = 1) (h2 : b1 = 0) (h3 : ¬ fo = 3) (h4 : ¬ a1 = acc) : emitR st acc fo (a0, b0) (a1, b1) k2 = 122 := (if_neg (fun q => q h)).trans ((if_neg (fun q => q h1)).trans ((if_neg (fun q => q h2)).trans (if_pos ⟨h3, h4⟩)))
theorem eR4 {st acc fo a0 b0 a1 b1 a2 b2 : Int} (h : b0 = 0) (h1 : a0 = 1) (h2 : b1 = 0) (h3 : fo = 3 ∨ a1 = acc) (h5 : ¬ b2 = 0) : emitR st acc fo (a0, b0) (a1, b1) (a2, b2) = b2 := (if_neg (fun q => q h)).trans ((if_neg (fun q => q h1)).trans ((if_neg (fun q => q h2)).trans ((if_neg (fun q => h3.elim q.1 q.2)).trans (if_pos h5))))
theorem eR5 {st acc fo a0 b0 a1 b1 a2 b2 : Int} (h : b0 = 0) (h1 : a0 = 1) (h2 : b1 = 0) (h3 : fo = 3 ∨ a1 = acc) (h5 : b2 = 0) (h6 : ¬ a2 = 0) : emitR st acc fo (a0, b0) (a1, b1) (a2, b2) = 120 := (if_neg (fun q => q h)).trans ((if_neg (fun q => q h1)).trans ((if_neg (fun q => q h2)).trans ((if_neg (fun q => h3.elim q.1 q.2)).trans ((if_neg (fun q => q h5)).trans (if_pos h6)))))
theorem eR6 {st acc fo a0 b0 a1 b1 a2 b2 : Int} (h : b0 = 0) (h1 : a0 = 1) (h2 : b1 = 0) (h3 : fo = 3 ∨ a1 = acc) (h5 : b2 = 0) (h6 : a2 = 0) : emitR st acc fo (a0, b0) (a1, b1) (a2, b2) = 0 := (if_neg (fun q => q h)).trans ((if_neg (fun q => q h1)).trans ((if_neg (fun q => q h2)).trans ((if_neg (fun q => h3.elim q.1 q.2)).trans ((if_neg (fun q => q h5)).trans (if_neg (fun q => q h6))))))
theorem jobS_at {nm : ByteArray} {ea : Int} {em : List S47} {fo : Int} {fin : S26} {co : Bool} {pa z st acc ae : Int} {q : Nat} {m : S47} {e e' : Int} (hz : jrS nm ea em fo fin pa = z) (hz0 : z = 0) (hac : accS ea em fo = (acc, ae)) (hst : stageS ea = st)
    (hl : loopJ fo st fin co acc ae q (em.drop q) = loopJ fo st fin co acc ae 0 em) (hd : em.drop q = m :: em.drop (q + 1)) (he : emitS fo st acc m = e') (hee : e' = e) (hn : ¬ e = 0) : jobS nm ea em fo fin co pa = ((q : Int), e) := by
  rw [jobS_good (hz.trans hz0) hac, hst, ← hl, hd]
  unfold loopJ
  rw [he, hee, if_neg hn]
theorem loopJ_next {fo : Int} {fin : S26} {co : Bool} {st acc ae : Int} {q : Nat} {em : List S47} {m : S47} {e' : Int}
    (hl : loopJ fo st fin co acc ae q (em.drop q) = loopJ fo st fin co acc ae 0 em) (hd : em.drop q = m :: em.drop (q + 1)) (he : emitS fo st acc m = e') (hee : e' = 0) : loopJ fo st fin co acc ae (q + 1) (em.drop (q + 1)) = loopJ fo st fin co acc ae 0 em := by
  rw [← hl, hd]
  conv => rhs; unfold loopJ
  rw [he, hee, if_pos rfl]
theorem jr_fold_ok {nm : ByteArray} {ea : Int} {em : List S47} {fo : Int} {fin : S26} {pa : Int} (hz : jrS nm ea em fo fin pa = 0) : foldBad fo = false ∧ 1 ≤ em.length := by
  unfold jrS at hz
  repeat' split at hz
  all_goals first | exact absurd hz (by decide) | skip
  rename_i h5 h6 h7
  exact ⟨by simpa using h5, by omega⟩
theorem ae_zero {nm : ByteArray} {ea : Int} {em : List S47} {fo : Int} {fin : S26} {pa z st acc ae : Int} {q : Nat} {m : S47} {T : List S47} {a1 b1 : Int} (hz : jrS nm ea em fo fin pa = z) (hz0 : z = 0) (hac : accS ea em fo = (acc, ae)) (hst : stageS ea = st)
    (hq : 0 < q → ae = 0) (hd : em.drop q = m :: T) (hk : kindS st 0 m.f1 = (a1, b1)) (hb : b1 = 0) : ae = 0 := by
  by_cases h : 0 < q
  · exact hq h
  · obtain rfl : q = 0 := by omega
    have hf := (jr_fold_ok (hz.trans hz0)).1
    rw [List.drop_zero] at hd
    subst hd
    unfold accS at hac
    rw [hst] at hac
    split at hac
    · injection hac with _ h; exact h.symm
    · split at hac
      · injection hac with _ h; exact h.symm
      · rw [hf] at hac
        rw [if_neg (by decide)] at hac
        have := hk.symm.trans hac
        injection this with _ h
        rw [← h, hb]
def endR (fo : Int) (co : Bool) (a b : Int) : Int × Int := if ¬ b = 0 then (8, b) else if ¬ a = 1 then (8, 120) else if co = true ∧ 3 < fo then (-1, 123) else (-1, 0)
theorem jobS_end {nm : ByteArray} {ea : Int} {em : List S47} {fo : Int} {fin : S26} {co : Bool} {pa z st acc ae : Int} {q : Nat} {a b : Int} (hz : jrS nm ea em fo fin pa = z) (hz0 : z = 0) (hac : accS ea em fo = (acc, ae)) (hst : stageS ea = st)
    (hl : loopJ fo st fin co acc ae q (em.drop q) = loopJ fo st fin co acc ae 0 em) (hq : ¬ q < em.length) (h0 : 0 < q → ae = 0) (hk : kindS 2 acc fin = (a, b)) : jobS nm ea em fo fin co pa = endR fo co a b := by
  obtain ⟨hf, h1⟩ := jr_fold_ok (hz.trans hz0)
  have hae : ae = 0 := h0 (by omega)
  have hd : em.drop q = [] := List.drop_of_length_le (by omega)
  rw [jobS_good (hz.trans hz0) hac, hst, ← hl, hd, hae]
  unfold loopJ endJ endR mustS
  rw [hk]
  unfold foldBad at hf
  simp only [Bool.or_eq_false_iff, decide_eq_false_iff_not] at hf
  have hc : commS fo = true ↔ ¬ 3 < fo := by unfold commS; simp only [Bool.and_eq_true, decide_eq_true_eq]; omega
  by_cases hb : b = 0
  · subst hb
    by_cases ha : a = 1
    · subst ha
      cases co
      · simp
      · by_cases h3 : 3 < fo
        · have : ¬ commS fo = true := fun h => hc.1 h h3
          simp [h3, this]
        · have : commS fo = true := hc.2 h3
          simp [h3, this]
    · simp [ha]
  · simp [hb]
set_option maxRecDepth 100000 in
set_option maxHeartbeats 32000000 in
theorem rj_calls (nm : ByteArray) (ea : Int) (A2 : Option Addr) (c2 : Nat) (em : List S47) (fo : Int) (fin : S26) (A8 : Option Addr) (c8 : Nat) (co : Bool) (pa : Int) (w : World) (hn : nm.size ≤ 9223372036854775807) (hC2 : Kd.C k47 w A2 em.length em) (hc2 : em.length ≤ c2) (hC8 : Kd.C k26 w A8 fin.f2.length fin.f2) (hc8 : fin.f2.length ≤ c8) (hm : ∀ m, m ∈ em → Fit47 m) (hf : Fit26 fin) (hsm : ∀ x, x ∈ threes em ++ [fin] → (preS x).length < 9223372036854775807) :
    Calls Try.prog 13 #[.agg #[.string nm, .int .i64 ea, .slice A2 em.length c2, .int .i64 fo, .int .i64 fin.f0, .int .u8 fin.f1.f0, .int .i64 fin.f1.f1, .string fin.f1.f2, .slice A8 fin.f2.length c8, .bool co, .int .i64 pa]] w fun e w' => e = .returned (.tuple #[.int .i64 (jobS nm ea em fo fin co pa).1, .int .i64 (jobS nm ea em fo fin co pa).2]) ∧ Below w.heap.size w w' := by
  have hr := fun W (h2 : Kd.C k47 W A2 em.length em) (h8 : Kd.C k26 W A8 fin.f2.length fin.f2) => r11_calls nm ea A2 c2 em fo fin A8 c8 co pa W hn h2 h8 hc8 hsm
  have ha := fun W (h2 : Kd.C k47 W A2 em.length em) (h8 : Kd.C k26 W A8 fin.f2.length fin.f2) => ra_calls nm ea A2 c2 em fo fin A8 c8 co pa hm W h2 hc2 h8 hc8
  have hs := fun W (h2 : Kd.C k47 W A2 em.length em) (h8 : Kd.C k26 W A8 fin.f2.length fin.f2) => rs_calls nm ea A2 c2 em fo fin A8 c8 co pa W h2 hc2 h8 hc8
  have HC2 := Aside0.mk hC2
  have HC8 := Aside0.mk hC8
  have hlen := hC2.2.1
  have bJ : JB (w.alloc (.cells #[.string nm, .int .i64 ea, .slice A2 em.length c2, .int .i64 fo, .int .i64 fin.f0, .int .u8 fin.f1.f0, .int .i64 fin.f1.f1, .string fin.f1.f2, .slice A8 fin.f2.length c8, .bool co, .int .i64 pa] 38)) w.heap.size nm ea A2 c2 em fo fin A8 c8 co pa := World.alloc_heap_new w _
  have HJ1 := Aside0.mk bJ
  have hb0 : Below w.heap.size w (w.alloc (.cells #[.string nm, .int .i64 ea, .slice A2 em.length c2, .int .i64 fo, .int .i64 fin.f0, .int .u8 fin.f1.f0, .int .i64 fin.f1.f1, .string fin.f1.f2, .slice A8 fin.f2.length c8, .bool co, .int .i64 pa] 38)) := (Below.refl _ w).alloc (Nat.le_refl _) _
  have HB1 := Aside0.mk hb0
  have a01 := (acc_impl nm ea em fo fin co pa hm).1
  clear hC2 hC8 bJ hb0
  obtain ⟨z, hz⟩ : ∃ z, jrS nm ea em fo fin pa = z := ⟨_, rfl⟩
  obtain ⟨st, hst⟩ : ∃ st, stageS ea = st := ⟨_, rfl⟩
  obtain ⟨⟨acc, ae⟩, hac⟩ : ∃ a, accS ea em fo = a := ⟨_, rfl⟩
  rw [hac] at a01
  simp only [hz, hst, hac] at hr hs ha
  have HR := Aside0.mk hr
  have HA := Aside0.mk ha
  have HS := Aside0.mk hs
  have HZ := Aside0.mk hz
  have HST := Aside0.mk hst
  have HAC := Aside0.mk hac
  have HM := Aside0.mk hm
  have HF := Aside0.mk hf
  have HA01 := Aside0.mk a01
  clear hr ha hs hz hst hac hm hf hsm a01
  go_enter Try.func13, Try.ntmps13
  by_cases z0 : z = 0
  · have z1 : (z != 0) = false := bne_eq_false_iff_eq.2 z0
    have Z0 := Aside0.mk z0
    clear z0
    go_wp2_with (first | (go_at_call 26; (with_reducible refine (HR.out _ ?sa ?sb).mono ?_); (case sa => exact Kd.C_below HC2.out (by first | exact HB1.out | exact below_drew1 HB1.out)); (case sb => exact Kd.C_below HC8.out (by first | exact HB1.out | exact below_drew1 HB1.out)); rintro e wn ⟨rfl, hb⟩; have n1_ := Aside0.mk (Below.trans (show Below w.heap.size w _ from (by first | exact HB1.out | exact below_drew1 HB1.out)) (hb.mono (Below.size (show Below w.heap.size w _ from (by first | exact HB1.out | exact below_drew1 HB1.out))))); have n2_ := Aside0.mk ((fun h => JB.below h hb) HJ1.out); clear HB1 HJ1; have HB1 := n1_; have HJ1 := n2_; clear n1_ n2_; (try clear j0 j1 j2 j3 j4 j5 j6 j7 j8 j9 j10); obtain ⟨j0, j1, j2, j3, j4, j5, j6, j7, j8, j9, j10⟩ := HJ1.out.cells; clear hb) | (go_at_call 15; (with_reducible refine (HA.out _ ?sa ?sb).mono ?_); (case sa => exact Kd.C_below HC2.out (by first | exact HB1.out | exact below_drew1 HB1.out)); (case sb => exact Kd.C_below HC8.out (by first | exact HB1.out | exact below_drew1 HB1.out)); rintro e wn ⟨rfl, hb⟩; have n1_ := Aside0.mk (Below.trans (show Below w.heap.size w _ from (by first | exact HB1.out | exact below_drew1 HB1.out)) (hb.mono (Below.size (show Below w.heap.size w _ from (by first | exact HB1.out | exact below_drew1 HB1.out))))); have n2_ := Aside0.mk ((fun h => JB.below h hb) HJ1.out); clear HB1 HJ1; have HB1 := n1_; have HJ1 := n2_; clear n1_ n2_; (try clear j0 j1 j2 j3 j4 j5 j6 j7 j8 j9 j10); obtain ⟨j0, j1, j2, j3, j4, j5, j6, j7, j8, j9, j10⟩ := HJ1.out.cells; clear hb))
    go_loopw [6] (fun i wr => ∃ q : Nat, q ≤ em.length ∧ i = .int .i64 q ∧ (0 < q → ae = 0) ∧ loopJ fo st fin co acc ae q (em.drop q) = loopJ fo st fin co acc ae 0 em ∧ Below w.heap.size w wr ∧ JB wr w.heap.size nm ea A2 c2 em fo fin A8 c8 co pa)
      (fun i _ => em.length - (intOf i).toNat)
    case atStart => exact ⟨0, Nat.zero_le _, rfl, fun h => absurd h (by decide), rfl, HB1.out, HJ1.out⟩
    case round =>
      clear HB1 HJ1 HR HA
      (try clear j0 j1 j2 j3 j4 j5 j6 j7 j8 j9 j10)
      obtain ⟨q, hq, rfl, h0, hl, hb, hj⟩ := hrel
      have HQ0 := Aside0.mk h0
      have HL := Aside0.mk hl
      have HB1 := Aside0.mk hb
      have HJ1 := Aside0.mk hj
      obtain ⟨j0, j1, j2, j3, j4, j5, j6, j7, j8, j9, j10⟩ := hj.cells
      clear h0 hl hb hj
      by_cases hql : q < em.length
      · have d0 : decide ((q : Int) < (em.length : Int)) = true := decide_eq_true (by omega)
        obtain ⟨ad, A4, c4, A9, c9, A14, c14, hA, g0, g1, g2, g3, g4, g5, g6, g7, g8, g9, g10, g11, g12, g13, g14, l4, C4, l9, C9, l14, C14⟩ := at_T47 HC2.out (q : Int) (by omega) (by omega)
        have hrd : rd_T47 em (q : Int) = em[q] := by
          unfold rd_T47
          rw [Int.toNat_natCast, List.getD_eq_getElem?_getD, List.getElem?_eq_getElem hql]
          rfl
        rw [hrd] at g0 g1 g2 g3 g4 g5 g6 g7 g8 g9 g10 g11 g12 g13 g14 l4 C4 l9 C9 l14 C14
        simp only [Int.toNat_natCast] at g0 g1 g2 g3 g4 g5 g6 g7 g8 g9 g10 g11 g12 g13 g14
        clear hrd
        have hdr : em.drop q = em[q] :: em.drop (q + 1) := List.drop_eq_getElem_cons hql
        obtain ⟨f0, f1, f2⟩ := HM.out em[q] (List.getElem_mem hql)
        generalize em[q] = m at *
        have hb := HB1.out
        replace g0 := (hb.cell (World.block_lt_of_cell? w _ g0)).trans g0
        replace g1 := (hb.cell (World.block_lt_of_cell? w _ g1)).trans g1
        replace g2 := (hb.cell (World.block_lt_of_cell? w _ g2)).trans g2
        replace g3 := (hb.cell (World.block_lt_of_cell? w _ g3)).trans g3
        replace g4 := (hb.cell (World.block_lt_of_cell? w _ g4)).trans g4
        replace g5 := (hb.cell (World.block_lt_of_cell? w _ g5)).trans g5
        replace g6 := (hb.cell (World.block_lt_of_cell? w _ g6)).trans g6
        replace g7 := (hb.cell (World.block_lt_of_cell? w _ g7)).trans g7
        replace g8 := (hb.cell (World.block_lt_of_cell? w _ g8)).trans g8
        replace g9 := (hb.cell (World.block_lt_of_cell? w _ g9)).trans g9
        replace g10 := (hb.cell (World.block_lt_of_cell? w _ g10)).trans g10
        replace g11 := (hb.cell (World.block_lt_of_cell? w _ g11)).trans g11
        replace g12 := (hb.cell (World.block_lt_of_cell? w _ g12)).trans g12
        replace g13 := (hb.cell (World.block_lt_of_cell? w _ g13)).trans g13
        replace g14 := (hb.cell (World.block_lt_of_cell? w _ g14)).trans g14
        clear hb
        subst hA
        have HC4 := Aside0.mk C4
        have HC9 := Aside0.mk C9
        have HC14 := Aside0.mk C14
        have HDR := Aside0.mk hdr
        have HK0 := Aside0.mk (fun W hC => rk_calls st 0 (.inl rfl) m.f0 A4 c4 f0 W hC l4)
        have HK1 := Aside0.mk (fun W hC => rk_calls st 0 (.inl rfl) m.f1 A9 c9 f1 W hC l9)
        have HK2 := Aside0.mk (fun W hC => rk_calls st 0 (.inl rfl) m.f2 A14 c14 f2 W hC l14)
        have hem := emitR_eq fo st acc m
        generalize kindS st 0 m.f0 = k0 at HK0 hem
        obtain ⟨k1, hk1⟩ : ∃ k, kindS st 0 m.f1 = k := ⟨_, rfl⟩
        rw [hk1] at HK1 hem
        generalize kindS st 0 m.f2 = k2 at HK2 hem
        obtain ⟨a0, b0⟩ := k0
        obtain ⟨a1, b1⟩ := k1
        obtain ⟨a2, b2⟩ := k2
        simp only at HK0 HK1 HK2
        have HEM := Aside0.mk hem
        have HE1 := Aside0.mk hk1
        clear C4 C9 C14 hdr hem hk1 f0 f1 f2
        have p1 : ((0 : Int) ≤ (q : Int)) = True := eq_true (by omega)
        have q1 : ((q : Int) < (em.length : Int)) = True := eq_true (by omega)
        go_wp2
        have hr1 : Row3 (wr.alloc (.cells #[.int .i64 m.f0.f0, .int .u8 m.f0.f1.f0, .int .i64 m.f0.f1.f1, .string m.f0.f1.f2, .slice A4 m.f0.f2.length c4, .int .i64 m.f1.f0, .int .u8 m.f1.f1.f0, .int .i64 m.f1.f1.f1, .string m.f1.f1.f2, .slice A9 m.f1.f2.length c9, .int .i64 m.f2.f0, .int .u8 m.f2.f1.f0, .int .i64 m.f2.f1.f1, .string m.f2.f1.f2, .slice A14 m.f2.f2.length c14] 47)) wr.heap.size 47 m A4 A9 A14 c4 c9 c14 := World.alloc_heap_new wr _
        have hbr : Below wr.heap.size wr (wr.alloc (.cells #[.int .i64 m.f0.f0, .int .u8 m.f0.f1.f0, .int .i64 m.f0.f1.f1, .string m.f0.f1.f2, .slice A4 m.f0.f2.length c4, .int .i64 m.f1.f0, .int .u8 m.f1.f1.f0, .int .i64 m.f1.f1.f1, .string m.f1.f1.f2, .slice A9 m.f1.f2.length c9, .int .i64 m.f2.f0, .int .u8 m.f2.f1.f0, .int .i64 m.f2.f1.f1, .string m.f2.f1.f2, .slice A14 m.f2.f2.length c14] 47)) := (Below.refl _ wr).alloc (Nat.le_refl _) _
        have HM1 := Aside0.mk hr1
        have n1_ := Aside0.mk (HJ1.out.below hbr)
        have n2_ := Aside0.mk (HB1.out.trans (hbr.mono HB1.out.size))
        clear hr1 hbr HJ1 HB1
        have HJ1 := n1_
        have HB1 := n2_
        clear n1_ n2_
        generalize (wr.alloc (.cells #[.int .i64 m.f0.f0, .int .u8 m.f0.f1.f0, .int .i64 m.f0.f1.f1, .string m.f0.f1.f2, .slice A4 m.f0.f2.length c4, .int .i64 m.f1.f0, .int .u8 m.f1.f1.f0, .int .i64 m.f1.f1.f1, .string m.f1.f1.f2, .slice A9 m.f1.f2.length c9, .int .i64 m.f2.f0, .int .u8 m.f2.f1.f0, .int .i64 m.f2.f1.f1, .string m.f2.f1.f2, .slice A14 m.f2.f2.length c14] 47)) = wo at HM1 HJ1 HB1 ⊢
        obtain ⟨B, hB⟩ : ∃ B : Nat, wr.heap.size = B := ⟨_, rfl⟩
        rw [hB] at HM1 ⊢
        clear hB j0 j1 j2 j3 j4 j5 j6 j7 j8 j9 j10 g0 g1 g2 g3 g4 g5 g6 g7 g8 g9 g10 g11 g12 g13 g14 d0 p1 q1
        obtain ⟨j0, j1, j2, j3, j4, j5, j6, j7, j8, j9, j10⟩ := HJ1.out.cells
        obtain ⟨g0, g1, g2, g3, g4, g5, g6, g7, g8, g9, g10, g11, g12, g13, g14⟩ := HM1.out.cells
        go_cut [8, 9] (fun v8 v9 wc => v8 = .int .i64 a0 ∧ v9 = .int .i64 b0 ∧ Aside0 (Below w.heap.size w wc) ∧ Aside0 (JB wc w.heap.size nm ea (some ad) c2 em fo fin A8 c8 co pa) ∧ Aside0 (Row3 wc B 47 m A4 A9 A14 c4 c9 c14))
        case first =>
          go_region_with (first | (go_at_call 27; (with_reducible refine (HS.out _ ?sa ?sb).mono ?_); (case sa => exact Kd.C_below HC2.out (by first | exact HB1.out | exact below_drew1 HB1.out)); (case sb => exact Kd.C_below HC8.out (by first | exact HB1.out | exact below_drew1 HB1.out)); rintro e wn ⟨rfl, hb⟩; have n1_ := Aside0.mk (Below.trans (show Below w.heap.size w _ from (by first | exact HB1.out | exact below_drew1 HB1.out)) (hb.mono (Below.size (show Below w.heap.size w _ from (by first | exact HB1.out | exact below_drew1 HB1.out))))); have n2_ := Aside0.mk ((fun h => JB.below h hb) HJ1.out); have n3_ := Aside0.mk ((fun h => Row3.below h hb) HM1.out); clear HM1; have HM1 := n3_; clear n3_; clear g0 g1 g2 g3 g4 g5 g6 g7 g8 g9 g10 g11 g12 g13 g14; obtain ⟨g0, g1, g2, g3, g4, g5, g6, g7, g8, g9, g10, g11, g12, g13, g14⟩ := HM1.out.cells; clear HB1 HJ1; have HB1 := n1_; have HJ1 := n2_; clear n1_ n2_; (try clear j0 j1 j2 j3 j4 j5 j6 j7 j8 j9 j10); obtain ⟨j0, j1, j2, j3, j4, j5, j6, j7, j8, j9, j10⟩ := HJ1.out.cells; clear hb) | (go_at_call 9; (with_reducible refine (HK0.out _ ?sa).mono ?_); (case sa => exact Kd.C_below HC4.out (by first | exact HB1.out | exact below_drew1 HB1.out)); rintro e wn ⟨rfl, hb⟩; have n1_ := Aside0.mk (Below.trans (show Below w.heap.size w _ from (by first | exact HB1.out | exact below_drew1 HB1.out)) (hb.mono (Below.size (show Below w.heap.size w _ from (by first | exact HB1.out | exact below_drew1 HB1.out))))); have n2_ := Aside0.mk ((fun h => JB.below h hb) HJ1.out); have n3_ := Aside0.mk ((fun h => Row3.below h hb) HM1.out); clear HM1; have HM1 := n3_; clear n3_; clear g0 g1 g2 g3 g4 g5 g6 g7 g8 g9 g10 g11 g12 g13 g14; obtain ⟨g0, g1, g2, g3, g4, g5, g6, g7, g8, g9, g10, g11, g12, g13, g14⟩ := HM1.out.cells; clear HB1 HJ1; have HB1 := n1_; have HJ1 := n2_; clear n1_ n2_; (try clear j0 j1 j2 j3 j4 j5 j6 j7 j8 j9 j10); obtain ⟨j0, j1, j2, j3, j4, j5, j6, j7, j8, j9, j10⟩ := HJ1.out.cells; clear hb))
          all_goals (try go_wp2)
          all_goals go_meet
          all_goals exact ⟨rfl, rfl, HB1, HJ1, HM1⟩
        case rest =>
          clear HB1 HJ1 HM1 j0 j1 j2 j3 j4 j5 j6 j7 j8 j9 j10 g0 g1 g2 g3 g4 g5 g6 g7 g8 g9 g10 g11 g12 g13 g14
          obtain ⟨rfl, rfl, HB1, HJ1, HM1⟩ := hcut
          obtain ⟨j0, j1, j2, j3, j4, j5, j6, j7, j8, j9, j10⟩ := HJ1.out.cells
          obtain ⟨g0, g1, g2, g3, g4, g5, g6, g7, g8, g9, g10, g11, g12, g13, g14⟩ := HM1.out.cells
          by_cases z0 : b0 = 0
          · have d_z0 : (b0 != 0) = false := bne_eq_false_iff_eq.2 z0
            replace z0 := Aside0.mk z0
            by_cases y0 : a0 = 1
            · have d_y0 : (a0 != 1) = false := bne_eq_false_iff_eq.2 y0
              replace y0 := Aside0.mk y0
              go_wp2
              go_cut [8, 9] (fun v8 v9 wc => v8 = .int .i64 a1 ∧ v9 = .int .i64 b1 ∧ Aside0 (Below w.heap.size w wc) ∧ Aside0 (JB wc w.heap.size nm ea (some ad) c2 em fo fin A8 c8 co pa) ∧ Aside0 (Row3 wc B 47 m A4 A9 A14 c4 c9 c14))
              case first =>
                go_region_with (first | (go_at_call 27; (with_reducible refine (HS.out _ ?sa ?sb).mono ?_); (case sa => exact Kd.C_below HC2.out (by first | exact HB1.out | exact below_drew1 HB1.out)); (case sb => exact Kd.C_below HC8.out (by first | exact HB1.out | exact below_drew1 HB1.out)); rintro e wn ⟨rfl, hb⟩; have n1_ := Aside0.mk (Below.trans (show Below w.heap.size w _ from (by first | exact HB1.out | exact below_drew1 HB1.out)) (hb.mono (Below.size (show Below w.heap.size w _ from (by first | exact HB1.out | exact below_drew1 HB1.out))))); have n2_ := Aside0.mk ((fun h => JB.below h hb) HJ1.out); have n3_ := Aside0.mk ((fun h => Row3.below h hb) HM1.out); clear HM1; have HM1 := n3_; clear n3_; clear g0 g1 g2 g3 g4 g5 g6 g7 g8 g9 g10 g11 g12 g13 g14; obtain ⟨g0, g1, g2, g3, g4, g5, g6, g7, g8, g9, g10, g11, g12, g13, g14⟩ := HM1.out.cells; clear HB1 HJ1; have HB1 := n1_; have HJ1 := n2_; clear n1_ n2_; (try clear j0 j1 j2 j3 j4 j5 j6 j7 j8 j9 j10); obtain ⟨j0, j1, j2, j3, j4, j5, j6, j7, j8, j9, j10⟩ := HJ1.out.cells; clear hb) | (go_at_call 9; (with_reducible refine (HK1.out _ ?sa).mono ?_); (case sa => exact Kd.C_below HC9.out (by first | exact HB1.out | exact below_drew1 HB1.out)); rintro e wn ⟨rfl, hb⟩; have n1_ := Aside0.mk (Below.trans (show Below w.heap.size w _ from (by first | exact HB1.out | exact below_drew1 HB1.out)) (hb.mono (Below.size (show Below w.heap.size w _ from (by first | exact HB1.out | exact below_drew1 HB1.out))))); have n2_ := Aside0.mk ((fun h => JB.below h hb) HJ1.out); have n3_ := Aside0.mk ((fun h => Row3.below h hb) HM1.out); clear HM1; have HM1 := n3_; clear n3_; clear g0 g1 g2 g3 g4 g5 g6 g7 g8 g9 g10 g11 g12 g13 g14; obtain ⟨g0, g1, g2, g3, g4, g5, g6, g7, g8, g9, g10, g11, g12, g13, g14⟩ := HM1.out.cells; clear HB1 HJ1; have HB1 := n1_; have HJ1 := n2_; clear n1_ n2_; (try clear j0 j1 j2 j3 j4 j5 j6 j7 j8 j9 j10); obtain ⟨j0, j1, j2, j3, j4, j5, j6, j7, j8, j9, j10⟩ := HJ1.out.cells; clear hb))
                all_goals (try go_wp2)
                all_goals go_meet
                all_goals exact ⟨rfl, rfl, HB1, HJ1, HM1⟩
              case rest =>
                clear HB1 HJ1 HM1 j0 j1 j2 j3 j4 j5 j6 j7 j8 j9 j10 g0 g1 g2 g3 g4 g5 g6 g7 g8 g9 g10 g11 g12 g13 g14
                obtain ⟨rfl, rfl, HB1, HJ1, HM1⟩ := hcut
                obtain ⟨j0, j1, j2, j3, j4, j5, j6, j7, j8, j9, j10⟩ := HJ1.out.cells
                obtain ⟨g0, g1, g2, g3, g4, g5, g6, g7, g8, g9, g10, g11, g12, g13, g14⟩ := HM1.out.cells
                by_cases z1 : b1 = 0
                · have d_z1 : (b1 != 0) = false := bne_eq_false_iff_eq.2 z1
                  replace z1 := Aside0.mk z1
                  by_cases f3 : fo = 3
                  · have d_f3 : (fo != 3) = false := bne_eq_false_iff_eq.2 f3
                    replace f3 := Aside0.mk f3
                    go_wp2
                    go_cut [8, 9] (fun v8 v9 wc => v8 = .int .i64 a2 ∧ v9 = .int .i64 b2 ∧ Aside0 (Below w.heap.size w wc) ∧ Aside0 (JB wc w.heap.size nm ea (some ad) c2 em fo fin A8 c8 co pa) ∧ Aside0 (Row3 wc B 47 m A4 A9 A14 c4 c9 c14))
                    case first =>
                      go_region_with (first | (go_at_call 27; (with_reducible refine (HS.out _ ?sa ?sb).mono ?_); (case sa => exact Kd.C_below HC2.out (by first | exact HB1.out | exact below_drew1 HB1.out)); (case sb => exact Kd.C_below HC8.out (by first | exact HB1.out | exact below_drew1 HB1.out)); rintro e wn ⟨rfl, hb⟩; have n1_ := Aside0.mk (Below.trans (show Below w.heap.size w _ from (by first | exact HB1.out | exact below_drew1 HB1.out)) (hb.mono (Below.size (show Below w.heap.size w _ from (by first | exact HB1.out | exact below_drew1 HB1.out))))); have n2_ := Aside0.mk ((fun h => JB.below h hb) HJ1.out); have n3_ := Aside0.mk ((fun h => Row3.below h hb) HM1.out); clear HM1; have HM1 := n3_; clear n3_; clear g0 g1 g2 g3 g4 g5 g6 g7 g8 g9 g10 g11 g12 g13 g14; obtain ⟨g0, g1, g2, g3, g4, g5, g6, g7, g8, g9, g10, g11, g12, g13, g14⟩ := HM1.out.cells; clear HB1 HJ1; have HB1 := n1_; have HJ1 := n2_; clear n1_ n2_; (try clear j0 j1 j2 j3 j4 j5 j6 j7 j8 j9 j10); obtain ⟨j0, j1, j2, j3, j4, j5, j6, j7, j8, j9, j10⟩ := HJ1.out.cells; clear hb) | (go_at_call 9; (with_reducible refine (HK2.out _ ?sa).mono ?_); (case sa => exact Kd.C_below HC14.out (by first | exact HB1.out | exact below_drew1 HB1.out)); rintro e wn ⟨rfl, hb⟩; have n1_ := Aside0.mk (Below.trans (show Below w.heap.size w _ from (by first | exact HB1.out | exact below_drew1 HB1.out)) (hb.mono (Below.size (show Below w.heap.size w _ from (by first | exact HB1.out | exact below_drew1 HB1.out))))); have n2_ := Aside0.mk ((fun h => JB.below h hb) HJ1.out); have n3_ := Aside0.mk ((fun h => Row3.below h hb) HM1.out); clear HM1; have HM1 := n3_; clear n3_; clear g0 g1 g2 g3 g4 g5 g6 g7 g8 g9 g10 g11 g12 g13 g14; obtain ⟨g0, g1, g2, g3, g4, g5, g6, g7, g8, g9, g10, g11, g12, g13, g14⟩ := HM1.out.cells; clear HB1 HJ1; have HB1 := n1_; have HJ1 := n2_; clear n1_ n2_; (try clear j0 j1 j2 j3 j4 j5 j6 j7 j8 j9 j10); obtain ⟨j0, j1, j2, j3, j4, j5, j6, j7, j8, j9, j10⟩ := HJ1.out.cells; clear hb))
                      all_goals (try go_wp2)
                      all_goals go_meet
                      all_goals exact ⟨rfl, rfl, HB1, HJ1, HM1⟩
                    case rest =>
                      clear HB1 HJ1 HM1 j0 j1 j2 j3 j4 j5 j6 j7 j8 j9 j10 g0 g1 g2 g3 g4 g5 g6 g7 g8 g9 g10 g11 g12 g13 g14
                      obtain ⟨rfl, rfl, HB1, HJ1, HM1⟩ := hcut
                      obtain ⟨j0, j1, j2, j3, j4, j5, j6, j7, j8, j9, j10⟩ := HJ1.out.cells
                      obtain ⟨g0, g1, g2, g3, g4, g5, g6, g7, g8, g9, g10, g11, g12, g13, g14⟩ := HM1.out.cells
                      by_cases z2 : b2 = 0
                      · have d_z2 : (b2 != 0) = false := bne_eq_false_iff_eq.2 z2
                        replace z2 := Aside0.mk z2
                        by_cases y2 : a2 = 0
                        · have d_y2 : (a2 != 0) = false := bne_eq_false_iff_eq.2 y2
                          replace y2 := Aside0.mk y2
                          go_wp2
                          go_roundw
                          case rel => exact ⟨q + 1, hql, by first | rfl | go_num | (rw [wrap_nat (by omega)]), fun _ => ae_zero HZ.out Z0.out HAC.out HST.out HQ0.out HDR.out HE1.out z1.out, loopJ_next HL.out HDR.out HEM.out (eR6 z0.out y0.out z1.out (.inl f3.out) z2.out y2.out), HB1.out, HJ1.out⟩
                          case measure => (try rw [wrap_nat (by omega)]); simp [intOf]; omega
                        · have d_y2 : (a2 != 0) = true := bne_iff_ne.2 y2
                          replace y2 := Aside0.mk y2
                          go_wp2
                          go_ret2
                          refine ⟨?_, HB1.out⟩
                          rw [jobS_at HZ.out Z0.out HAC.out HST.out HL.out HDR.out HEM.out (eR5 z0.out y0.out z1.out (.inl f3.out) z2.out y2.out) (by decide)]
                          rfl
                      · have d_z2 : (b2 != 0) = true := bne_iff_ne.2 z2
                        replace z2 := Aside0.mk z2
                        go_wp2
                        go_ret2
                        refine ⟨?_, HB1.out⟩
                        rw [jobS_at HZ.out Z0.out HAC.out HST.out HL.out HDR.out HEM.out (eR4 z0.out y0.out z1.out (.inl f3.out) z2.out) z2.out]
                        rfl
                  · have d_f3 : (fo != 3) = true := bne_iff_ne.2 f3
                    replace f3 := Aside0.mk f3
                    by_cases y1 : a1 = acc
                    · have d_y1 : (a1 != acc) = false := bne_eq_false_iff_eq.2 y1
                      replace y1 := Aside0.mk y1
                      go_wp2
                      go_cut [8, 9] (fun v8 v9 wc => v8 = .int .i64 a2 ∧ v9 = .int .i64 b2 ∧ Aside0 (Below w.heap.size w wc) ∧ Aside0 (JB wc w.heap.size nm ea (some ad) c2 em fo fin A8 c8 co pa) ∧ Aside0 (Row3 wc B 47 m A4 A9 A14 c4 c9 c14))
                      case first =>
                        go_region_with (first | (go_at_call 27; (with_reducible refine (HS.out _ ?sa ?sb).mono ?_); (case sa => exact Kd.C_below HC2.out (by first | exact HB1.out | exact below_drew1 HB1.out)); (case sb => exact Kd.C_below HC8.out (by first | exact HB1.out | exact below_drew1 HB1.out)); rintro e wn ⟨rfl, hb⟩; have n1_ := Aside0.mk (Below.trans (show Below w.heap.size w _ from (by first | exact HB1.out | exact below_drew1 HB1.out)) (hb.mono (Below.size (show Below w.heap.size w _ from (by first | exact HB1.out | exact below_drew1 HB1.out))))); have n2_ := Aside0.mk ((fun h => JB.below h hb) HJ1.out); have n3_ := Aside0.mk ((fun h => Row3.below h hb) HM1.out); clear HM1; have HM1 := n3_; clear n3_; clear g0 g1 g2 g3 g4 g5 g6 g7 g8 g9 g10 g11 g12 g13 g14; obtain ⟨g0, g1, g2, g3, g4, g5, g6, g7, g8, g9, g10, g11, g12, g13, g14⟩ := HM1.out.cells; clear HB1 HJ1; have HB1 := n1_; have HJ1 := n2_; clear n1_ n2_; (try clear j0 j1 j2 j3 j4 j5 j6 j7 j8 j9 j10); obtain ⟨j0, j1, j2, j3, j4, j5, j6, j7, j8, j9, j10⟩ := HJ1.out.cells; clear hb) | (go_at_call 9; (with_reducible refine (HK2.out _ ?sa).mono ?_); (case sa => exact Kd.C_below HC14.out (by first | exact HB1.out | exact below_drew1 HB1.out)); rintro e wn ⟨rfl, hb⟩; have n1_ := Aside0.mk (Below.trans (show Below w.heap.size w _ from (by first | exact HB1.out | exact below_drew1 HB1.out)) (hb.mono (Below.size (show Below w.heap.size w _ from (by first | exact HB1.out | exact below_drew1 HB1.out))))); have n2_ := Aside0.mk ((fun h => JB.below h hb) HJ1.out); have n3_ := Aside0.mk ((fun h => Row3.below h hb) HM1.out); clear HM1; have HM1 := n3_; clear n3_; clear g0 g1 g2 g3 g4 g5 g6 g7 g8 g9 g10 g11 g12 g13 g14; obtain ⟨g0, g1, g2, g3, g4, g5, g6, g7, g8, g9, g10, g11, g12, g13, g14⟩ := HM1.out.cells; clear HB1 HJ1; have HB1 := n1_; have HJ1 := n2_; clear n1_ n2_; (try clear j0 j1 j2 j3 j4 j5 j6 j7 j8 j9 j10); obtain ⟨j0, j1, j2, j3, j4, j5, j6, j7, j8, j9, j10⟩ := HJ1.out.cells; clear hb))
                        all_goals (try go_wp2)
                        all_goals go_meet
                        all_goals exact ⟨rfl, rfl, HB1, HJ1, HM1⟩
                      case rest =>
                        clear HB1 HJ1 HM1 j0 j1 j2 j3 j4 j5 j6 j7 j8 j9 j10 g0 g1 g2 g3 g4 g5 g6 g7 g8 g9 g10 g11 g12 g13 g14
                        obtain ⟨rfl, rfl, HB1, HJ1, HM1⟩ := hcut
                        obtain ⟨j0, j1, j2, j3, j4, j5, j6, j7, j8, j9, j10⟩ := HJ1.out.cells
                        obtain ⟨g0, g1, g2, g3, g4, g5, g6, g7, g8, g9, g10, g11, g12, g13, g14⟩ := HM1.out.cells
                        by_cases z2 : b2 = 0
                        · have d_z2 : (b2 != 0) = false := bne_eq_false_iff_eq.2 z2
                          replace z2 := Aside0.mk z2
                          by_cases y2 : a2 = 0
                          · have d_y2 : (a2 != 0) = false := bne_eq_false_iff_eq.2 y2
                            replace y2 := Aside0.mk y2
                            go_wp2
                            go_roundw
                            case rel => exact ⟨q + 1, hql, by first | rfl | go_num | (rw [wrap_nat (by omega)]), fun _ => ae_zero HZ.out Z0.out HAC.out HST.out HQ0.out HDR.out HE1.out z1.out, loopJ_next HL.out HDR.out HEM.out (eR6 z0.out y0.out z1.out (.inr y1.out) z2.out y2.out), HB1.out, HJ1.out⟩
                            case measure => (try rw [wrap_nat (by omega)]); simp [intOf]; omega
                          · have d_y2 : (a2 != 0) = true := bne_iff_ne.2 y2
                            replace y2 := Aside0.mk y2
                            go_wp2
                            go_ret2
                            refine ⟨?_, HB1.out⟩
                            rw [jobS_at HZ.out Z0.out HAC.out HST.out HL.out HDR.out HEM.out (eR5 z0.out y0.out z1.out (.inr y1.out) z2.out y2.out) (by decide)]
                            rfl
                        · have d_z2 : (b2 != 0) = true := bne_iff_ne.2 z2
                          replace z2 := Aside0.mk z2
                          go_wp2
                          go_ret2
                          refine ⟨?_, HB1.out⟩
                          rw [jobS_at HZ.out Z0.out HAC.out HST.out HL.out HDR.out HEM.out (eR4 z0.out y0.out z1.out (.inr y1.out) z2.out) z2.out]
                          rfl
                    · have d_y1 : (a1 != acc) = true := bne_iff_ne.2 y1
                      replace y1 := Aside0.mk y1
                      go_wp2
                      go_ret2
                      refine ⟨?_, HB1.out⟩
                      rw [jobS_at HZ.out Z0.out HAC.out HST.out HL.out HDR.out HEM.out (eR3 z0.out y0.out z1.out f3.out y1.out) (by decide)]
                      rfl
                · have d_z1 : (b1 != 0) = true := bne_iff_ne.2 z1
                  replace z1 := Aside0.mk z1
                  go_wp2
                  go_ret2
                  refine ⟨?_, HB1.out⟩
                  rw [jobS_at HZ.out Z0.out HAC.out HST.out HL.out HDR.out HEM.out (eR2 z0.out y0.out z1.out) z1.out]
                  rfl
            · have d_y0 : (a0 != 1) = true := bne_iff_ne.2 y0
              replace y0 := Aside0.mk y0
              go_wp2
              go_ret2
              refine ⟨?_, HB1.out⟩
              rw [jobS_at HZ.out Z0.out HAC.out HST.out HL.out HDR.out HEM.out (eR1 z0.out y0.out) (by decide)]
              rfl
          · have d_z0 : (b0 != 0) = true := bne_iff_ne.2 z0
            replace z0 := Aside0.mk z0
            go_wp2
            go_ret2
            refine ⟨?_, HB1.out⟩
            rw [jobS_at HZ.out Z0.out HAC.out HST.out HL.out HDR.out HEM.out (eR0 z0.out) z0.out]
            rfl
      · have d0 : decide ((q : Int) < (em.length : Int)) = false := decide_eq_false (by omega)
        have HK0 := Aside0.mk (fun W hC => rk_calls 2 acc HA01.out fin A8 c8 HF.out W hC hc8)
        obtain ⟨k1, hk1⟩ : ∃ k, kindS 2 acc fin = k := ⟨_, rfl⟩
        rw [hk1] at HK0
        obtain ⟨a0, b0⟩ := k1
        simp only at HK0
        have HJE := Aside0.mk (fun pa' (h : jrS nm ea em fo fin pa' = z) => jobS_end (co := co) h Z0.out HAC.out HST.out HL.out hql HQ0.out hk1)
        clear hk1
        by_cases z0 : b0 = 0
        · have d_z0 : (b0 != 0) = false := bne_eq_false_iff_eq.2 z0
          replace z0 := Aside0.mk z0
          by_cases y0 : a0 = 1
          · have d_y0 : (a0 != 1) = false := bne_eq_false_iff_eq.2 y0
            replace y0 := Aside0.mk y0
            cases co
            · skip
              go_wp2_with (go_at_call 9; (with_reducible refine (HK0.out _ ?sa).mono ?_); (case sa => exact Kd.C_below HC8.out (by first | exact HB1.out | exact below_drew1 HB1.out)); rintro e wn ⟨rfl, hb⟩; have n1_ := Aside0.mk (Below.trans (show Below w.heap.size w _ from (by first | exact HB1.out | exact below_drew1 HB1.out)) (hb.mono (Below.size (show Below w.heap.size w _ from (by first | exact HB1.out | exact below_drew1 HB1.out))))); have n2_ := Aside0.mk ((fun h => JB.below h hb) HJ1.out); clear HB1 HJ1; have HB1 := n1_; have HJ1 := n2_; clear n1_ n2_; (try clear j0 j1 j2 j3 j4 j5 j6 j7 j8 j9 j10); obtain ⟨j0, j1, j2, j3, j4, j5, j6, j7, j8, j9, j10⟩ := HJ1.out.cells; clear hb)
              go_ret2
              refine ⟨?_, HB1.out⟩
              rw [HJE.out pa HZ.out, show endR fo _ a0 b0 = (-1, 0) from (if_neg (fun q => q z0.out)).trans ((if_neg (fun q => q y0.out)).trans (if_neg (fun q => by cases q.1)))]
              rfl
            · by_cases t3 : 3 < fo
              · have t4 : decide (3 < fo) = true := decide_eq_true t3
                replace t3 := Aside0.mk t3
                go_wp2_with (go_at_call 9; (with_reducible refine (HK0.out _ ?sa).mono ?_); (case sa => exact Kd.C_below HC8.out (by first | exact HB1.out | exact below_drew1 HB1.out)); rintro e wn ⟨rfl, hb⟩; have n1_ := Aside0.mk (Below.trans (show Below w.heap.size w _ from (by first | exact HB1.out | exact below_drew1 HB1.out)) (hb.mono (Below.size (show Below w.heap.size w _ from (by first | exact HB1.out | exact below_drew1 HB1.out))))); have n2_ := Aside0.mk ((fun h => JB.below h hb) HJ1.out); clear HB1 HJ1; have HB1 := n1_; have HJ1 := n2_; clear n1_ n2_; (try clear j0 j1 j2 j3 j4 j5 j6 j7 j8 j9 j10); obtain ⟨j0, j1, j2, j3, j4, j5, j6, j7, j8, j9, j10⟩ := HJ1.out.cells; clear hb)
                go_ret2
                refine ⟨?_, HB1.out⟩
                rw [HJE.out pa HZ.out, show endR fo _ a0 b0 = (-1, 123) from (if_neg (fun q => q z0.out)).trans ((if_neg (fun q => q y0.out)).trans (if_pos ⟨rfl, t3.out⟩))]
                rfl
              · have t4 : decide (3 < fo) = false := decide_eq_false t3
                replace t3 := Aside0.mk t3
                go_wp2_with (go_at_call 9; (with_reducible refine (HK0.out _ ?sa).mono ?_); (case sa => exact Kd.C_below HC8.out (by first | exact HB1.out | exact below_drew1 HB1.out)); rintro e wn ⟨rfl, hb⟩; have n1_ := Aside0.mk (Below.trans (show Below w.heap.size w _ from (by first | exact HB1.out | exact below_drew1 HB1.out)) (hb.mono (Below.size (show Below w.heap.size w _ from (by first | exact HB1.out | exact below_drew1 HB1.out))))); have n2_ := Aside0.mk ((fun h => JB.below h hb) HJ1.out); clear HB1 HJ1; have HB1 := n1_; have HJ1 := n2_; clear n1_ n2_; (try clear j0 j1 j2 j3 j4 j5 j6 j7 j8 j9 j10); obtain ⟨j0, j1, j2, j3, j4, j5, j6, j7, j8, j9, j10⟩ := HJ1.out.cells; clear hb)
                go_ret2
                refine ⟨?_, HB1.out⟩
                rw [HJE.out pa HZ.out, show endR fo _ a0 b0 = (-1, 0) from (if_neg (fun q => q z0.out)).trans ((if_neg (fun q => q y0.out)).trans (if_neg (fun q => by have := t3.out; have := q.2; omega)))]
                rfl
          · have d_y0 : (a0 != 1) = true := bne_iff_ne.2 y0
            replace y0 := Aside0.mk y0
            go_wp2_with (go_at_call 9; (with_reducible refine (HK0.out _ ?sa).mono ?_); (case sa => exact Kd.C_below HC8.out (by first | exact HB1.out | exact below_drew1 HB1.out)); rintro e wn ⟨rfl, hb⟩; have n1_ := Aside0.mk (Below.trans (show Below w.heap.size w _ from (by first | exact HB1.out | exact below_drew1 HB1.out)) (hb.mono (Below.size (show Below w.heap.size w _ from (by first | exact HB1.out | exact below_drew1 HB1.out))))); have n2_ := Aside0.mk ((fun h => JB.below h hb) HJ1.out); clear HB1 HJ1; have HB1 := n1_; have HJ1 := n2_; clear n1_ n2_; (try clear j0 j1 j2 j3 j4 j5 j6 j7 j8 j9 j10); obtain ⟨j0, j1, j2, j3, j4, j5, j6, j7, j8, j9, j10⟩ := HJ1.out.cells; clear hb)
            go_ret2
            refine ⟨?_, HB1.out⟩
            rw [HJE.out pa HZ.out, show endR fo _ a0 b0 = (8, 120) from (if_neg (fun q => q z0.out)).trans (if_pos y0.out)]
            rfl
        · have d_z0 : (b0 != 0) = true := bne_iff_ne.2 z0
          replace z0 := Aside0.mk z0
          go_wp2_with (go_at_call 9; (with_reducible refine (HK0.out _ ?sa).mono ?_); (case sa => exact Kd.C_below HC8.out (by first | exact HB1.out | exact below_drew1 HB1.out)); rintro e wn ⟨rfl, hb⟩; have n1_ := Aside0.mk (Below.trans (show Below w.heap.size w _ from (by first | exact HB1.out | exact below_drew1 HB1.out)) (hb.mono (Below.size (show Below w.heap.size w _ from (by first | exact HB1.out | exact below_drew1 HB1.out))))); have n2_ := Aside0.mk ((fun h => JB.below h hb) HJ1.out); clear HB1 HJ1; have HB1 := n1_; have HJ1 := n2_; clear n1_ n2_; (try clear j0 j1 j2 j3 j4 j5 j6 j7 j8 j9 j10); obtain ⟨j0, j1, j2, j3, j4, j5, j6, j7, j8, j9, j10⟩ := HJ1.out.cells; clear hb)
          go_ret2
          refine ⟨?_, HB1.out⟩
          rw [HJE.out pa HZ.out, show endR fo _ a0 b0 = (8, b0) from if_pos z0.out]
          rfl
  · have z1 : (z != 0) = true := bne_iff_ne.2 z0
    have Z0 := Aside0.mk z0
    clear z0
    go_wp2_with (first | (go_at_call 26; (with_reducible refine (HR.out _ ?sa ?sb).mono ?_); (case sa => exact Kd.C_below HC2.out (by first | exact HB1.out | exact below_drew1 HB1.out)); (case sb => exact Kd.C_below HC8.out (by first | exact HB1.out | exact below_drew1 HB1.out)); rintro e wn ⟨rfl, hb⟩; have n1_ := Aside0.mk (Below.trans (show Below w.heap.size w _ from (by first | exact HB1.out | exact below_drew1 HB1.out)) (hb.mono (Below.size (show Below w.heap.size w _ from (by first | exact HB1.out | exact below_drew1 HB1.out))))); have n2_ := Aside0.mk ((fun h => JB.below h hb) HJ1.out); clear HB1 HJ1; have HB1 := n1_; have HJ1 := n2_; clear n1_ n2_; (try clear j0 j1 j2 j3 j4 j5 j6 j7 j8 j9 j10); obtain ⟨j0, j1, j2, j3, j4, j5, j6, j7, j8, j9, j10⟩ := HJ1.out.cells; clear hb))
    go_ret2
    refine ⟨?_, HB1.out⟩
    rw [jobS_bad HZ.out Z0.out]
    rfl

end Go.Proofs.Ytejeaiplbhgfdaa.CkLaw
