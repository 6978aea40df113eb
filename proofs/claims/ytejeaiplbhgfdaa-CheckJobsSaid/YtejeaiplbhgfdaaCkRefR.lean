/- What gristmillref11.Right hands back, by its walk. -/
import Derived.Test.YtejeaiplbhgfdaaCkLaw4
namespace Go.Proofs.Ytejeaiplbhgfdaa.CkLaw
open Go.RowKit Go.Shelf Go.Proofs.YtejeaiplbhgfdaaW.PrintWords Go.Proofs.YtejeaiplbhgfdaaW.PrintLast Go.Proofs.YtejeaiplbhgfdaaW.PrintMore Go.Proofs.Ytejeaiplbhgfdaa.Ck Go.Proofs.Ytejeaiplbhgfdaa.CkIter Go.Proofs.Ytejeaiplbhgfdaa.CkFit

/-- gristmillref09.Right at an expression whose parts can be counted. -/
theorem rr_calls (x : S26) (A : Option Addr) (c : Nat) (h : (preS x).length < 9223372036854775807) (w : World) (hC : Kd.C k26 w A x.f2.length x.f2) (hc : x.f2.length ≤ c) :
    Calls Try.prog 35 #[.agg #[.int .i64 x.f0, .int .u8 x.f1.f0, .int .i64 x.f1.f1, .string x.f1.f2, .slice A x.f2.length c]] w fun e W' => e = .returned (.int .i64 (rv x)) ∧ Below w.heap.size w W' := by
  obtain ⟨k, hk⟩ := (right_ref x h).rounds
  exact gristmillref09_Right.calls k x.f0 x.f1.f0 x.f1.f1 x.f1.f2 A c x.f2 (rv x) w hC hc hk

theorem jrS_word {nm : ByteArray} {ea : Int} {em : List S47} {fo : Int} {fin : S26} {pa : Int} (h : wordS nm = false) : jrS nm ea em fo fin pa = 3 := by unfold jrS; rw [if_pos h]
theorem wordS_short {nm : ByteArray} (h : (nm.size : Int) < 1) : wordS nm = false := by
  unfold wordS
  rw [decide_eq_false (show ¬ 1 ≤ nm.size by omega)]
  simp
theorem wordS_long {nm : ByteArray} (h : (32 : Int) < (nm.size : Int)) : wordS nm = false := by
  unfold wordS
  rw [decide_eq_false (show ¬ nm.size ≤ 32 by omega)]
  simp
theorem take_bad (nm : ByteArray) (k : Nat) (h : k < nm.size) : okByte (nm.data.toList[k]'(by simpa using h)) = false → wordS nm = false := by
  intro hb
  unfold wordS
  have : nm.data.toList.all okByte = false := by
    rw [List.all_eq_false]
    exact ⟨_, List.getElem_mem _, by rw [hb]; decide⟩
  rw [this]
  rfl
theorem take_ok' (nm : ByteArray) (k : Nat) (h : k < nm.size) (ht : (nm.data.toList.take k).all okByte = true) (hb : okByte (nm.data.toList[k]'(by simpa using h)) = true) : (nm.data.toList.take (k + 1)).all okByte = true := by
  rw [List.take_succ_eq_append_getElem (by simpa using h), List.all_append, ht]
  simp only [List.all_cons, List.all_nil, hb, Bool.and_self]
theorem word_full {nm : ByteArray} (h0 : ¬ (nm.size : Int) < 1) (h1 : ¬ (32 : Int) < (nm.size : Int)) (h : nm.data.toList.all okByte = true) : wordS nm = true := by
  unfold wordS
  rw [h, decide_eq_true (show 1 ≤ nm.size by omega), decide_eq_true (show nm.size ≤ 32 by omega)]
  rfl
theorem jrS_8 {nm : ByteArray} {ea : Int} {em : List S47} {fo : Int} {fin : S26} {pa : Int} (hw : wordS nm = true) (h : ea < -1 ∨ 255 < ea ∨ pa < 1 ∨ 8 < pa ∨ foldBad fo = true) : jrS nm ea em fo fin pa = 8 := by
  unfold jrS
  rw [hw]
  repeat' split
  all_goals first | rfl | (exfalso; simp at *; done) | (exfalso; rcases h with h | h | h | h | h <;> first | omega | contradiction)
theorem jrS_9 {nm : ByteArray} {ea : Int} {em : List S47} {fo : Int} {fin : S26} {pa : Int} (hw : wordS nm = true) (h : ¬ (ea < -1 ∨ 255 < ea ∨ pa < 1 ∨ 8 < pa ∨ foldBad fo = true)) (hl : (em.length : Int) < 1 ∨ (8 : Int) < (em.length : Int)) : jrS nm ea em fo fin pa = 9 := by
  simp only [not_or] at h
  obtain ⟨h1, h2, h3, h4, h5⟩ := h
  unfold jrS
  rw [if_neg (by rw [hw]; decide), if_neg h1, if_neg h2, if_neg h3, if_neg h4, if_neg h5]
  rcases hl with hl | hl
  · rw [if_pos hl]
  · rw [if_neg (by omega), if_pos hl]
theorem jrS_all {nm : ByteArray} {ea : Int} {em : List S47} {fo : Int} {fin : S26} {pa : Int} (hw : wordS nm = true) (h : ¬ (ea < -1 ∨ 255 < ea ∨ pa < 1 ∨ 8 < pa ∨ foldBad fo = true)) (hl : ¬ ((em.length : Int) < 1 ∨ (8 : Int) < (em.length : Int))) : jrS nm ea em fo fin pa = firstErr (threes em ++ [fin]) := by
  simp only [not_or] at h hl
  obtain ⟨h1, h2, h3, h4, h5⟩ := h
  unfold jrS
  rw [if_neg (by rw [hw]; decide), if_neg h1, if_neg h2, if_neg h3, if_neg h4, if_neg h5, if_neg hl.1, if_neg hl.2]

set_option maxRecDepth 100000 in
set_option maxHeartbeats 4000000 in
theorem r11_calls (nm : ByteArray) (ea : Int) (A2 : Option Addr) (c2 : Nat) (em : List S47) (fo : Int) (fin : S26) (A8 : Option Addr) (c8 : Nat) (co : Bool) (pa : Int) (w : World) (hn : nm.size ≤ 9223372036854775807) (hC2 : Kd.C k47 w A2 em.length em) (hC8 : Kd.C k26 w A8 fin.f2.length fin.f2) (hc8 : fin.f2.length ≤ c8) (hsm : ∀ x, x ∈ threes em ++ [fin] → (preS x).length < 9223372036854775807) :
    Calls Try.prog 26 #[.agg #[.string nm, .int .i64 ea, .slice A2 em.length c2, .int .i64 fo, .int .i64 fin.f0, .int .u8 fin.f1.f0, .int .i64 fin.f1.f1, .string fin.f1.f2, .slice A8 fin.f2.length c8, .bool co, .int .i64 pa]] w fun e w' => e = .returned (.int .i64 (jrS nm ea em fo fin pa)) ∧ Below w.heap.size w w' := by
  have HC2 := Aside0.mk hC2
  have HC8 := Aside0.mk hC8
  have HS := Aside0.mk hsm
  have hlen := hC2.2.1
  have bJ : JB (w.alloc (.cells #[.string nm, .int .i64 ea, .slice A2 em.length c2, .int .i64 fo, .int .i64 fin.f0, .int .u8 fin.f1.f0, .int .i64 fin.f1.f1, .string fin.f1.f2, .slice A8 fin.f2.length c8, .bool co, .int .i64 pa] 38)) w.heap.size nm ea A2 c2 em fo fin A8 c8 co pa := World.alloc_heap_new w _
  have HJ := Aside0.mk bJ
  have hb0 : Below w.heap.size w (w.alloc (.cells #[.string nm, .int .i64 ea, .slice A2 em.length c2, .int .i64 fo, .int .i64 fin.f0, .int .u8 fin.f1.f0, .int .i64 fin.f1.f1, .string fin.f1.f2, .slice A8 fin.f2.length c8, .bool co, .int .i64 pa] 38)) := (Below.refl _ w).alloc (Nat.le_refl _) _
  have HB := Aside0.mk hb0
  clear hC2 hC8 hsm bJ hb0
  go_enter Try.func26, Try.ntmps26
  by_cases s0 : (nm.size : Int) < 1
  · have s1 : decide ((nm.size : Int) < 1) = true := decide_eq_true s0
    go_wp2
    go_ret
    refine ⟨?_, HB.out⟩
    rw [jrS_word (wordS_short s0)]
    rfl
  have s1 : decide ((nm.size : Int) < 1) = false := decide_eq_false s0
  by_cases t0 : (32 : Int) < (nm.size : Int)
  · have t1 : decide ((32 : Int) < (nm.size : Int)) = true := decide_eq_true t0
    go_wp2
    go_ret
    refine ⟨?_, HB.out⟩
    rw [jrS_word (wordS_long t0)]
    rfl
  have t1 : decide ((32 : Int) < (nm.size : Int)) = false := decide_eq_false t0
  go_wp2
  go_loopw [3] (fun i wr => ∃ k : Nat, k ≤ nm.size ∧ i = .int .i64 k ∧ (nm.data.toList.take k).all okByte = true ∧ Below w.heap.size w wr ∧ JB wr w.heap.size nm ea A2 c2 em fo fin A8 c8 co pa)
    (fun i _ => nm.size - (intOf i).toNat)
  case atStart => exact ⟨0, Nat.zero_le _, rfl, rfl, HB.out, HJ.out⟩
  case round =>
    clear HB HJ
    obtain ⟨k, hk, rfl, hok, hb, hj⟩ := hrel
    have HO := Aside0.mk hok
    have HB := Aside0.mk hb
    have HJ := Aside0.mk hj
    obtain ⟨j0, j1, j2, j3, j4, j5, j6, j7, j8, j9, j10⟩ := hj.cells
    clear hok hb hj
    obtain ⟨x, hxk⟩ : ∃ x : Int, x = (k : Int) := ⟨_, rfl⟩
    rw [← hxk]
    by_cases hlt : k < nm.size
    · have d0 : decide (x < (nm.size : Int)) = true := decide_eq_true (by omega)
      have p0 : ((0 : Int) ≤ x) = True := eq_true (by omega)
      have q0 : (x < (nm.size : Int)) = True := eq_true (by omega)
      have hx := bt_at nm x
      have hg := bt_get nm k hlt
      rw [← hxk] at hg
      have hc := take_bad nm k hlt
      have hc2 := take_ok' nm k hlt HO.out
      generalize nm.data.toList[k]'(by simpa using hlt) = c at hg hc hc2
      have HX := Aside0.mk hxk
      have HL := Aside0.mk hlt
      clear hxk hlt
      have HG := Aside0.mk hg
      have HCN := Aside0.mk hc
      have HCP := Aside0.mk hc2
      clear hg hc hc2
      by_cases a0 : bt nm x < 97
      · have a1 : decide (bt nm x < 97) = true := decide_eq_true a0
        go_wp2
        go_ret
        refine ⟨?_, HB.out⟩
        rw [jrS_word (HCN.out (by rw [HG.out] at a0; unfold okByte; rw [decide_eq_false (show ¬ 97 ≤ c.toNat by omega)]; rfl))]
        rfl
      have a1 : decide (bt nm x < 97) = false := decide_eq_false a0
      by_cases b0 : 122 < bt nm x
      · have b1 : decide (122 < bt nm x) = true := decide_eq_true b0
        go_wp2
        go_ret
        refine ⟨?_, HB.out⟩
        rw [jrS_word (HCN.out (by rw [HG.out] at b0; unfold okByte; rw [decide_eq_false (show ¬ c.toNat ≤ 122 by omega), Bool.and_false]))]
        rfl
      have b1 : decide (122 < bt nm x) = false := decide_eq_false b0
      go_wp2
      go_roundw
      case rel => exact ⟨k + 1, HL.out, by rw [HX.out, wrap_nat (by have := HL.out; omega)], HCP.out (by rw [HG.out] at a0 b0; unfold okByte; rw [decide_eq_true (show 97 ≤ c.toNat by omega), decide_eq_true (show c.toNat ≤ 122 by omega)]; rfl), HB.out, HJ.out⟩
      case measure => have := HL.out; rw [HX.out, wrap_nat (by omega)]; simp [intOf]; omega
    · have d0 : decide (x < (nm.size : Int)) = false := decide_eq_false (by omega)
      have hw : wordS nm = true := word_full (by omega) (by omega) (by rw [List.take_of_length_le (by simp; omega)] at HO; exact HO.out)
      have HW := Aside0.mk hw
      have HX := Aside0.mk hxk
      clear hw hxk hlt
      by_cases e0 : ea < -1
      · have f0 : decide (ea < -1) = true := decide_eq_true e0
        go_wp2
        go_ret
        refine ⟨?_, HB.out⟩
        rw [jrS_8 HW.out (by simp only [foldBad, Bool.or_eq_true, decide_eq_true_eq]; omega)]
        rfl
      have f0 : decide (ea < -1) = false := decide_eq_false e0
      by_cases e1 : 255 < ea
      · have f1 : decide (255 < ea) = true := decide_eq_true e1
        go_wp2
        go_ret
        refine ⟨?_, HB.out⟩
        rw [jrS_8 HW.out (by simp only [foldBad, Bool.or_eq_true, decide_eq_true_eq]; omega)]
        rfl
      have f1 : decide (255 < ea) = false := decide_eq_false e1
      by_cases e2 : pa < 1
      · have f2 : decide (pa < 1) = true := decide_eq_true e2
        go_wp2
        go_ret
        refine ⟨?_, HB.out⟩
        rw [jrS_8 HW.out (by simp only [foldBad, Bool.or_eq_true, decide_eq_true_eq]; omega)]
        rfl
      have f2 : decide (pa < 1) = false := decide_eq_false e2
      by_cases e3 : 8 < pa
      · have f3 : decide (8 < pa) = true := decide_eq_true e3
        go_wp2
        go_ret
        refine ⟨?_, HB.out⟩
        rw [jrS_8 HW.out (by simp only [foldBad, Bool.or_eq_true, decide_eq_true_eq]; omega)]
        rfl
      have f3 : decide (8 < pa) = false := decide_eq_false e3
      by_cases e4 : fo < 0
      · have f4 : decide (fo < 0) = true := decide_eq_true e4
        go_wp2
        go_ret
        refine ⟨?_, HB.out⟩
        rw [jrS_8 HW.out (by simp only [foldBad, Bool.or_eq_true, decide_eq_true_eq]; omega)]
        rfl
      have f4 : decide (fo < 0) = false := decide_eq_false e4
      by_cases e5 : 6 < fo
      · have f5 : decide (6 < fo) = true := decide_eq_true e5
        go_wp2
        go_ret
        refine ⟨?_, HB.out⟩
        rw [jrS_8 HW.out (by simp only [foldBad, Bool.or_eq_true, decide_eq_true_eq]; omega)]
        rfl
      have f5 : decide (6 < fo) = false := decide_eq_false e5
      by_cases g0 : (em.length : Int) < 1
      · have i0 : decide ((em.length : Int) < 1) = true := decide_eq_true g0
        go_wp2
        go_ret
        refine ⟨?_, HB.out⟩
        rw [jrS_9 HW.out (by simp only [foldBad, Bool.or_eq_true, decide_eq_true_eq]; omega) (by omega)]
        rfl
      have i0 : decide ((em.length : Int) < 1) = false := decide_eq_false g0
      by_cases g1 : (8 : Int) < (em.length : Int)
      · have i1 : decide ((8 : Int) < (em.length : Int)) = true := decide_eq_true g1
        go_wp2
        go_ret
        refine ⟨?_, HB.out⟩
        rw [jrS_9 HW.out (by simp only [foldBad, Bool.or_eq_true, decide_eq_true_eq]; omega) (by omega)]
        rfl
      have i1 : decide ((8 : Int) < (em.length : Int)) = false := decide_eq_false g1
      have hjr := jrS_all (fin := fin) HW.out (show ¬ (ea < -1 ∨ 255 < ea ∨ pa < 1 ∨ 8 < pa ∨ foldBad fo = true) by simp only [foldBad, Bool.or_eq_true, decide_eq_true_eq]; omega) (show ¬ ((em.length : Int) < 1 ∨ 8 < (em.length : Int)) by omega)
      have HR := Aside0.mk hjr
      clear hjr
      go_wp2
      clear f0 f1 f2 f3 f4 f5 i0 i1 e0 e1 e2 e3 e4 e5 g0 g1 d0 j0 j1 j2 j3 j4 j5 j6 j7 j8 j9 j10 HO
      go_loopw [4] (fun i wi => ∃ q : Nat, q ≤ em.length ∧ i = .int .i64 q ∧ firstErr (threes (em.take q)) = 0 ∧ Below w.heap.size w wi ∧ JB wi w.heap.size nm ea A2 c2 em fo fin A8 c8 co pa)
        (fun i _ => em.length - (intOf i).toNat)
      case atStart => exact ⟨0, Nat.zero_le _, rfl, rfl, HB.out, HJ.out⟩
      case round =>
        clear HB HJ
        obtain ⟨q, hq, rfl, hfe, hb, hj⟩ := hrel
        have HF := Aside0.mk hfe
        have HB := Aside0.mk hb
        have HJ := Aside0.mk hj
        obtain ⟨j0, j1, j2, j3, j4, j5, j6, j7, j8, j9, j10⟩ := hj.cells
        clear hfe hb hj
        by_cases hql : q < em.length
        · have d0 : decide ((q : Int) < (em.length : Int)) = true := decide_eq_true (by omega)
          obtain ⟨ad, A4, c4, A9, c9, A14, c14, hA, g0, g1, g2, g3, g4, g5, g6, g7, g8, g9, g10, g11, g12, g13, g14, l4, C4, l9, C9, l14, C14⟩ := at_T47 (Kd.C_below HC2.out HB.out) (q : Int) (by omega) (by omega)
          have hrd : rd_T47 em (q : Int) = em[q] := by
            unfold rd_T47
            rw [Int.toNat_natCast, List.getD_eq_getElem?_getD, List.getElem?_eq_getElem hql]
            rfl
          have hthree := threes_take em q hql
          have hmem : ∀ x, x ∈ three em[q] → (preS x).length < 9223372036854775807 := fun x hx => HS.out x (by
            obtain ⟨t, ht⟩ : ∃ t, threes em = threes (em.take (q + 1)) ++ t := ⟨threes (em.drop (q + 1)), by rw [← threes_append, List.take_append_drop]⟩
            rw [ht, hthree]
            simp [hx])
          rw [hrd] at g0 g1 g2 g3 g4 g5 g6 g7 g8 g9 g10 g11 g12 g13 g14 l4 C4 l9 C9 l14 C14
          simp only [Int.toNat_natCast] at g0 g1 g2 g3 g4 g5 g6 g7 g8 g9 g10 g11 g12 g13 g14
          clear hrd
          generalize em[q] = m at *
          subst hA
          have HT := Aside0.mk hthree
          have HM := Aside0.mk hmem
          clear hthree hmem
          have hcut : ∃ t, threes em = threes (em.take q) ++ (three m ++ t) := ⟨threes (em.drop (q + 1)), by rw [← List.append_assoc, ← HT.out, ← threes_append, List.take_append_drop]⟩
          obtain ⟨t, ht⟩ := hcut
          have HE := Aside0.mk ht
          clear ht
          have p1 : ((0 : Int) ≤ (q : Int)) = True := eq_true (by omega)
          have q1 : ((q : Int) < (em.length : Int)) = True := eq_true (by omega)
          go_wp2
          go_region
          have hw := HB.out.size
          have hr1 : Row3 (wr.alloc (.cells #[.int .i64 m.f0.f0, .int .u8 m.f0.f1.f0, .int .i64 m.f0.f1.f1, .string m.f0.f1.f2, .slice A4 m.f0.f2.length c4, .int .i64 m.f1.f0, .int .u8 m.f1.f1.f0, .int .i64 m.f1.f1.f1, .string m.f1.f1.f2, .slice A9 m.f1.f2.length c9, .int .i64 m.f2.f0, .int .u8 m.f2.f1.f0, .int .i64 m.f2.f1.f1, .string m.f2.f1.f2, .slice A14 m.f2.f2.length c14] 26)).drew wr.heap.size 26 m A4 A9 A14 c4 c9 c14 := World.alloc_heap_new wr _
          have hbr : Below wr.heap.size wr (wr.alloc (.cells #[.int .i64 m.f0.f0, .int .u8 m.f0.f1.f0, .int .i64 m.f0.f1.f1, .string m.f0.f1.f2, .slice A4 m.f0.f2.length c4, .int .i64 m.f1.f0, .int .u8 m.f1.f1.f0, .int .i64 m.f1.f1.f1, .string m.f1.f1.f2, .slice A9 m.f1.f2.length c9, .int .i64 m.f2.f0, .int .u8 m.f2.f1.f0, .int .i64 m.f2.f1.f1, .string m.f2.f1.f2, .slice A14 m.f2.f2.length c14] 26)).drew := below_drew1 ((Below.refl _ wr).alloc (Nat.le_refl _) _)
          have HR1 := Aside0.mk hr1
          have HJ1 := Aside0.mk (HJ.out.below hbr)
          have HB1 := Aside0.mk (HB.out.trans (hbr.mono hw))
          have HBR := Aside0.mk hbr
          clear hr1 hbr hw
          generalize (wr.alloc (.cells #[.int .i64 m.f0.f0, .int .u8 m.f0.f1.f0, .int .i64 m.f0.f1.f1, .string m.f0.f1.f2, .slice A4 m.f0.f2.length c4, .int .i64 m.f1.f0, .int .u8 m.f1.f1.f0, .int .i64 m.f1.f1.f1, .string m.f1.f1.f2, .slice A9 m.f1.f2.length c9, .int .i64 m.f2.f0, .int .u8 m.f2.f1.f0, .int .i64 m.f2.f1.f1, .string m.f2.f1.f2, .slice A14 m.f2.f2.length c14] 26)).drew = wo at HR1 HJ1 HB1 HBR ⊢
          obtain ⟨B, hB⟩ : ∃ B : Nat, wr.heap.size = B := ⟨_, rfl⟩
          rw [hB] at HR1 ⊢
          have HBW := Aside0.mk hB
          clear hB j0 j1 j2 j3 j4 j5 j6 j7 j8 j9 j10 g0 g1 g2 g3 g4 g5 g6 g7 g8 g9 g10 g11 g12 g13 g14 d0 p1 q1
          go_wp2
          go_loopw [6] (fun i wi => ∃ n : Nat, n ≤ 3 ∧ i = .int .i64 n ∧ firstErr ((three m).take n) = 0 ∧ Below w.heap.size w wi ∧ Below wr.heap.size wr wi ∧ JB wi w.heap.size nm ea (some ad) c2 em fo fin A8 c8 co pa ∧ Row3 wi B 26 m A4 A9 A14 c4 c9 c14)
            (fun i _ => 3 - (intOf i).toNat)
          case atStart => exact ⟨0, by omega, rfl, rfl, HB1.out, HBR.out, HJ1.out, HR1.out⟩
          case round =>
            clear HB1 HBR HJ1 HR1
            obtain ⟨n, hn3, rfl, hfe, hb, hbr, hj, hr⟩ := hrel
            have HF1 := Aside0.mk hfe
            have HB1 := Aside0.mk hb
            have HBR := Aside0.mk hbr
            have HJ1 := Aside0.mk hj
            have HR1 := Aside0.mk hr
            obtain ⟨r0, r1, r2, r3, r4, r5, r6, r7, r8, r9, r10, r11, r12, r13, r14⟩ := hr.cells
            clear hfe hb hbr hj hr
            have hn4 : n = 0 ∨ n = 1 ∨ n = 2 ∨ n = 3 := by omega
            rcases hn4 with rfl | rfl | rfl | rfl
            · have hcall := fun W hC => rr_calls m.f0 A4 c4 (HM.out m.f0 (by simp [three])) W hC l4
              have HC := Aside0.mk hcall
              clear hcall
              by_cases hz : rv m.f0 = 0
              · have hz1 : (rv m.f0 != 0) = false := bne_eq_false_iff_eq.2 hz
                have HZ := Aside0.mk hz
                clear hz
                go_wp2_with (go_at_call 35; refine (HC.out _ (Kd.C_below C4 HBR.out)).mono ?_; rintro e w2 ⟨rfl, hb⟩; have HB2 := Aside0.mk (HB1.out.trans (hb.mono HB1.out.size)); have HBR2 := Aside0.mk (HBR.out.trans (hb.mono HBR.out.size)); have HJ2 := Aside0.mk (HJ1.out.below hb); have HR2 := Aside0.mk (HR1.out.below hb); clear hb)
                go_roundw
                case rel => exact ⟨1, by omega, by first | rfl | go_num, by have := firstErr_snoc (x := m.f0) HF1.out; rw [HZ.out] at this; exact this, HB2.out, HBR2.out, HJ2.out, HR2.out⟩
                case measure => simp [intOf]
              · have hz1 : (rv m.f0 != 0) = true := bne_iff_ne.2 hz
                have HZ := Aside0.mk hz
                clear hz
                go_wp2_with (first | (go_at_call 35; refine (HC.out _ (Kd.C_below C4 HBR2.out)).mono ?_; rintro e w2 ⟨rfl, hb⟩; have HB3 := Aside0.mk (HB2.out.trans (hb.mono HB2.out.size)); clear hb) | (go_at_call 35; refine (HC.out _ (Kd.C_below C4 HBR.out)).mono ?_; rintro e w2 ⟨rfl, hb⟩; have HB2 := Aside0.mk (HB1.out.trans (hb.mono HB1.out.size)); have HBR2 := Aside0.mk (HBR.out.trans (hb.mono HBR.out.size)); have HR2 := Aside0.mk (HR1.out.below hb); clear r0 r1 r2 r3 r4 r5 r6 r7 r8 r9 r10 r11 r12 r13 r14; obtain ⟨r0, r1, r2, r3, r4, r5, r6, r7, r8, r9, r10, r11, r12, r13, r14⟩ := HR2.out.cells; clear hb))
                go_ret
                refine ⟨?_, HB3.out⟩
                have h1 : firstErr (threes (em.take q) ++ []) = 0 := by rw [firstErr_ok HF.out]; exact HF1.out
                have h2 : threes em ++ [fin] = (threes (em.take q) ++ []) ++ m.f0 :: (m.f1 :: m.f2 :: (t ++ [fin])) := by rw [HE.out]; simp [three]
                rw [HR.out, h2, firstErr_at h1 HZ.out]
                rfl
            · have hcall := fun W hC => rr_calls m.f1 A9 c9 (HM.out m.f1 (by simp [three])) W hC l9
              have HC := Aside0.mk hcall
              clear hcall
              by_cases hz : rv m.f1 = 0
              · have hz1 : (rv m.f1 != 0) = false := bne_eq_false_iff_eq.2 hz
                have HZ := Aside0.mk hz
                clear hz
                go_wp2_with (go_at_call 35; refine (HC.out _ (Kd.C_below C9 HBR.out)).mono ?_; rintro e w2 ⟨rfl, hb⟩; have HB2 := Aside0.mk (HB1.out.trans (hb.mono HB1.out.size)); have HBR2 := Aside0.mk (HBR.out.trans (hb.mono HBR.out.size)); have HJ2 := Aside0.mk (HJ1.out.below hb); have HR2 := Aside0.mk (HR1.out.below hb); clear hb)
                go_roundw
                case rel => exact ⟨2, by omega, by first | rfl | go_num, by have := firstErr_snoc (x := m.f1) HF1.out; rw [HZ.out] at this; exact this, HB2.out, HBR2.out, HJ2.out, HR2.out⟩
                case measure => simp [intOf]
              · have hz1 : (rv m.f1 != 0) = true := bne_iff_ne.2 hz
                have HZ := Aside0.mk hz
                clear hz
                go_wp2_with (first | (go_at_call 35; refine (HC.out _ (Kd.C_below C9 HBR2.out)).mono ?_; rintro e w2 ⟨rfl, hb⟩; have HB3 := Aside0.mk (HB2.out.trans (hb.mono HB2.out.size)); clear hb) | (go_at_call 35; refine (HC.out _ (Kd.C_below C9 HBR.out)).mono ?_; rintro e w2 ⟨rfl, hb⟩; have HB2 := Aside0.mk (HB1.out.trans (hb.mono HB1.out.size)); have HBR2 := Aside0.mk (HBR.out.trans (hb.mono HBR.out.size)); have HR2 := Aside0.mk (HR1.out.below hb); clear r0 r1 r2 r3 r4 r5 r6 r7 r8 r9 r10 r11 r12 r13 r14; obtain ⟨r0, r1, r2, r3, r4, r5, r6, r7, r8, r9, r10, r11, r12, r13, r14⟩ := HR2.out.cells; clear hb))
                go_ret
                refine ⟨?_, HB3.out⟩
                have h1 : firstErr (threes (em.take q) ++ [m.f0]) = 0 := by rw [firstErr_ok HF.out]; exact HF1.out
                have h2 : threes em ++ [fin] = (threes (em.take q) ++ [m.f0]) ++ m.f1 :: (m.f2 :: (t ++ [fin])) := by rw [HE.out]; simp [three]
                rw [HR.out, h2, firstErr_at h1 HZ.out]
                rfl
            · have hcall := fun W hC => rr_calls m.f2 A14 c14 (HM.out m.f2 (by simp [three])) W hC l14
              have HC := Aside0.mk hcall
              clear hcall
              by_cases hz : rv m.f2 = 0
              · have hz1 : (rv m.f2 != 0) = false := bne_eq_false_iff_eq.2 hz
                have HZ := Aside0.mk hz
                clear hz
                go_wp2_with (go_at_call 35; refine (HC.out _ (Kd.C_below C14 HBR.out)).mono ?_; rintro e w2 ⟨rfl, hb⟩; have HB2 := Aside0.mk (HB1.out.trans (hb.mono HB1.out.size)); have HBR2 := Aside0.mk (HBR.out.trans (hb.mono HBR.out.size)); have HJ2 := Aside0.mk (HJ1.out.below hb); have HR2 := Aside0.mk (HR1.out.below hb); clear hb)
                go_roundw
                case rel => exact ⟨3, by omega, by first | rfl | go_num, by have := firstErr_snoc (x := m.f2) HF1.out; rw [HZ.out] at this; exact this, HB2.out, HBR2.out, HJ2.out, HR2.out⟩
                case measure => simp [intOf]
              · have hz1 : (rv m.f2 != 0) = true := bne_iff_ne.2 hz
                have HZ := Aside0.mk hz
                clear hz
                go_wp2_with (first | (go_at_call 35; refine (HC.out _ (Kd.C_below C14 HBR2.out)).mono ?_; rintro e w2 ⟨rfl, hb⟩; have HB3 := Aside0.mk (HB2.out.trans (hb.mono HB2.out.size)); clear hb) | (go_at_call 35; refine (HC.out _ (Kd.C_below C14 HBR.out)).mono ?_; rintro e w2 ⟨rfl, hb⟩; have HB2 := Aside0.mk (HB1.out.trans (hb.mono HB1.out.size)); have HBR2 := Aside0.mk (HBR.out.trans (hb.mono HBR.out.size)); have HR2 := Aside0.mk (HR1.out.below hb); clear r0 r1 r2 r3 r4 r5 r6 r7 r8 r9 r10 r11 r12 r13 r14; obtain ⟨r0, r1, r2, r3, r4, r5, r6, r7, r8, r9, r10, r11, r12, r13, r14⟩ := HR2.out.cells; clear hb))
                go_ret
                refine ⟨?_, HB3.out⟩
                have h1 : firstErr (threes (em.take q) ++ [m.f0, m.f1]) = 0 := by rw [firstErr_ok HF.out]; exact HF1.out
                have h2 : threes em ++ [fin] = (threes (em.take q) ++ [m.f0, m.f1]) ++ m.f2 :: (t ++ [fin]) := by rw [HE.out]; simp [three]
                rw [HR.out, h2, firstErr_at h1 HZ.out]
                rfl
            · go_wp2
              go_roundw
              case rel => exact ⟨q + 1, hql, by first | rfl | go_num | (rw [wrap_nat (by omega)]), by rw [HT.out, firstErr_ok HF.out]; exact HF1.out, HB1.out, HJ1.out⟩
              case measure => (try rw [wrap_nat (by omega)]); simp [intOf]; omega
        · have d0 : decide ((q : Int) < (em.length : Int)) = false := decide_eq_false (by omega)
          have hcall := fun W hC => rr_calls fin A8 c8 (HS.out fin (by simp)) W hC hc8
          have HC := Aside0.mk hcall
          clear hcall
          go_wp2_with (go_at_call 35; refine (HC.out _ (Kd.C_below HC8.out HB.out)).mono ?_; rintro e w2 ⟨rfl, hb⟩; have HB2 := Aside0.mk (HB.out.trans (hb.mono HB.out.size)); clear hb)
          go_ret
          refine ⟨?_, HB2.out⟩
          rw [HR.out, firstErr_ok (by rw [List.take_of_length_le (by omega)] at HF; exact HF.out), firstErr_one]
          rfl

end Go.Proofs.Ytejeaiplbhgfdaa.CkLaw
