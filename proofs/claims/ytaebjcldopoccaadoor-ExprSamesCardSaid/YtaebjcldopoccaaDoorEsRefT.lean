/- The document's text of any expression: numbers, names, and the walk of its Text. -/
import Derived.Test.YtaebjcldopoccaaDoorEsTextC
import Derived.Test.YtaebjcldopoccaaDoorEnLaw
set_option linter.unusedVariables false
set_option linter.unusedSimpArgs false
namespace Go.Proofs.YtaebjcldopoccaaDoor.EsRefT
open Go.RowKit Go.Shelf Go.Proofs.YtaebjcldopoccaaDoorW.PrintWords Go.Proofs.YtaebjcldopoccaaDoorW.PrintLast Go.Proofs.YtaebjcldopoccaaDoorW.PrintMore Go.Proofs.YtaebjcldopoccaaDoor.Es Go.Proofs.YtaebjcldopoccaaDoor.EsIter Go.Proofs.YtaebjcldopoccaaDoor.EsLaw Go.Proofs.YtaebjcldopoccaaDoor.EsText Go.Proofs.YtaebjcldopoccaaDoor.EsTextC

/-! ### numbers -/
def dig (d : Nat) : UInt8 := UInt8.ofNat (48 + d)
theorem dig_ext (d : Nat) (h : d < 10) : (⟨#[48, 49, 50, 51, 52, 53, 54, 55, 56, 57]⟩ : ByteArray).extract d (d + 1) = bs [dig d] := by
  have hn : d = 0 ∨ d = 1 ∨ d = 2 ∨ d = 3 ∨ d = 4 ∨ d = 5 ∨ d = 6 ∨ d = 7 ∨ d = 8 ∨ d = 9 := by omega
  rw [En.ext_one (⟨#[48, 49, 50, 51, 52, 53, 54, 55, 56, 57]⟩ : ByteArray) d (show d < 10 from h)]
  rcases hn with h | h | h | h | h | h | h | h | h | h <;> subst h <;> rfl
theorem bs_app (a b : List UInt8) : bs a ++ bs b = bs (a ++ b) := En.ba_append a b
theorem bs_size (a : List UInt8) : (bs a).size = a.length := En.ba_size a
theorem wr' (n : Int) (h0 : -4611686018427387904 ≤ n) (h : n < 4611686018427387904) : wrap64 n = n := by unfold wrap64; omega
theorem num_step (i : Int) (m : Nat) (n : Int) (hn : n = (m : Int) ∨ n = -(m : Int)) (hm : m ≤ 9223372036854775808) (s : List UInt8) (hs : s.length ≤ 1000) (f : Nat) :
    gristmillref05_Number.j1 (f + 1) i (bs s) n true = gristmillref05_Number.l0 f i (bs (dig (m % 10) :: s)) (Int.tdiv n 10) := by
  have hd : m % 10 < 10 := Nat.mod_lt _ (by decide)
  have he := dig_ext (m % 10) hd
  have hsz : (bs [dig (m % 10)]).size = 1 := rfl
  have happ : bs [dig (m % 10)] ++ bs s = bs (dig (m % 10) :: s) := bs_app _ _
  have ht : Int.tmod n 10 = (m % 10 : Nat) ∨ (Int.tmod n 10 = -((m % 10 : Nat) : Int)) := by
    rcases hn with rfl | rfl
    · exact .inl rfl
    · refine .inr ?_
      rw [Int.neg_tmod]
      rfl
  have hq : Int.tdiv n 10 = (m / 10 : Nat) ∨ (Int.tdiv n 10 = -((m / 10 : Nat) : Int)) := by
    rcases hn with rfl | rfl
    · exact .inl rfl
    · refine .inr ?_
      rw [Int.neg_tdiv]
      rfl
  have hwq : wrap64 (Int.tdiv n 10) = Int.tdiv n 10 := by
    have : m / 10 ≤ 922337203685477580 := by omega
    rcases hq with h | h <;> rw [h] <;> exact wr' _ (by omega) (by omega)
  simp only [gristmillref05_Number.j1, if_true]
  rw [hwq]
  generalize m % 10 = d at *
  rcases ht with h | h
  · rw [h]
    rw [if_neg (show ¬ ((d : Nat) : Int) < 0 by omega), if_pos (by omega), wrap_nat (n := d) (by omega), if_pos (by omega), if_pos (by omega)]
    simp only [Int.toNat_natCast]
    rw [he, hsz, bs_size, if_pos (by omega), happ]
  · rw [h]
    have hw1 : wrap64 (-(-((d : Nat) : Int))) = ((d : Nat) : Int) := by rw [Int.neg_neg]; exact wr' _ (by omega) (by omega)
    rw [hw1, wrap_nat (n := d) (by omega)]
    simp only [Int.toNat_natCast]
    rw [he, hsz, bs_size]
    by_cases h0 : -((d : Nat) : Int) < 0
    · rw [if_pos h0, if_pos (by omega), if_pos (by omega), if_pos (by omega), if_pos (by omega), happ]
    · have hd0 : d = 0 := by omega
      subst hd0
      rw [if_neg h0, if_pos (by omega)]
      simp only [Int.ofNat_eq_natCast, Int.natCast_zero, Int.neg_zero]
      have w1 : wrap64 ((0 : Int) + 1) = 1 := wr' 1 (by omega) (by omega)
      rw [w1, if_pos (by omega), if_pos (by omega)]
      have he' : (⟨#[48, 49, 50, 51, 52, 53, 54, 55, 56, 57]⟩ : ByteArray).extract (Int.toNat 0) (Int.toNat 1) = bs [dig 0] := he
      rw [he', hsz, if_pos (by omega), happ]
def signed (i : Int) (t : List UInt8) : List UInt8 := if i < 0 then 45 :: t else t
theorem num_end (i : Int) (s : List UInt8) (h0 : s ≠ []) (hs : s.length ≤ 1000) (f : Nat) : gristmillref05_Number.l0 (f + 2) i (bs s) 0 = some (bs (signed i s)) := by
  have hb : ((bs s).toList == ([] : List UInt8)) = false := by
    rw [beq_eq_false_iff_ne, ByteArray.toList_eq]
    simpa [bs] using h0
  rw [show f + 2 = (f + 1) + 1 from rfl]
  simp only [gristmillref05_Number.l0, if_true, hb]
  simp only [gristmillref05_Number.j1, Bool.false_eq_true, if_false]
  unfold signed
  by_cases hi : i < 0
  · rw [if_pos hi, if_pos (by rw [bs_size]; omega), if_pos hi]
    exact congrArg some (bs_app [45] s)
  · rw [if_neg hi, if_neg hi]
theorem num_loop (i : Int) (m : Nat) : m ≤ 9223372036854775808 → ∀ (n : Int) (s : List UInt8), (n = (m : Int) ∨ n = -(m : Int)) → m ≠ 0 → s.length + (Lib.decDigits m).length ≤ 900 →
    Ev (fun k => gristmillref05_Number.l0 k i (bs s) n) (bs (signed i (Lib.decDigits m ++ s))) := by
  induction m using Nat.strongRecOn with
  | _ m ih =>
  intro hm n s hn h0 hs
  have hn0 : n ≠ 0 := by omega
  have hdl : 1 ≤ (Lib.decDigits m).length := by
    rw [Lib.decDigits]
    split <;> simp
  by_cases h10 : m < 10
  · have hd : Lib.decDigits m = [dig (m % 10)] := by
      rw [Lib.decDigits, dif_pos h10, Nat.mod_eq_of_lt h10]
      rfl
    have hq : Int.tdiv n 10 = 0 := by
      have : m / 10 = 0 := by omega
      rcases hn with rfl | rfl
      · show ((m / 10 : Nat) : Int) = 0
        omega
      · rw [Int.neg_tdiv]
        show -((m / 10 : Nat) : Int) = 0
        omega
    rw [hd]
    refine Ev.step (f := fun k => gristmillref05_Number.j1 k i (bs s) n true) (fun k => by simp only [gristmillref05_Number.l0]; rw [if_neg hn0]) ?_
    refine Ev.step (f := fun k => gristmillref05_Number.l0 k i (bs (dig (m % 10) :: s)) (Int.tdiv n 10)) (fun k => num_step i m n hn hm s (by omega) k) ?_
    rw [hq]
    exact Ev.of (fun k => (gristmillref05_Number.mono_l k).1 i _ _) (k := 2) (num_end i _ (by simp) (by simp; omega) 0)
  · have hd : Lib.decDigits m = Lib.decDigits (m / 10) ++ [dig (m % 10)] := by
      conv => lhs; rw [Lib.decDigits]
      rw [dif_neg h10]
      rfl
    rw [hd] at hs ⊢
    simp only [List.length_append, List.length_cons, List.length_nil] at hs
    refine Ev.step (f := fun k => gristmillref05_Number.j1 k i (bs s) n true) (fun k => by simp only [gristmillref05_Number.l0]; rw [if_neg hn0]) ?_
    refine Ev.step (f := fun k => gristmillref05_Number.l0 k i (bs (dig (m % 10) :: s)) (Int.tdiv n 10)) (fun k => num_step i m n hn hm s (by omega) k) ?_
    have hq : Int.tdiv n 10 = ((m / 10 : Nat) : Int) ∨ Int.tdiv n 10 = -((m / 10 : Nat) : Int) := by
      rcases hn with rfl | rfl
      · exact .inl rfl
      · refine .inr ?_
        rw [Int.neg_tdiv]
        rfl
    have := ih (m / 10) (by omega) (by omega) (Int.tdiv n 10) (dig (m % 10) :: s) hq (by omega) (by simp only [List.length_cons]; omega)
    rw [List.append_assoc]
    exact this
theorem num_ref (i : Int) (h0 : -9223372036854775808 ≤ i) (h1 : i ≤ 9223372036854775807) : Ev (fun k => gristmillref05_Number.f k i) (bs (Lib.itoa i)) := by
  have hlen := Lib.itoa_length_le i h0 h1
  by_cases hz : i = 0
  · subst hz
    refine Ev.of (fun k => gristmillref05_Number.mono 0 k) (k := 5) ?_
    unfold gristmillref05_Number.f
    rw [show (5 : Nat) = 4 + 1 from rfl]
    simp only [gristmillref05_Number.l0, if_true]
    have hb : ((⟨#[]⟩ : ByteArray).toList == ([] : List UInt8)) = true := by
      rw [ByteArray.toList_eq]
      rfl
    rw [hb]
    have := num_step 0 0 0 (.inl rfl) (by omega) [] (by simp) 3
    refine Eq.trans this ?_
    have hi : Lib.itoa 0 = [dig 0] := by
      unfold Lib.itoa
      rw [if_neg (by omega), Lib.decDigits]
      rfl
    rw [hi]
    exact num_end 0 [dig 0] (by simp) (by simp) 1
  · have h := num_loop i i.natAbs (by omega) i [] (by omega) (by omega) (by
      unfold Lib.itoa at hlen
      split at hlen
      · simp only [List.length_cons, List.length_nil] at hlen ⊢; omega
      · have : i.natAbs = i.toNat := by omega
        rw [this]
        simp only [List.length_nil]
        omega)
    have e : signed i (Lib.decDigits i.natAbs ++ []) = Lib.itoa i := by
      unfold signed Lib.itoa
      rw [List.append_nil]
      split
      · rfl
      · have : i.natAbs = i.toNat := by omega
        rw [this]
    rw [e] at h
    exact h
theorem num_calls (i : Int) (h0 : -9223372036854775808 ≤ i) (h1 : i ≤ 9223372036854775807) (w : World) : Calls Tryd.prog 41 #[.int .i64 i] w fun e w' => e = .returned (.string (bs (Lib.itoa i))) ∧ Below w.heap.size w w' := by
  obtain ⟨k, h⟩ := (num_ref i h0 h1).rounds
  exact (gristmillref05_Number.calls k i _ w h).mono fun e w' ⟨he, hd⟩ => ⟨he, by obtain ⟨q, rfl⟩ := hd.out; exact pw_below_drewN (Below.refl _ _) q⟩
theorem rquote_calls (s : ByteArray) (hs : s.size ≤ 100000) (w : World) : Calls Tryd.prog 13 #[.string s] w fun e w' => e = .returned (.string (bs (En.quoteS s))) ∧ Below w.heap.size w w' := by
  obtain ⟨k, h⟩ := (En.quote_ref s hs).rounds
  exact (En.gristmillref09_Quote.calls k s _ w h).mono fun e w' ⟨he, hd⟩ => ⟨he, by obtain ⟨q, rfl⟩ := hd.out; exact pw_below_drewN (Below.refl _ _) q⟩

/-! ### names -/
theorem names_at : ∃ ns, gristmillref09_Names.f = some ns ∧ ns.length = 28 ∧ ∀ o : Int, 0 < o → o < 28 → rdOf ByteArray.empty ns o = bs (nameS o) := by
  refine ⟨_, rfl, rfl, fun o h0 h1 => ?_⟩
  rcases op_cases (op := o) (by omega) (by omega) with h | h | h | h | h | h | h | h | h | h | h | h | h | h | h | h | h | h | h | h | h | h | h | h | h | h | h | h <;> subst h <;> first | rfl | omega
theorem name_none {o : Int} (h : o < 0 ∨ 28 ≤ o) : nameS o = [] := by
  have hk : expr_known.f o = some false := by
    unfold expr_known.f
    by_cases h0 : o ≥ 0
    · rw [if_pos h0, decide_eq_false (by omega)]
    · rw [if_neg h0]
  unfold nameS expr_Name.f
  rw [hk]
  rfl
/-- The name of an op, out of the document's row of names. -/
theorem rnames_calls (w : World) : Calls Tryd.prog 7 #[] w fun e w' => Below w.heap.size w w' ∧ ∃ ad c, e = .returned (.slice (some ad) 28 c) ∧ ∀ o : Int, 0 < o → o < 28 → w'.cell? (ad.add o.toNat) = some (.string (bs (nameS o))) := by
  obtain ⟨ns, h, hl, ha⟩ := names_at
  refine (gristmillref09_Names.calls ns w h).mono ?_
  rintro e w' ⟨v, rfl, hR, hb⟩
  refine ⟨hb, ?_⟩
  obtain ⟨A, c, rfl, hc, hC⟩ := Kd.R_reads hR
  obtain ⟨ad, _, rfl, _⟩ := Kd.C_get hC ByteArray.empty 1 (by omega) (by omega)
  rw [hl]
  refine ⟨ad, c, rfl, fun o h0 h1 => ?_⟩
  obtain ⟨ad', cs, he, _, hK, hcell⟩ := Kd.C_get hC ByteArray.empty o (by omega) (by omega)
  obtain rfl := Option.some.inj he
  rw [← ha o h0 h1]
  have hcs : cs = [.string (rdOf ByteArray.empty ns o)] := hK
  have := hcell 0 (.string (rdOf ByteArray.empty ns o)) (by rw [hcs]; rfl)
  simpa [show Kd.string.sz = 1 from rfl] using this

/-! ### the walk of Text -/
/-- What stands after k arguments. -/
def hd (o : Int) (l : List S35) (k : Nat) : List UInt8 := 40 :: (nameS o ++ textsS (l.take k))
theorem hd_zero (o : Int) (l : List S35) : bs (hd o l 0) = bs [40] ++ bs (nameS o) := by rw [bs_app]; simp [hd, textsS]
theorem texts_append (a b : List S35) : textsS (a ++ b) = textsS a ++ textsS b := by
  induction a with
  | nil => rfl
  | cons x t ih => simp only [List.cons_append, textsS, ih, List.append_assoc]
theorem hd_snoc (o : Int) (l : List S35) (k : Nat) (a : S35) (h : l[k]? = some a) : bs (hd o l (k + 1)) = bs (hd o l k) ++ bs [32] ++ bs (textS a) := by
  rw [bs_app, bs_app]
  unfold hd
  rw [List.take_add_one, h, texts_append]
  simp [textsS]
theorem w_mem {o : Int} {v : S32} {l : List S35} {a : S35} (h : a ∈ l) (hw : wS ⟨o, v, l⟩ ≤ 3000) : wS a ≤ 3000 := by
  have h1 := wsS_mem h
  simp only [wS] at hw
  omega
theorem fit_mem {o : Int} {v : S32} {l : List S35} {a : S35} (h : a ∈ l) (g : Fit35 ⟨o, v, l⟩) : Fit35 a := by
  cases g with
  | mk _ _ _ _ hg => exact hg a h
theorem texts_len (l : List S35) (hg : ∀ a, a ∈ l → Fit35 a) : (textsS l).length ≤ 41 * wsS l := by
  induction l with
  | nil => simp [textsS]
  | cons a t ih =>
    have h1 := text_len a (hg a List.mem_cons_self)
    have h2 := ih (fun b hb => hg b (List.mem_cons_of_mem _ hb))
    simp only [textsS, wsS, List.length_cons, List.length_append]
    omega
theorem hd_len (o : Int) (v : S32) (l : List S35) (g : Fit35 ⟨o, v, l⟩) (hw : wS ⟨o, v, l⟩ ≤ 3000) (k : Nat) (hk : k ≤ l.length) : (hd o l k).length ≤ 200000 := by
  have h0 : textsS l = textsS (l.take k) ++ textsS (l.drop k) := by rw [← texts_append, List.take_append_drop]
  have h1 := texts_len l (fun a h => fit_mem h g)
  rw [h0, List.length_append] at h1
  have h2 := nameS_len o
  simp only [wS] at hw
  unfold hd
  simp only [List.length_cons, List.length_append]
  omega
set_option maxRecDepth 100000 in
set_option maxHeartbeats 8000000 in
theorem rtext_calls (x : S35) : Fit35 x → wS x ≤ 3000 → ∀ (A : Option Addr) (c : Nat) (w : World), Kd.C k35 w A x.f2.length x.f2 → x.f2.length ≤ c →
    Calls Tryd.prog 25 #[.agg #[.int .i64 x.f0, .int .u8 x.f1.f0, .int .i64 x.f1.f1, .string x.f1.f2, .slice A x.f2.length c]] w fun e w' => e = .returned (.string (bs (textS x))) ∧ Below w.heap.size w w' := by
  induction x using tree_ind with
  | h o v l ih =>
  intro g hw A c w hC hc
  dsimp only at hC hc ⊢
  have HB := Aside0.mk (show Below w.heap.size w (w.alloc (.cells #[.int .i64 o, .int .u8 v.f0, .int .i64 v.f1, .string v.f2, .slice A l.length c] 35)) from (Below.refl _ w).alloc (Nat.le_refl _) _)
  have HX := Aside0.mk (show (w.alloc (.cells #[.int .i64 o, .int .u8 v.f0, .int .i64 v.f1, .string v.f2, .slice A l.length c] 35)).heap[w.heap.size]? = some (.cells #[.int .i64 o, .int .u8 v.f0, .int .i64 v.f1, .string v.f2, .slice A l.length c] 35 (0, 0)) from World.alloc_heap_new w _)
  have HC := Aside0.mk hC
  have HW := Aside0.mk hw
  have HG := Aside0.mk g
  have HI := Aside0.mk ih
  have HL := Aside0.mk hc
  clear hC hw g ih hc
  by_cases c0 : o = 0
  · have e0 : (o == 0) = true := beq_iff_eq.2 c0
    by_cases c1 : v.f0 = 0
    · have e1 : (v.f0 == 0) = true := beq_iff_eq.2 c1
      have C0 := Aside0.mk c0
      have C1 := Aside0.mk c1
      clear c0 c1
      go_enter Tryd.func25, Tryd.ntmps25
      go_wp2_with (go_at_call 41; refine (num_calls v.f1 (by have := HG.out; cases this with | mk _ _ hv _ _ => exact hv.2.2.1) (by have := HG.out; cases this with | mk _ _ hv _ _ => exact hv.2.2.2.1) _).mono ?_; rintro e w1 ⟨rfl, hb⟩; have HB1 := Aside0.mk (HB.out.trans (hb.mono HB.out.size)); clear hb)
      go_ret
      refine ⟨?_, HB1.out⟩
      simp only [textS]
      rw [if_pos C0.out, if_pos C1.out]
      rfl
    · have e1 : (v.f0 == 0) = false := beq_eq_false_iff_ne.2 c1
      have C0 := Aside0.mk c0
      have C1 := Aside0.mk c1
      clear c0 c1
      go_enter Tryd.func25, Tryd.ntmps25
      go_wp2_with (go_at_call 13; refine (rquote_calls v.f2 (by have := HW.out; simp only [wS] at this; omega) _).mono ?_; rintro e w1 ⟨rfl, hb⟩; have HB1 := Aside0.mk (HB.out.trans (hb.mono HB.out.size)); clear hb)
      go_ret
      refine ⟨?_, HB1.out⟩
      simp only [textS]
      rw [if_pos C0.out, if_neg C1.out]
      rfl
  · have e0 : (o == 0) = false := beq_eq_false_iff_ne.2 c0
    have C0 := Aside0.mk c0
    clear c0
    by_cases c1 : 0 < o
    · have e1 : decide (0 < o) = true := decide_eq_true c1
      by_cases c2 : o < 28
      · have e2 : decide (o < 28) = true := decide_eq_true c2
        have C1 := Aside0.mk c1
        have C2 := Aside0.mk c2
        clear c1 c2
        go_enter Tryd.func25, Tryd.ntmps25
        go_wp2
        have n0 : 0 ≤ o := by have := C1.out; omega
        have n1 : o < 28 := C2.out
        have j0 := (by rw [Lib.cell_of_heap HX.out]; rfl : (w.alloc (.cells #[.int .i64 o, .int .u8 v.f0, .int .i64 v.f1, .string v.f2, .slice A l.length c] 35)).cell? ⟨w.heap.size, 0, none⟩ = some (.int .i64 o))
        go_cut [3] (fun v3 wc => v3 = .string (bs (nameS o)) ∧ Aside0 (Below w.heap.size w wc) ∧ Aside0 (wc.heap[w.heap.size]? = some (.cells #[.int .i64 o, .int .u8 v.f0, .int .i64 v.f1, .string v.f2, .slice A l.length c] 35 (0, 0))))
        case first =>
          go_region_with (first | (go_at_call 7; refine (rnames_calls _).mono ?_; rintro e w1 ⟨hb, ad, cc, rfl, hcells⟩; have hcell := hcells o C1.out n1; have HB1 := Aside0.mk ((pw_below_drewN HB.out 1).trans (hb.mono HB.out.size)); have HX1 := Aside0.mk ((hb.block _ (Array.getElem?_eq_some_iff.1 HX.out).1).trans HX.out); have j1 := (by rw [Lib.cell_of_heap HX1.out]; rfl : w1.cell? ⟨w.heap.size, 0, none⟩ = some (.int .i64 o)); clear hb hcells))
          all_goals (try go_wp2)
          all_goals go_meet
          all_goals exact ⟨rfl, HB1, HX1⟩
        case rest =>
          clear HB HX j0 n0 n1
          obtain ⟨rfl, HB, HX⟩ := hcut
          have j4 := (by rw [Lib.cell_of_heap HX.out]; rfl : wc.cell? ⟨w.heap.size, 4, none⟩ = some (.slice A l.length c))
          by_cases c3 : l.length = 0
          · have e3 : ((l.length : Int) == 0) = true := beq_iff_eq.2 (by omega)
            have C3 := Aside0.mk c3
            clear c3
            go_wp2
            go_ret
            refine ⟨?_, HB.out⟩
            simp only [textS]
            rw [if_neg C0.out, if_pos C3.out]
            rfl
          · have e3 : ((l.length : Int) == 0) = false := beq_eq_false_iff_ne.2 (by omega)
            have s0 : (9223372036854775807 < 1 + (bs (nameS o)).size) = False := by rw [bs_size]; have := nameS_len o; exact eq_false (by omega)
            have C3 := Aside0.mk c3
            clear c3
            go_wp2
            go_loopw [4, 5] (fun t i wr => ∃ k : Nat, k ≤ l.length ∧ t = .string (bs (hd o l k)) ∧ i = .int .i64 k ∧ Below w.heap.size w wr ∧ wr.heap[w.heap.size]? = some (.cells #[.int .i64 o, .int .u8 v.f0, .int .i64 v.f1, .string v.f2, .slice A l.length c] 35 (0, 0)))
              (fun _ i _ => l.length - (intOf i).toNat)
            case atStart => exact ⟨0, Nat.zero_le _, by rw [hd_zero]; rfl, rfl, HB.out, HX.out⟩
            case round =>
              clear HB HX j4
              obtain ⟨k, hk, rfl, rfl, hb, hx⟩ := hrel
              have HB := Aside0.mk hb
              have HX := Aside0.mk hx
              clear hb hx
              have j4 := (by rw [Lib.cell_of_heap HX.out]; rfl : wr.cell? ⟨w.heap.size, 4, none⟩ = some (.slice A l.length c))
              by_cases hlt : k < l.length
              · obtain ⟨ad, A4, c4, hA, g0, g1, g2, g3, g4, hl4, hC4⟩ := at_T35 HC.out (k : Int) (by omega) (by omega)
                have hrd : rd_T35 l (k : Int) = l[k] := by
                  unfold rd_T35
                  rw [Int.toNat_natCast, List.getD_eq_getElem?_getD, List.getElem?_eq_getElem hlt]
                  rfl
                have hmem : l[k] ∈ l := List.getElem_mem hlt
                have hsn := hd_snoc o l k l[k] (List.getElem?_eq_getElem hlt)
                rw [hrd] at g0 g1 g2 g3 g4 hl4 hC4
                simp only [Int.toNat_natCast] at g0 g1 g2 g3 g4
                clear hrd
                generalize l[k] = a at *
                have hb3 := HB.out
                replace g0 := (hb3.cell (World.block_lt_of_cell? w _ g0)).trans g0
                replace g1 := (hb3.cell (World.block_lt_of_cell? w _ g1)).trans g1
                replace g2 := (hb3.cell (World.block_lt_of_cell? w _ g2)).trans g2
                replace g3 := (hb3.cell (World.block_lt_of_cell? w _ g3)).trans g3
                replace g4 := (hb3.cell (World.block_lt_of_cell? w _ g4)).trans g4
                subst hA
                have hwa := w_mem hmem HW.out
                have hga := fit_mem hmem HG.out
                have HCALL := Aside0.mk (fun (W : World) (hW : Below wr.heap.size wr W) => HI.out a hmem hga hwa A4 c4 W (Kd.C_below hC4 (hb3.trans (hW.mono hb3.size))) hl4)
                have hlt' := hd_len o v l HG.out HW.out k (by omega)
                have hla := text_len a hga
                have z1 : (9223372036854775807 < (bs (hd o l k)).size + 1) = False := by rw [bs_size]; exact eq_false (by omega)
                have z2 : (9223372036854775807 < (bs (hd o l k)).size + 1 + (bs (textS a)).size) = False := by rw [bs_size, bs_size]; exact eq_false (by omega)
                have HSN := Aside0.mk hsn
                have HLT := Aside0.mk hlt
                have HL3 := Aside0.mk (show l.length ≤ 3000 by have h1 := wsS_len l; have h2 := HW.out; simp only [wS] at h2; omega)
                clear hb3 hwa hga hsn hl4 hC4 hlt' hla
                go_wp2_with (first | (go_at_call 25; refine (HCALL.out _ (by first | exact Below.refl _ _ | exact pw_below_drewN (Below.refl _ _) 1)).mono ?_; rintro e w1 ⟨rfl, hb⟩; have HB1 : Aside0 (Below w.heap.size w w1) := ⟨by first | exact HB.out.trans (hb.mono HB.out.size) | exact (pw_below_drewN HB.out 1).trans (hb.mono HB.out.size)⟩; have HX1 := Aside0.mk ((hb.block _ (Array.getElem?_eq_some_iff.1 HX.out).1).trans HX.out); have j1 := (by rw [Lib.cell_of_heap HX1.out]; rfl : w1.cell? ⟨w.heap.size, 4, none⟩ = some (.slice (some ad) l.length c)); clear hb))
                go_roundw
                case rel => exact ⟨k + 1, HLT.out, by rw [HSN.out]; rfl, by rw [wrap_nat (by have := HLT.out; have := HL3.out; omega)], HB1.out, HX1.out⟩
                case measure => have := HLT.out; rw [wrap_nat (by have := HL3.out; omega)]; simp [intOf]; omega
              · obtain rfl : k = l.length := by omega
                have hlt' := hd_len o v l HG.out HW.out l.length (Nat.le_refl _)
                have z1 : (9223372036854775807 < (bs (hd o l l.length)).size + 1) = False := by rw [bs_size]; exact eq_false (by omega)
                clear hlt'
                go_wp2
                go_ret
                refine ⟨?_, HB.out⟩
                have et : bs (textS ⟨o, v, l⟩) = bs (hd o l l.length) ++ bs [41] := by
                  rw [bs_app]
                  unfold hd
                  simp only [textS]
                  rw [if_neg C0.out, if_neg C3.out, List.take_length]
                  simp
                rw [et]
                rfl
      · have e2 : decide (o < 28) = false := decide_eq_false c2
        have HN := Aside0.mk (name_none (o := o) (.inr (by omega)))
        clear c1 c2
        go_enter Tryd.func25, Tryd.ntmps25
        have j4 := (by rw [Lib.cell_of_heap HX.out]; rfl : (w.alloc (.cells #[.int .i64 o, .int .u8 v.f0, .int .i64 v.f1, .string v.f2, .slice A l.length c] 35)).cell? ⟨w.heap.size, 4, none⟩ = some (.slice A l.length c))
        by_cases c3 : l.length = 0
        · have e3 : ((l.length : Int) == 0) = true := beq_iff_eq.2 (by omega)
          have C3 := Aside0.mk c3
          clear c3
          go_wp2
          go_ret
          refine ⟨?_, HB.out⟩
          simp only [textS]
          rw [if_neg C0.out, if_pos C3.out]
          rw [HN.out]; rfl
        · have e3 : ((l.length : Int) == 0) = false := beq_eq_false_iff_ne.2 (by omega)
          have s0 : (9223372036854775807 < 1 + (bs (nameS o)).size) = False := by rw [bs_size]; have := nameS_len o; exact eq_false (by omega)
          have C3 := Aside0.mk c3
          clear c3
          go_wp2
          go_loopw [4, 5] (fun t i wr => ∃ k : Nat, k ≤ l.length ∧ t = .string (bs (hd o l k)) ∧ i = .int .i64 k ∧ Below w.heap.size w wr ∧ wr.heap[w.heap.size]? = some (.cells #[.int .i64 o, .int .u8 v.f0, .int .i64 v.f1, .string v.f2, .slice A l.length c] 35 (0, 0)))
            (fun _ i _ => l.length - (intOf i).toNat)
          case atStart => exact ⟨0, Nat.zero_le _, by rw [hd_zero, HN.out]; rfl, rfl, HB.out, HX.out⟩
          case round =>
            clear HB HX j4
            obtain ⟨k, hk, rfl, rfl, hb, hx⟩ := hrel
            have HB := Aside0.mk hb
            have HX := Aside0.mk hx
            clear hb hx
            have j4 := (by rw [Lib.cell_of_heap HX.out]; rfl : wr.cell? ⟨w.heap.size, 4, none⟩ = some (.slice A l.length c))
            by_cases hlt : k < l.length
            · obtain ⟨ad, A4, c4, hA, g0, g1, g2, g3, g4, hl4, hC4⟩ := at_T35 HC.out (k : Int) (by omega) (by omega)
              have hrd : rd_T35 l (k : Int) = l[k] := by
                unfold rd_T35
                rw [Int.toNat_natCast, List.getD_eq_getElem?_getD, List.getElem?_eq_getElem hlt]
                rfl
              have hmem : l[k] ∈ l := List.getElem_mem hlt
              have hsn := hd_snoc o l k l[k] (List.getElem?_eq_getElem hlt)
              rw [hrd] at g0 g1 g2 g3 g4 hl4 hC4
              simp only [Int.toNat_natCast] at g0 g1 g2 g3 g4
              clear hrd
              generalize l[k] = a at *
              have hb3 := HB.out
              replace g0 := (hb3.cell (World.block_lt_of_cell? w _ g0)).trans g0
              replace g1 := (hb3.cell (World.block_lt_of_cell? w _ g1)).trans g1
              replace g2 := (hb3.cell (World.block_lt_of_cell? w _ g2)).trans g2
              replace g3 := (hb3.cell (World.block_lt_of_cell? w _ g3)).trans g3
              replace g4 := (hb3.cell (World.block_lt_of_cell? w _ g4)).trans g4
              subst hA
              have hwa := w_mem hmem HW.out
              have hga := fit_mem hmem HG.out
              have HCALL := Aside0.mk (fun (W : World) (hW : Below wr.heap.size wr W) => HI.out a hmem hga hwa A4 c4 W (Kd.C_below hC4 (hb3.trans (hW.mono hb3.size))) hl4)
              have hlt' := hd_len o v l HG.out HW.out k (by omega)
              have hla := text_len a hga
              have z1 : (9223372036854775807 < (bs (hd o l k)).size + 1) = False := by rw [bs_size]; exact eq_false (by omega)
              have z2 : (9223372036854775807 < (bs (hd o l k)).size + 1 + (bs (textS a)).size) = False := by rw [bs_size, bs_size]; exact eq_false (by omega)
              have HSN := Aside0.mk hsn
              have HLT := Aside0.mk hlt
              have HL3 := Aside0.mk (show l.length ≤ 3000 by have h1 := wsS_len l; have h2 := HW.out; simp only [wS] at h2; omega)
              clear hb3 hwa hga hsn hl4 hC4 hlt' hla
              go_wp2_with (first | (go_at_call 25; refine (HCALL.out _ (by first | exact Below.refl _ _ | exact pw_below_drewN (Below.refl _ _) 1)).mono ?_; rintro e w1 ⟨rfl, hb⟩; have HB1 : Aside0 (Below w.heap.size w w1) := ⟨by first | exact HB.out.trans (hb.mono HB.out.size) | exact (pw_below_drewN HB.out 1).trans (hb.mono HB.out.size)⟩; have HX1 := Aside0.mk ((hb.block _ (Array.getElem?_eq_some_iff.1 HX.out).1).trans HX.out); have j1 := (by rw [Lib.cell_of_heap HX1.out]; rfl : w1.cell? ⟨w.heap.size, 4, none⟩ = some (.slice (some ad) l.length c)); clear hb))
              go_roundw
              case rel => exact ⟨k + 1, HLT.out, by rw [HSN.out]; rfl, by rw [wrap_nat (by have := HLT.out; have := HL3.out; omega)], HB1.out, HX1.out⟩
              case measure => have := HLT.out; rw [wrap_nat (by have := HL3.out; omega)]; simp [intOf]; omega
            · obtain rfl : k = l.length := by omega
              have hlt' := hd_len o v l HG.out HW.out l.length (Nat.le_refl _)
              have z1 : (9223372036854775807 < (bs (hd o l l.length)).size + 1) = False := by rw [bs_size]; exact eq_false (by omega)
              clear hlt'
              go_wp2
              go_ret
              refine ⟨?_, HB.out⟩
              have et : bs (textS ⟨o, v, l⟩) = bs (hd o l l.length) ++ bs [41] := by
                rw [bs_app]
                unfold hd
                simp only [textS]
                rw [if_neg C0.out, if_neg C3.out, List.take_length]
                simp
              rw [et]
              rfl
    · have e1 : decide (0 < o) = false := decide_eq_false c1
      have HN := Aside0.mk (name_none (o := o) (.inl (by have := C0.out; omega)))
      clear c1
      go_enter Tryd.func25, Tryd.ntmps25
      have j4 := (by rw [Lib.cell_of_heap HX.out]; rfl : (w.alloc (.cells #[.int .i64 o, .int .u8 v.f0, .int .i64 v.f1, .string v.f2, .slice A l.length c] 35)).cell? ⟨w.heap.size, 4, none⟩ = some (.slice A l.length c))
      by_cases c3 : l.length = 0
      · have e3 : ((l.length : Int) == 0) = true := beq_iff_eq.2 (by omega)
        have C3 := Aside0.mk c3
        clear c3
        go_wp2
        go_ret
        refine ⟨?_, HB.out⟩
        simp only [textS]
        rw [if_neg C0.out, if_pos C3.out]
        rw [HN.out]; rfl
      · have e3 : ((l.length : Int) == 0) = false := beq_eq_false_iff_ne.2 (by omega)
        have s0 : (9223372036854775807 < 1 + (bs (nameS o)).size) = False := by rw [bs_size]; have := nameS_len o; exact eq_false (by omega)
        have C3 := Aside0.mk c3
        clear c3
        go_wp2
        go_loopw [4, 5] (fun t i wr => ∃ k : Nat, k ≤ l.length ∧ t = .string (bs (hd o l k)) ∧ i = .int .i64 k ∧ Below w.heap.size w wr ∧ wr.heap[w.heap.size]? = some (.cells #[.int .i64 o, .int .u8 v.f0, .int .i64 v.f1, .string v.f2, .slice A l.length c] 35 (0, 0)))
          (fun _ i _ => l.length - (intOf i).toNat)
        case atStart => exact ⟨0, Nat.zero_le _, by rw [hd_zero, HN.out]; rfl, rfl, HB.out, HX.out⟩
        case round =>
          clear HB HX j4
          obtain ⟨k, hk, rfl, rfl, hb, hx⟩ := hrel
          have HB := Aside0.mk hb
          have HX := Aside0.mk hx
          clear hb hx
          have j4 := (by rw [Lib.cell_of_heap HX.out]; rfl : wr.cell? ⟨w.heap.size, 4, none⟩ = some (.slice A l.length c))
          by_cases hlt : k < l.length
          · obtain ⟨ad, A4, c4, hA, g0, g1, g2, g3, g4, hl4, hC4⟩ := at_T35 HC.out (k : Int) (by omega) (by omega)
            have hrd : rd_T35 l (k : Int) = l[k] := by
              unfold rd_T35
              rw [Int.toNat_natCast, List.getD_eq_getElem?_getD, List.getElem?_eq_getElem hlt]
              rfl
            have hmem : l[k] ∈ l := List.getElem_mem hlt
            have hsn := hd_snoc o l k l[k] (List.getElem?_eq_getElem hlt)
            rw [hrd] at g0 g1 g2 g3 g4 hl4 hC4
            simp only [Int.toNat_natCast] at g0 g1 g2 g3 g4
            clear hrd
            generalize l[k] = a at *
            have hb3 := HB.out
            replace g0 := (hb3.cell (World.block_lt_of_cell? w _ g0)).trans g0
            replace g1 := (hb3.cell (World.block_lt_of_cell? w _ g1)).trans g1
            replace g2 := (hb3.cell (World.block_lt_of_cell? w _ g2)).trans g2
            replace g3 := (hb3.cell (World.block_lt_of_cell? w _ g3)).trans g3
            replace g4 := (hb3.cell (World.block_lt_of_cell? w _ g4)).trans g4
            subst hA
            have hwa := w_mem hmem HW.out
            have hga := fit_mem hmem HG.out
            have HCALL := Aside0.mk (fun (W : World) (hW : Below wr.heap.size wr W) => HI.out a hmem hga hwa A4 c4 W (Kd.C_below hC4 (hb3.trans (hW.mono hb3.size))) hl4)
            have hlt' := hd_len o v l HG.out HW.out k (by omega)
            have hla := text_len a hga
            have z1 : (9223372036854775807 < (bs (hd o l k)).size + 1) = False := by rw [bs_size]; exact eq_false (by omega)
            have z2 : (9223372036854775807 < (bs (hd o l k)).size + 1 + (bs (textS a)).size) = False := by rw [bs_size, bs_size]; exact eq_false (by omega)
            have HSN := Aside0.mk hsn
            have HLT := Aside0.mk hlt
            have HL3 := Aside0.mk (show l.length ≤ 3000 by have h1 := wsS_len l; have h2 := HW.out; simp only [wS] at h2; omega)
            clear hb3 hwa hga hsn hl4 hC4 hlt' hla
            go_wp2_with (first | (go_at_call 25; refine (HCALL.out _ (by first | exact Below.refl _ _ | exact pw_below_drewN (Below.refl _ _) 1)).mono ?_; rintro e w1 ⟨rfl, hb⟩; have HB1 : Aside0 (Below w.heap.size w w1) := ⟨by first | exact HB.out.trans (hb.mono HB.out.size) | exact (pw_below_drewN HB.out 1).trans (hb.mono HB.out.size)⟩; have HX1 := Aside0.mk ((hb.block _ (Array.getElem?_eq_some_iff.1 HX.out).1).trans HX.out); have j1 := (by rw [Lib.cell_of_heap HX1.out]; rfl : w1.cell? ⟨w.heap.size, 4, none⟩ = some (.slice (some ad) l.length c)); clear hb))
            go_roundw
            case rel => exact ⟨k + 1, HLT.out, by rw [HSN.out]; rfl, by rw [wrap_nat (by have := HLT.out; have := HL3.out; omega)], HB1.out, HX1.out⟩
            case measure => have := HLT.out; rw [wrap_nat (by have := HL3.out; omega)]; simp [intOf]; omega
          · obtain rfl : k = l.length := by omega
            have hlt' := hd_len o v l HG.out HW.out l.length (Nat.le_refl _)
            have z1 : (9223372036854775807 < (bs (hd o l l.length)).size + 1) = False := by rw [bs_size]; exact eq_false (by omega)
            clear hlt'
            go_wp2
            go_ret
            refine ⟨?_, HB.out⟩
            have et : bs (textS ⟨o, v, l⟩) = bs (hd o l l.length) ++ bs [41] := by
              rw [bs_app]
              unfold hd
              simp only [textS]
              rw [if_neg C0.out, if_neg C3.out, List.take_length]
              simp
            rw [et]
            rfl
end Go.Proofs.YtaebjcldopoccaaDoor.EsRefT
