/- What expr.Text hands back for any expression that is not too great: its text. By its walk. -/
import Derived.Test.YtaebjcldopoccaaDoorEsLaw
import Derived.Test.YtaebjcldopoccaaDoorEnLive
import Derived.Lib.ItoaLen
import Derived.Lib.AppendIntMem
import Derived.Handy
set_option linter.unusedVariables false
set_option linter.unusedSimpArgs false
namespace Go.Proofs.YtaebjcldopoccaaDoor.EsTextC
open Go.RowKit Go.Shelf Go.Proofs.YtaebjcldopoccaaDoorW.PrintWords Go.Proofs.YtaebjcldopoccaaDoorW.PrintLast Go.Proofs.YtaebjcldopoccaaDoorW.PrintMore Go.Proofs.YtaebjcldopoccaaDoor.Es Go.Proofs.YtaebjcldopoccaaDoor.EsIter Go.Proofs.YtaebjcldopoccaaDoor.EsLaw Go.Proofs.YtaebjcldopoccaaDoor.EsText

/-! ### how long a text is -/
mutual
/-- Parts and bytes of an expression. -/
def wS : S35 → Nat
  | ⟨_, v, l⟩ => 1 + v.f2.size + wsS l
def wsS : List S35 → Nat
  | [] => 0
  | a :: t => wS a + wsS t
end
theorem wsS_mem {l : List S35} {a : S35} (h : a ∈ l) : wS a ≤ wsS l := by
  induction l with
  | nil => cases h
  | cons b t ih =>
    simp only [wsS]
    rcases List.mem_cons.1 h with rfl | h
    · omega
    · have := ih h; omega
theorem wS_pos (a : S35) : 1 ≤ wS a := by cases a; simp only [wS]; omega
theorem wsS_len (l : List S35) : l.length ≤ wsS l := by
  induction l with
  | nil => exact Nat.le_refl _
  | cons a t ih => have := wS_pos a; simp only [wsS, List.length_cons]; omega
theorem weigh_w (x : S35) : ∀ left : Int, 0 ≤ weighS x left → (wS x : Int) + weighS x left ≤ left := by
  induction x using tree_ind with
  | h o v l ih =>
  have key : ∀ (rest : List S35) (y : Int), (∀ a, a ∈ rest → a ∈ l) → 0 ≤ weighsS rest y → (wsS rest : Int) + weighsS rest y ≤ y := by
    intro rest
    induction rest with
    | nil => intro y _ h; simp only [weighsS, wsS] at h ⊢; omega
    | cons a t iht =>
      intro y hm h
      by_cases hy : y ≥ 0
      · have hw : weighsS (a :: t) y = weighsS t (weighS a y) := by simp only [weighsS]; rw [if_pos hy]
        rw [hw] at h ⊢
        have h1 := iht (weighS a y) (fun b hb => hm b (List.mem_cons_of_mem _ hb)) h
        have h2 := ih a (hm a List.mem_cons_self) y (by omega)
        simp only [wsS]
        omega
      · have hw : weighsS (a :: t) y = y := by simp only [weighsS]; rw [if_neg hy]
        rw [hw] at h
        omega
  intro left h
  have hw : weighS ⟨o, v, l⟩ left = weighsS l (left - 1 - (v.f2.size : Int)) := by simp only [weighS]
  rw [hw] at h ⊢
  have := key l _ (fun a h => h) h
  simp only [wS]
  omega
theorem small_w {x : S35} (h : bigS x = false) : wS x ≤ 3000 := by
  unfold bigS at h
  have h := of_decide_eq_false h
  have := weigh_w x 3000 (by omega)
  omega
theorem name_some (op : Int) : ∃ s, expr_Name.f op = some s ∧ s.size ≤ 5 := by
  by_cases h : 0 ≤ op ∧ op ≤ 27
  · rcases op_cases h.1 h.2 with h | h | h | h | h | h | h | h | h | h | h | h | h | h | h | h | h | h | h | h | h | h | h | h | h | h | h | h <;> subst h <;> exact ⟨_, rfl, by decide⟩
  · refine ⟨⟨#[]⟩, ?_, by decide⟩
    have hk : expr_known.f op = some false := by
      unfold expr_known.f
      by_cases h0 : op ≥ 0
      · rw [if_pos h0, decide_eq_false (by omega)]
      · rw [if_neg h0]
    unfold expr_Name.f
    rw [hk]
    rfl
theorem nameS_len (op : Int) : (nameS op).length ≤ 5 := by
  obtain ⟨s, h, hs⟩ := name_some op
  unfold nameS
  rw [h]
  simpa using hs
theorem quote_len (s : ByteArray) : (En.quoteS s).length ≤ 4 * s.size + 2 := by
  have := En.qbs_len s.data.toList
  unfold En.quoteS
  simp only [List.length_cons, List.length_append, List.length_nil]
  have e : s.data.toList.length = s.size := by simp
  omega
theorem text_len (x : S35) : Fit35 x → (textS x).length + 10 ≤ 40 * wS x := by
  induction x using tree_ind with
  | h o v l ih =>
  intro g
  cases g with
  | mk o1 o2 hv hl hg =>
  have key : ∀ rest : List S35, (∀ a, a ∈ rest → a ∈ l) → (textsS rest).length ≤ 40 * wsS rest := by
    intro rest
    induction rest with
    | nil => intro _; simp [textsS, wsS]
    | cons a t iht =>
      intro hm
      have h1 := iht (fun b hb => hm b (List.mem_cons_of_mem _ hb))
      have h2 := ih a (hm a List.mem_cons_self) (hg a (hm a List.mem_cons_self))
      have h3 := wS_pos a
      simp only [textsS, wsS, List.length_cons, List.length_append]
      omega
  have hk := key l (fun a h => h)
  have hn := nameS_len o
  have hq := quote_len v.f2
  have hi := Lib.itoa_length_le v.f1 hv.2.2.1 hv.2.2.2.1
  simp only [textS, wS]
  split
  · split
    · omega
    · omega
  · split
    · omega
    · simp only [List.length_cons, List.length_append, List.length_nil]
      omega

/-! ### the walk -/
abbrev Tab (w : World) : Prop := Lib.TabIs Tryd.prog w "internal/strconv.uint64pow10" .u64 Lib.pow10Tab
theorem tab_on {w w' : World} (h : Tab w) (hb : Below w.heap.size w w') : Tab w' := Lib.tabBelow_of_tabIs h w' hb
/-- Bytes as a string. -/
def bs (l : List UInt8) : ByteArray := ⟨l.toArray⟩
theorem name_calls (op : Int) (w : World) : Calls Tryd.prog 9 #[.int .i64 op] w fun e w' => e = .returned (.string (bs (nameS op))) ∧ Below w.heap.size w w' := by
  obtain ⟨s, h, _⟩ := name_some op
  have e : bs (nameS op) = s := by
    unfold bs nameS
    rw [h]
  rw [e]
  exact expr_Name.calls op s w h
theorem show_calls (k i : Int) (hk : k = 0) (h0 : -9223372036854775808 ≤ i) (h1 : i ≤ 9223372036854775807) (t : ByteArray) (w : World) (ht : Tab w) :
    Calls Tryd.prog 36 #[.agg #[.int .u8 k, .int .i64 i, .string t]] w fun e w' => e = .returned (.string ⟨(Lib.itoa i).toArray⟩) ∧ Below w.heap.size w w' := by
  subst hk
  have HB := Aside0.mk (show Below w.heap.size w (w.alloc (.cells #[.int .u8 0, .int .i64 i, .string t] 32)) from (Below.refl _ w).alloc (Nat.le_refl _) _)
  have HT := Aside0.mk ht
  clear ht
  have H0 := Aside0.mk h0
  have H1 := Aside0.mk h1
  clear h0 h1
  go_enter Tryd.func36, Tryd.ntmps36
  go_wp2_with (go_at_call 44; refine (Tryd.strconv_Itoa i H0.out H1.out _ (tab_on HT.out HB.out)).mono ?_; rintro e w1 ⟨rfl, k, os, rfl⟩)
  go_ret
  exact ⟨rfl, HB.out.trans (Lib.below_grow _ _ HB.out.size k os)⟩
/-- A row of strings that is the call's own: where its cells lie. -/
theorem own_cells {W : World} {B : Nat} {v : Value} {bs : List ByteArray} {n : Nat} (hn : n = bs.length) (h0 : bs.length ≠ 0) (h : W.ownsRow B 9 1 v n (bs.map Value.string)) : ∃ b cap, v = .slice (some ⟨b, 0, none⟩) n cap ∧ b < W.heap.size ∧ (∀ (j : Nat) (x : ByteArray), bs[j]? = some x → W.cell? ⟨b, j, none⟩ = some (.string x)) ∧ n ≤ cap := by
  obtain ⟨_, h2⟩ := h
  rcases h2 with ⟨_, h3⟩ | ⟨g, cap, cur, hv, _, hg, hn, _, hc, ht⟩
  · omega
  · refine ⟨g, cap, hv, (Array.getElem?_eq_some_iff.1 hg).1, fun j x hj => ?_, hn⟩
    have h3 : (bs.map Value.string)[j]? = some (.string x) := by rw [List.getElem?_map, hj]; rfl
    rw [← ht] at h3
    rw [List.getElem?_take] at h3
    split at h3
    · rw [Lib.cell_of_heap hg]
      simpa using h3
    · cases h3
theorem own_made (W : World) (B : Nat) (hB : B ≤ W.heap.size) (s : ByteArray) : (W.alloc (.cells #[.string s] 9)).ownsRow B 9 1 (.slice (some ⟨W.heap.size, 0, none⟩) 1 1) 1 ([s].map Value.string) := by
  refine ⟨rfl, .inr ⟨W.heap.size, 1, #[.string s], rfl, hB, World.alloc_heap_new W _, Nat.le_refl _, by unfold maxLen; omega, rfl, rfl⟩⟩
/-- The row after k arguments. -/
def rowT (o : Int) (l : List S35) (k : Nat) : List ByteArray := bs (nameS o) :: (l.take k).map fun a => bs (textS a)
theorem rowT_len (o : Int) (l : List S35) (k : Nat) (h : k ≤ l.length) : k + 1 = (rowT o l k).length := by
  unfold rowT
  simp only [List.length_cons, List.length_map, List.length_take]
  omega
theorem rowT_snoc (o : Int) (l : List S35) (k : Nat) (a : S35) (h : l[k]? = some a) : (rowT o l k).map Value.string ++ [.string (bs (textS a))] = (rowT o l (k + 1)).map Value.string := by
  unfold rowT
  rw [List.take_add_one, h]
  simp
set_option maxRecDepth 100000 in
set_option maxHeartbeats 8000000 in
theorem text_calls (x : S35) : Fit35 x → wS x ≤ 3000 → ∀ (A : Option Addr) (c : Nat) (w : World), Kd.C k35 w A x.f2.length x.f2 → x.f2.length ≤ c → Tab w →
    Calls Tryd.prog 17 #[.agg #[.int .i64 x.f0, .int .u8 x.f1.f0, .int .i64 x.f1.f1, .string x.f1.f2, .slice A x.f2.length c]] w fun e w' => e = .returned (.string (bs (textS x))) ∧ Below w.heap.size w w' := by
  induction x using tree_ind with
  | h o v l ih =>
  intro g hw A c w hC hc ht
  dsimp only at hC hc ⊢
  have HB := Aside0.mk (show Below w.heap.size w (w.alloc (.cells #[.int .i64 o, .int .u8 v.f0, .int .i64 v.f1, .string v.f2, .slice A l.length c] 35)) from (Below.refl _ w).alloc (Nat.le_refl _) _)
  have HX := Aside0.mk (show (w.alloc (.cells #[.int .i64 o, .int .u8 v.f0, .int .i64 v.f1, .string v.f2, .slice A l.length c] 35)).heap[w.heap.size]? = some (.cells #[.int .i64 o, .int .u8 v.f0, .int .i64 v.f1, .string v.f2, .slice A l.length c] 35 (0, 0)) from World.alloc_heap_new w _)
  have HT := Aside0.mk (tab_on ht HB.out)
  have HT0 := Aside0.mk ht
  have HC := Aside0.mk hC
  have HW := Aside0.mk hw
  have HG := Aside0.mk g
  have HI := Aside0.mk ih
  have HL := Aside0.mk hc
  clear ht hC hw g ih hc
  by_cases c0 : o = 0
  · have e0 : (o == 0) = true := beq_iff_eq.2 c0
    by_cases c1 : v.f0 = 0
    · have e1 : (v.f0 == 0) = true := beq_iff_eq.2 c1
      have C0 := Aside0.mk c0
      have C1 := Aside0.mk c1
      clear c0 c1
      go_enter Tryd.func17, Tryd.ntmps17
      go_wp2_with (go_at_call 36; refine (show_calls v.f0 v.f1 C1.out (by have := HG.out; cases this with | mk _ _ hv _ _ => exact hv.2.2.1) (by have := HG.out; cases this with | mk _ _ hv _ _ => exact hv.2.2.2.1) v.f2 _ HT.out).mono ?_; rintro e w1 ⟨rfl, hb⟩; have HB1 := Aside0.mk (HB.out.trans (hb.mono HB.out.size)); clear hb)
      go_ret
      refine ⟨?_, HB1.out⟩
      unfold bs
      simp only [textS]
      rw [if_pos C0.out, if_pos C1.out]
      rfl
    · have e1 : (v.f0 == 0) = false := beq_eq_false_iff_ne.2 c1
      have C0 := Aside0.mk c0
      have C1 := Aside0.mk c1
      clear c0 c1
      go_enter Tryd.func17, Tryd.ntmps17
      go_wp2_with (go_at_call 12; refine (En.quote_calls v.f2 (by have := HW.out; simp only [wS] at this; omega) _).mono ?_; rintro e w1 ⟨rfl, hb⟩; have HB1 := Aside0.mk (HB.out.trans (hb.mono HB.out.size)); clear hb)
      go_ret
      refine ⟨?_, HB1.out⟩
      unfold bs
      simp only [textS]
      rw [if_pos C0.out, if_neg C1.out]
      rfl
  · have e0 : (o == 0) = false := beq_eq_false_iff_ne.2 c0
    by_cases c1 : l.length = 0
    · have e1 : ((l.length : Int) == 0) = true := beq_iff_eq.2 (by omega)
      have C0 := Aside0.mk c0
      have C1 := Aside0.mk c1
      clear c0 c1
      go_enter Tryd.func17, Tryd.ntmps17
      go_wp2_with (go_at_call 9; refine (name_calls o _).mono ?_; rintro e w1 ⟨rfl, hb⟩; have HB1 := Aside0.mk (HB.out.trans (hb.mono HB.out.size)); clear hb)
      go_ret
      refine ⟨?_, HB1.out⟩
      unfold bs
      simp only [textS]
      rw [if_neg C0.out, if_pos C1.out]
      rfl
    · have e1 : ((l.length : Int) == 0) = false := beq_eq_false_iff_ne.2 (by omega)
      have C0 := Aside0.mk c0
      have C1 := Aside0.mk c1
      clear c0 c1
      go_enter Tryd.func17, Tryd.ntmps17
      go_wp2_with (go_at_call 9; refine (name_calls o _).mono ?_; rintro e w1 ⟨rfl, hb⟩; have HB1 := Aside0.mk (HB.out.trans (hb.mono HB.out.size)); have HX1 := Aside0.mk ((hb.block _ (by rw [World.size_alloc]; omega)).trans HX.out); have j0 := (by rw [Lib.cell_of_heap HX1.out]; rfl : w1.cell? ⟨w.heap.size, 0, none⟩ = some (.int .i64 o)); have j4 := (by rw [Lib.cell_of_heap HX1.out]; rfl : w1.cell? ⟨w.heap.size, 4, none⟩ = some (.slice A l.length c)); have HX2 := Aside0.mk (by rw [Lib.alloc_old w1 _ _ (Array.getElem?_eq_some_iff.1 HX1.out).1]; exact HX1.out : (w1.alloc (.cells #[.string (bs (nameS o))] 9)).heap[w.heap.size]? = some (.cells #[.int .i64 o, .int .u8 v.f0, .int .i64 v.f1, .string v.f2, .slice A l.length c] 35 (0, 0))); have j4a := (by rw [Lib.cell_of_heap HX2.out]; rfl : (w1.alloc (.cells #[.string (bs (nameS o))] 9)).cell? ⟨w.heap.size, 4, none⟩ = some (.slice A l.length c)); clear hb)
      have HO := Aside0.mk (own_made w1 w.heap.size HB1.out.size (bs (nameS o)))
      have HB2 := Aside0.mk (HB1.out.alloc HB1.out.size (.cells #[.string (bs (nameS o))] 9))
      clear HB HX HB1 HX1 HX2 j0 j4 j4a HT
      go_loopw [3, 42] (fun r i wr => ∃ k : Nat, k ≤ l.length ∧ i = .int .i64 k ∧ wr.ownsRow w.heap.size 9 1 r (k + 1) ((rowT o l k).map Value.string) ∧ Below w.heap.size w wr)
        (fun _ i _ => l.length - (intOf i).toNat)
      case atStart => exact ⟨0, Nat.zero_le _, rfl, HO.out, HB2.out⟩
      case round =>
        clear HO HB2
        obtain ⟨k, hk, rfl, ho, hb⟩ := hrel
        have HO := Aside0.mk ho
        have HB := Aside0.mk hb
        have HK := Aside0.mk hk
        clear ho hb
        by_cases hlt : k < l.length
        · obtain ⟨ad, A4, c4, hA, g0, g1, g2, g3, g4, hl4, hC4⟩ := at_T35 HC.out (k : Int) (by omega) (by omega)
          have hrd : rd_T35 l (k : Int) = l[k] := by
            unfold rd_T35
            rw [Int.toNat_natCast, List.getD_eq_getElem?_getD, List.getElem?_eq_getElem hlt]
            rfl
          have hmem : l[k] ∈ l := List.getElem_mem hlt
          have hsn := rowT_snoc o l k l[k] (List.getElem?_eq_getElem hlt)
          rw [hrd] at g0 g1 g2 g3 g4 hl4 hC4
          simp only [Int.toNat_natCast] at g0 g1 g2 g3 g4
          clear hrd
          generalize l[k] = a at *
          have hb3 := HB.out
          replace g0 := (hb3.cell (World.block_lt_of_cell? w _ g0)).trans g0
          replace g1 := (hb3.cell (World.block_lt_of_cell? w _ g1)).trans g1
          replace g2 := (hb3.cell (World.block_lt_of_cell? w _ g2)).trans g2
          replace g3 := (hb3.cell (World.block_lt_of_cell? w _ g3)).trans g3
          replace g4 := (hb3.cell (World.block_lt_of_cell? w _ g4)).trans g4
          subst hA
          have hwa : wS a ≤ 3000 := by
            have h1 := wsS_mem hmem
            have h2 := HW.out
            simp only [wS] at h2
            omega
          have hk3 : l.length ≤ 3000 := by
            have h1 := wsS_len l
            have h2 := HW.out
            simp only [wS] at h2
            omega
          have hga : Fit35 a := by
            have := HG.out
            cases this with
            | mk _ _ _ _ hg => exact hg a hmem
          have hba : Below w.heap.size w (wr.alloc (.cells #[.int .i64 a.f0, .int .u8 a.f1.f0, .int .i64 a.f1.f1, .string a.f1.f2, .slice A4 a.f2.length c4] 35)) := hb3.alloc hb3.size _
          have HCALL := Aside0.mk (HI.out a hmem hga hwa A4 c4 _ (Kd.C_below hC4 hba) hl4 (tab_on HT0.out hba))
          have HSN := Aside0.mk hsn
          clear hb3 hwa hga hba hsn hl4 hC4
          obtain ⟨i0, hi, hz0, hz1, hz2⟩ := info_parts info9
          go_wp2_with (first | (go_at_call 17; refine HCALL.out.mono ?_; rintro e w2 ⟨rfl, hb⟩; have hb2 := ((Below.refl _ wr).alloc (Nat.le_refl _) (.cells #[.int .i64 a.f0, .int .u8 a.f1.f0, .int .i64 a.f1.f1, .string a.f1.f2, .slice A4 a.f2.length c4] 35)).trans (hb.mono (by rw [World.size_alloc]; omega)); have HBW := Aside0.mk hb2; clear hb hb2) | (at_builtin; refine wpList_append_own _ rfl _ _ 23 rfl w.heap.size 9 i0 (.string ⟨#[]⟩) 1 16 Tryd.underlying23 hi hz0 hz1 hz2 rfl (by decide) _ _ _ rfl ((En.own_bel HO.out HBW.out).alloc _) ⟨w2.heap.size, 0, none⟩ 1 1 [.string (bs (textS a))] rfl rfl ?c1 ?c2 ?c3 ?c4 ?c5 ?_; (case c1 => intro j u hj; match j, hj with | 0, hj => (simp at hj; subst hj; simp [Addr.add])); (case c2 => intro u hu; simp at hu; subst hu; rfl); (case c3 => unfold maxLen; omega); (case c4 => omega); (case c5 => have h1 := HB.out.size; have h2 := HBW.out.size; rw [World.size_alloc]; omega); intro v' w3 hown' hgrow _; have HO3 := Aside0.mk hown'; have HB3 := Aside0.mk (En.below_grow HB.out HBW.out hgrow (En.own_bel HO.out HBW.out)); clear hown' hgrow))
          go_roundw
          case rel => exact ⟨k + 1, hlt, by push_cast; rfl, by rw [← HSN.out]; exact HO3.out, HB3.out⟩
          case measure => simp [intOf]; omega
        · obtain rfl : k = l.length := by omega
          have hrow := rowT_len o l l.length (Nat.le_refl _)
          obtain ⟨b, cap, rfl, hbs, hcells, hcap⟩ := own_cells hrow (by omega) HO.out
          have HCE := Aside0.mk hcells
          have hjoin : Lib.join ((rowT o l l.length).map (·.data.toList)) (bs [32]).data.toList = nameS o ++ textsS l := by
            rw [← join_texts]
            unfold rowT bs
            simp [List.map_map, Function.comp_def]
          have HJ := Aside0.mk hjoin
          have hlen : (nameS o ++ textsS l).length ≤ 140737488355328 := by
            have h1 := text_len _ HG.out
            have h2 := HW.out
            simp only [textS] at h1
            rw [if_neg C0.out, if_neg C1.out] at h1
            simp only [List.length_cons, List.length_append] at h1 ⊢
            omega
          have HLEN := Aside0.mk hlen
          have s1 : (9223372036854775807 < 1 + ((nameS o).length + (textsS l).length)) = False := by
            rw [List.length_append] at hlen
            exact eq_false (by omega)
          have s2 : (9223372036854775807 < 1 + ((nameS o).length + (textsS l).length) + 1) = False := by
            rw [List.length_append] at hlen
            exact eq_false (by omega)
          have hk3 : l.length ≤ 3000 := by
            have h1 := wsS_len l
            have h2 := HW.out
            simp only [wS] at h2
            omega
          have HK3 := Aside0.mk hk3
          have HROW := Aside0.mk hrow
          have HCAP := Aside0.mk hcap
          clear hcells hjoin hlen hk3 hrow hcap
          go_wp2_with (go_at_call 37; have hj := Tryd.strings_Join b 0 cap (rowT o l l.length) (bs [32]) wr (fun j x hj => by rw [Nat.zero_add]; exact HCE.out j x hj) hbs (by rw [← HROW.out]; have := HK3.out; omega) (by rw [← HROW.out]; exact HCAP.out) (by rw [HJ.out]; exact HLEN.out); rw [← HROW.out, HJ.out] at hj; refine hj.mono ?_; clear hj; rintro e w2 ⟨rfl, hb⟩; have HB2 := Aside0.mk (HB.out.trans (hb.mono HB.out.size)); clear hb)
          go_ret
          refine ⟨?_, HB2.out⟩
          have et : bs (textS ⟨o, v, l⟩) = ⟨#[40]⟩ ++ bs (nameS o ++ textsS l) ++ ⟨#[41]⟩ := by
            simp only [textS]
            rw [if_neg C0.out, if_neg C1.out]
            apply ByteArray.ext
            simp [bs]
          rw [et]
          rfl
end Go.Proofs.YtaebjcldopoccaaDoor.EsTextC
