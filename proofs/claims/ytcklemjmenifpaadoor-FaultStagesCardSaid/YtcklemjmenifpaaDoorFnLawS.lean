/- The law FaultStages over any acts, by its walk. -/
import Derived.Test.YtcklemjmenifpaaDoorFnStg
import Derived.Test.YtcklemjmenifpaaDoorFnMade
set_option linter.unusedVariables false
set_option linter.unusedSimpArgs false
namespace Go.Proofs.YtcklemjmenifpaaDoor.Fn
open Go.RowKit Go.Shelf Go.Extern.Stop Go.Stop Go.Extern Go.Proofs.YtcklemjmenifpaaDoorW.PrintWords Go.Proofs.YtcklemjmenifpaaDoorW.PrintLast Go.Proofs.YtcklemjmenifpaaDoorW.PrintMore Go.Proofs.YtcklemjmenifpaaDoor.Fs

theorem has_all (n : Int) : ∀ e, hasE n e = (allE e).any (fun m => decide (m = n))
  | .nil => rfl
  | .num m => by simp [hasE, allE]
  | .slip _ _ e => has_all n e
  | .two a b => by rw [hasE, allE, List.any_append, has_all n a, has_all n b]
theorem at_int {k : IntKind} {w : World} {A : Option Addr} {n : Nat} {xs : List Int} (h : Kd.C (Kd.int k) w A n xs) (j : Nat) (hj : j < xs.length) : ∃ ad, A = some ad ∧ w.cell? (ad.add j) = some (.int k xs[j]) := by
  obtain ⟨ad, c, e, hc, hK, hcell⟩ := Kd.C_get h 0 (j : Int) (by omega) (by have := h.1; omega)
  rw [Int.toNat_natCast, List.getD_eq_getElem?_getD, List.getElem?_eq_getElem hj] at hK
  obtain rfl : c = [.int k xs[j]] := hK
  have := hcell 0 _ rfl
  rw [Int.toNat_natCast] at this
  exact ⟨ad, e, by have h1 : j * (Kd.int k).sz + 0 = j := Nat.mul_one j
                   rw [h1] at this; exact this⟩
theorem any_take {xs : List Int} {n : Int} {k : Nat} (hk : k < xs.length) : (xs.take (k + 1)).any (fun m => decide (m = n)) = ((xs.take k).any (fun m => decide (m = n)) || decide (xs[k] = n)) := by
  rw [List.take_succ_eq_append_getElem hk, List.any_append]
  simp
theorem stages_len : ∀ e, (stagesE e).length ≤ (stagesE e).length := fun _ => Nat.le_refl _
theorem stages_fresh (n : Int) : stagesE (freshE n) = [] := by
  unfold freshE
  split <;> rfl
theorem stages_both (a b : Er) : (stagesE (bothE a b)).length ≤ (stagesE a).length + (stagesE b).length := by
  cases a <;> cases b <;> simp [bothE, stagesE]
theorem stages_in (s : ByteArray) (no : Int) (e : Er) : (stagesE (inE s no e)).length ≤ (stagesE e).length + 1 := by
  cases e <;> simp [inE, stagesE]
theorem stages_step (e : Er) (a : S56) : (stagesE (stepE e a)).length ≤ (stagesE e).length + 1 := by
  have h0 := stages_fresh a.f3
  unfold stepE
  repeat' split
  · rw [h0]; simp
  · exact stages_in _ _ _
  · have := stages_both e (freshE a.f3)
    rw [h0] at this
    simp at this
    omega
  · have := stages_both (freshE a.f3) e
    rw [h0] at this
    simp at this
    omega
  · omega
theorem stages_fold (l : List S56) : ∀ e, (stagesE (l.foldl stepE e)).length ≤ (stagesE e).length + l.length := by
  induction l with
  | nil => intro e; exact Nat.le_refl _
  | cons a l ih =>
    intro e
    have h1 := ih (stepE e a)
    have h2 := stages_step e a
    simp only [List.foldl_cons, List.length_cons]
    omega
theorem stages_made (l : List S56) : (stagesE (madeE (l.take 40))).length ≤ 40 := by
  have := stages_fold (l.take 40) .nil
  have h2 : (stagesE Er.nil).length = 0 := rfl
  have h3 : (l.take 40).length ≤ 40 := by rw [List.length_take]; omega
  unfold madeE
  omega
theorem at_37 {w : World} {A : Option Addr} {n : Nat} {xs : List (ByteArray × Int)} {s : ByteArray} {no : Int} (h : Kd.C k37 w A n xs) (j : Nat) (hj : xs[j]? = some (s, no)) : ∃ ad, A = some ad ∧ w.cell? (ad.add (j * 3)) = some (.string s) ∧ w.cell? ⟨(ad.add (j * 3)).block, (ad.add (j * 3)).off + 1, none⟩ = some (.int .i64 no) ∧ w.cell? ⟨(ad.add (j * 3)).block, (ad.add (j * 3)).off + 2, none⟩ = some .nilIface := by
  have hl := (List.getElem?_eq_some_iff.1 hj).1
  obtain ⟨ad, c, e, _, hK, hc0⟩ := Kd.C_get h (s, no) (j : Int) (by omega) (by have := h.1; omega)
  rw [Int.toNat_natCast, List.getD_eq_getElem?_getD, hj] at hK
  have hc : ∀ i u, c[i]? = some u → w.cell? (ad.add (j * 3 + i)) = some u := hc0
  obtain rfl := k37_open hK
  exact ⟨ad, e, hc 0 _ rfl, by rw [← add_field _ _ 1 (by omega)]; exact hc 1 _ rfl, by rw [← add_field _ _ 2 (by omega)]; exact hc 2 _ rfl⟩
theorem R_set5 {α : Type} {d : Kd α} {t : Nat} {W : World} {base g : Nat} {v : Value} {xs : List α} {cs : Array Value} (h : Kd.R d t W base (fun _ => True) v xs) (hX : W.heap[g]? = some (.cells cs 29 (0, 0))) (ht : ∀ q, q ∈ t :: d.E → q ≠ 29) (x0 x1 x2 x3 x4 : Value) : Kd.R d t (set5 W g x0 x1 x2 x3 x4) base (fun _ => True) v xs :=
  Kd.R_mono (Kd.R_move (Kd.R_types h hX ht) (fun k hk => set5_other hk.2 _ _ _ _ _)) (fun _ _ => trivial)
set_option maxRecDepth 100000 in
set_option maxHeartbeats 8000000 in
theorem stagesLaw_calls (l : List S56) (n : Int) (A : Option Addr) (c : Nat) (w : World) (hA : Kd.C k56 w A l.length l) (hc : l.length ≤ c) (ht : Tab w) :
    Calls Tryd.prog 3 #[.slice A l.length c, .int .i64 n] w fun ev w' => ev = .returned (.bool true) ∧ Below w.heap.size w w' := by
  obtain ⟨b, hlong⟩ := long_calls l A c w hA hc
  have HA := Aside0.mk hA
  have HC := Aside0.mk hc
  have HT := Aside0.mk ht
  have HG := Aside0.mk hlong
  have HB := Aside0.mk (Below.refl w.heap.size w)
  have hal := all_made l
  have hsl := stages_made l
  clear hA hc ht hlong
  cases b
  · have HM := Aside0.mk (fun W (hW : Below w.heap.size w W) => made_calls l A c W (Kd.C_below HA.out hW) HC.out)
    generalize madeE (l.take 40) = e at *
    have HAL := Aside0.mk hal
    have HSL := Aside0.mk hsl
    clear hal hsl
    go_enter Tryd.func3, Tryd.ntmps3
    go_wp2_with (first
      | (go_at_call 6; refine HG.out.mono ?_; rintro ev w1 ⟨rfl, hb⟩; (have HB1 := Aside0.mk hb); clear hb)
      | (go_at_call 8; refine (HM.out _ HB1.out).mono ?_; rintro ev w2 ⟨⟨v, sv, rfl, hv, hrv, A2, c2, rfl⟩, hb⟩; (have HB2 := Aside0.mk (HB1.out.trans (hb.mono HB1.out.size))); (have HV := Aside0.mk hv); (have HR := Aside0.mk hrv); (have HBB := Aside0.mk ((Below.refl w2.heap.size w2).alloc (Nat.le_refl _) (.cells #[.int .i64 (refE e).f0, .int .i64 (refE e).f1, .string (refE e).f2, .int .i64 (refE e).f3, .slice A2 (refE e).f4.length c2] 29))); (have HX := Aside0.mk (blk_new w2 (.cells #[.int .i64 (refE e).f0, .int .i64 (refE e).f1, .string (refE e).f2, .int .i64 (refE e).f3, .slice A2 (refE e).f4.length c2] 29))); (have x0 := (blk_cell HX.out 0).trans (by rfl : _ = some (.int .i64 (refE e).f0))); (have x1 := (blk_cell HX.out 1).trans (by rfl : _ = some (.int .i64 (refE e).f1))); (have x2 := (blk_cell HX.out 2).trans (by rfl : _ = some (.string (refE e).f2))); (have x3 := (blk_cell HX.out 3).trans (by rfl : _ = some (.int .i64 (refE e).f3))); (have x4 := (blk_cell HX.out 4).trans (by rfl : _ = some (.slice A2 (refE e).f4.length c2))); clear hb hv hrv)
      | (go_at_call 9; refine (allr_calls e (.slice A2 (refE e).f4.length c2) _ (HR.out.on HBB.out) (by have := HAL.out; omega)).mono ?_; rintro ev w3 ⟨⟨v8, rfl, ho⟩, hb⟩; (have HO := Aside0.mk ho); (have HB3 := Aside0.mk (HBB.out.trans (hb.mono HBB.out.size))); (have HX3 := Aside0.mk (blk_below HX.out hb)); clear hb ho))
    clear x0 x1 x2 x3 x4
    obtain ⟨A8, c8, hv8⟩ := Kd.R_slice HO.out
    subst hv8
    have HW8 := Aside0.mk (Kd.R_reads' HO.out).2.2
    go_loopw [7, 9] (fun hv i wr => ∃ k, k ≤ (allE e).length ∧ i = .int .i64 k ∧ hv = .bool (((allE e).take k).any (fun m => decide (m = n))) ∧ Below w3.heap.size w3 wr) (fun _ i _ => (allE e).length - (intOf i).toNat)
    case atStart => exact ⟨0, Nat.zero_le _, rfl, rfl, Below.refl _ _⟩
    case round =>
      obtain ⟨k, hk, rfl, rfl, hb⟩ := hrel
      have HBR := Aside0.mk hb
      clear hb
      by_cases hlt : k < (allE e).length
      · obtain ⟨ad, rfl, hcell⟩ := at_int HW8.out k hlt
        replace hcell := (HBR.out.cell (World.block_lt_of_cell? w3 _ hcell)).trans hcell
        have HN := Aside0.mk (any_take (n := n) hlt)
        have HLT := Aside0.mk hlt
        have hltI : ((k : Int) < ((allE e).length : Int)) := by omega
        have hal := HAL.out
        generalize (allE e)[k] = m at *
        generalize ((allE e).take k).any (fun m => decide (m = n)) = hb at *
        by_cases hmn : m = n
        · have e0 : (m == n) = true := beq_iff_eq.2 hmn
          have HE := Aside0.mk (decide_eq_true hmn)
          clear hmn
          cases hb
          · go_wp2
            go_roundw
            case rel => exact ⟨k + 1, HLT.out, by push_cast; rfl, by rw [HN.out]; rw [HE.out]; rfl, HBR.out⟩
            case measure => have := HLT.out; simp [intOf]; omega
          · go_wp2
            go_roundw
            case rel => exact ⟨k + 1, HLT.out, by push_cast; rfl, by rw [HN.out]; rfl, HBR.out⟩
            case measure => have := HLT.out; simp [intOf]; omega
        · have e0 : (m == n) = false := beq_eq_false_iff_ne.2 hmn
          have HE := Aside0.mk (decide_eq_false hmn)
          clear hmn
          cases hb
          · go_wp2
            go_roundw
            case rel => exact ⟨k + 1, HLT.out, by push_cast; rfl, by rw [HN.out]; rw [HE.out]; rfl, HBR.out⟩
            case measure => have := HLT.out; simp [intOf]; omega
          · go_wp2
            go_roundw
            case rel => exact ⟨k + 1, HLT.out, by push_cast; rfl, by rw [HN.out]; rfl, HBR.out⟩
            case measure => have := HLT.out; simp [intOf]; omega
      · obtain rfl : k = (allE e).length := by omega
        have hnot : ¬ (((allE e).length : Int) < ((allE e).length : Int)) := by omega
        have HHS := Aside0.mk (show ((allE e).take (allE e).length).any (fun m => decide (m = n)) = hasE n e by rw [List.take_length]; exact (has_all n e).symm)
        generalize ((allE e).take (allE e).length).any (fun m => decide (m = n)) = hb at *
        have HB4 := Aside0.mk (HB3.out.trans (HBR.out.mono HB3.out.size))
        have HX4 := Aside0.mk (blk_below HX3.out HBR.out)
        clear HX3
        go_wp2_with (first
          | (go_at_call 10; refine (stages_calls e v _ (HV.out.on HB4.out) (by have := HSL.out; omega)).mono ?_; rintro ev w5 ⟨⟨v10, rfl, ho⟩, hb9⟩; (have HS := Aside0.mk ho); (have HB5 := Aside0.mk (HB4.out.trans (hb9.mono HB4.out.size))); (have HX5 := Aside0.mk (blk_below HX4.out hb9)); clear hb9 ho))
        have HSR := Aside0.mk (Kd.R_lower HS.out HB4.out.size)
        clear HS
        have HHS9 := HHS
        clear HHS
        go_loopw [11] (fun i wq => ∃ k ek Ak ck, i = .int .i64 (k : Nat) ∧ stagesE e = (stagesE e).take k ++ stagesE ek ∧ k ≤ (stagesE e).length ∧ Below w2.heap.size w2 wq ∧ wq.heap[w2.heap.size]? = some (.cells #[.int .i64 (refE ek).f0, .int .i64 (refE ek).f1, .string (refE ek).f2, .int .i64 (refE ek).f3, .slice Ak (refE ek).f4.length ck] 29 (0, 0)) ∧ RV w2 ek (.slice Ak (refE ek).f4.length ck) ∧ Kd.R k37 37 wq w2.heap.size (fun _ => True) v10 (stagesE e)) (fun i _ => (stagesE e).length - (intOf i).toNat)
        case atStart => exact ⟨0, e, A2, c2, rfl, rfl, Nat.zero_le _, HB5.out, HX5.out, HR.out, HSR.out⟩
        case round =>
          clear HSR HX5 HB5 hnot
          obtain ⟨k, ek, Ak, ck, rfl, hsp, hk, hb, hX, hrv, hRs⟩ := hrel
          obtain ⟨As, cs, hv10⟩ := Kd.R_slice hRs
          subst hv10
          have hsl := HSL.out
          have hel : k + (stagesE ek).length = (stagesE e).length := by
            have h1 := congrArg List.length hsp
            rw [List.length_append, List.length_take] at h1
            omega
          have HBQ := Aside0.mk hb
          have HXQ := Aside0.mk hX
          have HRQ := Aside0.mk hRs
          have HSP := Aside0.mk hsp
          have HEL := Aside0.mk hel
          have HRV := Aside0.mk hrv
          clear hsp hb hX hRs hrv
          cases ek with
          | slip s no e1 =>
            obtain ⟨g, c9, v9, hs9, hc9, hg9, hr9⟩ := HRV.out
            obtain ⟨A9, c10, rfl⟩ := hr9.slice
            obtain ⟨rfl, rfl⟩ : Ak = some ⟨g, 0, none⟩ ∧ ck = c9 := by
              injection hs9 with h1 _ h3
              exact ⟨h1, h3⟩
            have hG := blk_below hg9 HBQ.out
            have g0 := (blk_cell hG 0).trans (by rfl : _ = some (.int .i64 (refE e1).f0))
            have g1 := (blk_cell hG 1).trans (by rfl : _ = some (.int .i64 (refE e1).f1))
            have g2 := (blk_cell hG 2).trans (by rfl : _ = some (.string (refE e1).f2))
            have g3 := (blk_cell hG 3).trans (by rfl : _ = some (.int .i64 (refE e1).f3))
            have g4 := (blk_cell hG 4).trans (by rfl : _ = some (.slice A9 (refE e1).f4.length c10))
            have x0 := (blk_cell HXQ.out 0).trans (by rfl : _ = some (.int .i64 2))
            have x1 := (blk_cell HXQ.out 1).trans (by rfl : _ = some (.int .i64 0))
            have x2 := (blk_cell HXQ.out 2).trans (by rfl : _ = some (.string s))
            have x3 := (blk_cell HXQ.out 3).trans (by rfl : _ = some (.int .i64 no))
            have x4 := (blk_cell HXQ.out 4).trans (by rfl : _ = some (.slice (some ⟨g, 0, none⟩) 1 ck))
            have z0 := blk_frozen HXQ.out 0
            have z1 := blk_frozen HXQ.out 1
            have z2 := blk_frozen HXQ.out 2
            have z3 := blk_frozen HXQ.out 3
            have z4 := blk_frozen HXQ.out 4
            have hkl : k < (stagesE e).length := by rw [← hel, stagesE, List.length_cons]; omega
            have hkI : ((k : Int) < ((stagesE e).length : Int)) := by omega
            have hget : (stagesE e)[k]? = some (s, no) := by
              rw [HSP.out, List.getElem?_append_right (by rw [List.length_take]; omega), List.length_take, Nat.min_eq_left hk, Nat.sub_self]
              rfl
            obtain ⟨ad, rfl, s0, s1, s2⟩ := at_37 (Kd.R_reads' HRQ.out).2.2 k hget
            have HR9 := Aside0.mk hr9
            have HKL := Aside0.mk hkl
            have HGET := Aside0.mk hget
            clear hg9 hr9 hs9 hc9 hel hget hkl hk
            go_wp2
            go_region
            go_wp2
            go_roundw
            case rel =>
              refine ⟨k + 1, e1, A9, c10, by push_cast; rfl, ?_, HKL.out, set5_below (below_drew1 HBQ.out) (Nat.le_refl _) _ _ _ _ _, put5 (blk_drew HXQ.out) _ _ _ _ _, HR9.out, R_set5 (Kd.R_drew HRQ.out) (blk_drew HXQ.out) (fun q hq => ?_) _ _ _ _ _⟩
              · have h2 : (stagesE e).take (k + 1) = (stagesE e).take k ++ [(s, no)] := by rw [List.take_add_one, HGET.out]; rfl
                rw [h2, List.append_assoc]
                exact HSP.out
              · rcases List.mem_cons.1 hq with rfl | h
                · decide
                · exact nomatch (show q ∈ ([] : List Nat) from h)
            case measure => have := HKL.out; simp [intOf]; omega
          | nil =>
            have x0 := (blk_cell HXQ.out 0).trans (by rfl : _ = some (.int .i64 0))
            obtain rfl : k = (stagesE e).length := by
              simp only [stagesE, List.length_nil] at hel
              omega
            clear hel hk
            have hnot : ¬ (((stagesE e).length : Int) < ((stagesE e).length : Int)) := by omega
            have hbe : (hasE n e == hb) = true := by rw [HHS9.out]; exact beq_self_eq_true _
            have HV9 := Aside0.mk (HV.out.on HBQ.out)
            have HB9 := Aside0.mk (HB2.out.trans (HBQ.out.mono HB2.out.size))
            go_wp2_with (first
              | (go_at_call 11; refine (has_calls n e v _ HV9.out).mono ?_; rintro ev w6 ⟨rfl, hb⟩; (have HB6 := Aside0.mk (HB9.out.trans (hb.mono HB9.out.size))); clear hb)
              | (go_at_call 7; refine (live_calls _ (tab_on HT.out HB6.out)).mono ?_; rintro ev w7 ⟨rfl, hb⟩; (have HB7 := Aside0.mk (HB6.out.trans (hb.mono HB6.out.size))); clear hb))
            go_ret
            exact ⟨rfl, HB7.out⟩
          | num m =>
            have x0 := (blk_cell HXQ.out 0).trans (by rfl : _ = some (.int .i64 1))
            obtain rfl : k = (stagesE e).length := by
              simp only [stagesE, List.length_nil] at hel
              omega
            clear hel hk
            have hnot : ¬ (((stagesE e).length : Int) < ((stagesE e).length : Int)) := by omega
            have hbe : (hasE n e == hb) = true := by rw [HHS9.out]; exact beq_self_eq_true _
            have HV9 := Aside0.mk (HV.out.on HBQ.out)
            have HB9 := Aside0.mk (HB2.out.trans (HBQ.out.mono HB2.out.size))
            go_wp2_with (first
              | (go_at_call 11; refine (has_calls n e v _ HV9.out).mono ?_; rintro ev w6 ⟨rfl, hb⟩; (have HB6 := Aside0.mk (HB9.out.trans (hb.mono HB9.out.size))); clear hb)
              | (go_at_call 7; refine (live_calls _ (tab_on HT.out HB6.out)).mono ?_; rintro ev w7 ⟨rfl, hb⟩; (have HB7 := Aside0.mk (HB6.out.trans (hb.mono HB6.out.size))); clear hb))
            go_ret
            exact ⟨rfl, HB7.out⟩
          | two a b =>
            have x0 := (blk_cell HXQ.out 0).trans (by rfl : _ = some (.int .i64 3))
            obtain rfl : k = (stagesE e).length := by
              simp only [stagesE, List.length_nil] at hel
              omega
            clear hel hk
            have hnot : ¬ (((stagesE e).length : Int) < ((stagesE e).length : Int)) := by omega
            have hbe : (hasE n e == hb) = true := by rw [HHS9.out]; exact beq_self_eq_true _
            have HV9 := Aside0.mk (HV.out.on HBQ.out)
            have HB9 := Aside0.mk (HB2.out.trans (HBQ.out.mono HB2.out.size))
            go_wp2_with (first
              | (go_at_call 11; refine (has_calls n e v _ HV9.out).mono ?_; rintro ev w6 ⟨rfl, hb⟩; (have HB6 := Aside0.mk (HB9.out.trans (hb.mono HB9.out.size))); clear hb)
              | (go_at_call 7; refine (live_calls _ (tab_on HT.out HB6.out)).mono ?_; rintro ev w7 ⟨rfl, hb⟩; (have HB7 := Aside0.mk (HB6.out.trans (hb.mono HB6.out.size))); clear hb))
            go_ret
            exact ⟨rfl, HB7.out⟩
  · go_enter Tryd.func3, Tryd.ntmps3
    go_wp2_with (first
      | (go_at_call 6; refine HG.out.mono ?_; rintro ev w1 ⟨rfl, hb⟩; (have HB1 := Aside0.mk hb); clear hb)
      | (go_at_call 7; refine (live_calls _ (tab_on HT.out HB1.out)).mono ?_; rintro ev w2 ⟨rfl, hb⟩; (have HB2 := Aside0.mk (HB1.out.trans (hb.mono HB1.out.size))); clear hb))
    go_ret
    exact ⟨rfl, HB2.out⟩
end Go.Proofs.YtcklemjmenifpaaDoor.Fn
