/- The law FaultTells over any acts, by its walk. -/
import Derived.Test.YtcklemjmenifpaaDoorFnBnd
import Derived.Test.YtcklemjmenifpaaDoorFnAllF
import Derived.Test.YtcklemjmenifpaaDoorFnRefT
import Derived.Test.YtcklemjmenifpaaDoorFnFst
import Derived.Test.YtcklemjmenifpaaDoorFnMade
set_option linter.unusedVariables false
set_option linter.unusedSimpArgs false
namespace Go.Proofs.YtcklemjmenifpaaDoor.Fn
open Go.RowKit Go.Shelf Go.Extern.Stop Go.Stop Go.Extern Go.Proofs.YtcklemjmenifpaaDoorW.PrintWords Go.Proofs.YtcklemjmenifpaaDoorW.PrintLast Go.Proofs.YtcklemjmenifpaaDoorW.PrintMore Go.Proofs.YtcklemjmenifpaaDoor.Fs

theorem has_allT (n : Int) : ∀ e, hasE n e = (allE e).any (fun m => decide (m = n))
  | .nil => rfl
  | .num m => by simp [hasE, allE]
  | .slip _ _ e => has_allT n e
  | .two a b => by rw [hasE, allE, List.any_append, has_allT n a, has_allT n b]
theorem headD_get {xs : List Int} (h : 0 < xs.length) : xs.headD 0 = xs[0] := by
  cases xs with
  | nil => simp at h
  | cons a q => rfl
theorem has_mem {n : Int} {e : Er} (h : n ∈ allE e) : hasE n e = true := by
  rw [has_allT]
  exact List.any_eq_true.2 ⟨n, h, decide_eq_true rfl⟩
theorem at_intT {k : IntKind} {w : World} {A : Option Addr} {n : Nat} {xs : List Int} (h : Kd.C (Kd.int k) w A n xs) (j : Nat) (hj : j < xs.length) : ∃ ad, A = some ad ∧ w.cell? (ad.add j) = some (.int k xs[j]) := by
  obtain ⟨ad, c, e, hc, hK, hcell⟩ := Kd.C_get h 0 (j : Int) (by omega) (by have := h.1; omega)
  rw [Int.toNat_natCast, List.getD_eq_getElem?_getD, List.getElem?_eq_getElem hj] at hK
  obtain rfl : c = [.int k xs[j]] := hK
  have := hcell 0 _ rfl
  rw [Int.toNat_natCast] at this
  exact ⟨ad, e, by have h1 : j * (Kd.int k).sz + 0 = j := Nat.mul_one j
                   rw [h1] at this; exact this⟩
set_option maxRecDepth 100000 in
set_option maxHeartbeats 1000000 in
theorem tellsLaw_calls (l : List S56) (A : Option Addr) (c : Nat) (w : World) (hA : Kd.C k56 w A l.length l) (hc : l.length ≤ c) (hF : ∀ a, a ∈ l → Fit56 a) (hs : ∀ a, a ∈ l → a.f1.size ≤ 140737488355328) (hL : Laid w) :
    Calls Tryd.prog 5 #[.slice A l.length c] w fun ev w' => ev = .returned (.bool true) ∧ Below w.heap.size w w' := by
  obtain ⟨b, hsum, hlong⟩ := long2_calls l A c w hA hc hs
  have HA := Aside0.mk hA
  have HC := Aside0.mk hc
  have HLD := Aside0.mk hL
  have HG := Aside0.mk hlong
  have HB := Aside0.mk (Below.refl w.heap.size w)
  have hal := all_made l
  have hft := fit_made l hF
  have hok := ok_made (l.take 40)
  have hln := fun h => len_made l hF h
  clear hA hc hlong hs hL
  cases b
  · replace hln := hln (hsum rfl)
    have HM := Aside0.mk (fun W (hW : Below w.heap.size w W) => made_calls l A c W (Kd.C_below HA.out hW) HC.out)
    generalize madeE (l.take 40) = e at *
    have HAL := Aside0.mk hal
    have HFT := Aside0.mk hft
    have HOK := Aside0.mk hok
    have HLN := Aside0.mk hln
    clear hal hft hok hln hsum hF

    have hnn : (((allE e).length : Int) != ((allE e).length : Int)) = false := by simp
    have hle40 : (allE e).length ≤ 40 := HAL.out
    by_cases he : e = .nil
    · have hk0 : ((refE e).f0 == 0) = true := by subst he; rfl
      have HE := Aside0.mk he
      clear he
      go_enter Tryd.func5, Tryd.ntmps5
      go_wp2_with (first
        | (go_at_call 6; refine HG.out.mono ?_; rintro ev w1 ⟨rfl, hb⟩; (have HB1 := Aside0.mk hb); clear hb)
        | (go_at_call 8; refine (HM.out _ HB1.out).mono ?_; rintro ev w2 ⟨⟨v, sv, rfl, hv, hrv, A2, c2, rfl⟩, hb⟩; (obtain rfl : v = .nilIface := by have h9 := hv; rw [HE.out] at h9; exact h9); (have HB2 := Aside0.mk (HB1.out.trans (hb.mono HB1.out.size))); (have HV := Aside0.mk hv); (have HR := Aside0.mk hrv); (have HBB := Aside0.mk ((Below.refl w2.heap.size w2).alloc (Nat.le_refl _) (.cells #[.int .i64 (refE e).f0, .int .i64 (refE e).f1, .string (refE e).f2, .int .i64 (refE e).f3, .slice A2 (refE e).f4.length c2] 29))); (have HX := Aside0.mk (blk_new w2 (.cells #[.int .i64 (refE e).f0, .int .i64 (refE e).f1, .string (refE e).f2, .int .i64 (refE e).f3, .slice A2 (refE e).f4.length c2] 29))); (have x0 := (blk_cell HX.out 0).trans (by rfl : _ = some (.int .i64 (refE e).f0))); (have x1 := (blk_cell HX.out 1).trans (by rfl : _ = some (.int .i64 (refE e).f1))); (have x2 := (blk_cell HX.out 2).trans (by rfl : _ = some (.string (refE e).f2))); (have x3 := (blk_cell HX.out 3).trans (by rfl : _ = some (.int .i64 (refE e).f3))); (have x4 := (blk_cell HX.out 4).trans (by rfl : _ = some (.slice A2 (refE e).f4.length c2))); clear hb hv hrv)
        | (go_at_call 9; refine (allr_calls e (.slice A2 (refE e).f4.length c2) _ (HR.out.on HBB.out) (by have := HAL.out; omega)).mono ?_; rintro ev w3 ⟨⟨v8, rfl, ho⟩, hb⟩; obtain ⟨A5, c5, rfl⟩ := Kd.R_slice ho; (have HW5 := Aside0.mk (Kd.R_reads' ho).2.2); (have HB3 := Aside0.mk (HBB.out.trans (hb.mono HBB.out.size))); (have HX3 := Aside0.mk (blk_below HX.out hb)); clear hb ho)
        | (go_at_call 18; refine (allf_calls e (by have := HAL.out; omega) .nilIface _ (HV.out.on HB3.out)).mono ?_; rintro ev w4 ⟨⟨v6, rfl, ho⟩, hb⟩; obtain ⟨A6, c6, rfl⟩ := Kd.R_slice ho; (have HW6 := Aside0.mk (Kd.R_reads' ho).2.2); (have HB4 := Aside0.mk (HB3.out.trans (hb.mono HB3.out.size))); (have HX4 := Aside0.mk (blk_below HX3.out hb)); (have HW5' := Aside0.mk (Kd.C_below HW5.out hb)); clear hb ho))
      clear x0 x1 x2 x3 x4
      have HBQ := Aside0.mk (below_drew1 HB4.out)
      clear HX
      have HX := Aside0.mk (blk_drew HX4.out)
      have HC5 := Aside0.mk (Kd.C_drew HW5'.out)
      have HC6 := Aside0.mk (Kd.C_drew HW6.out)
      clear HX3 HX4 HB3 HB4 HW5 HW5' HW6
      refine start_ (n := 20) (S := fun w' => w'.cell? ⟨w2.heap.size, 0, none⟩ = some (.int .i64 (refE e).f0) ∧ w'.cell? ⟨w2.heap.size, 1, none⟩ = some (.int .i64 (refE e).f1) ∧ w'.cell? ⟨w2.heap.size, 2, none⟩ = some (.string (refE e).f2) ∧ w'.cell? ⟨w2.heap.size, 3, none⟩ = some (.int .i64 (refE e).f3) ∧ w'.cell? ⟨w2.heap.size, 4, none⟩ = some (.slice A2 (refE e).f4.length c2)) (ds := []) #[false, false, false, false, false, false, false, false, false, false, false, false, false, false, false, false, false, false, false, false] (by kernel_rfl) rfl rfl ⟨(blk_cell HX.out 0).trans rfl, (blk_cell HX.out 1).trans rfl, (blk_cell HX.out 2).trans rfl, (blk_cell HX.out 3).trans rfl, (blk_cell HX.out 4).trans rfl⟩ (fun hHeld => ?_)
      generalize w4.drew = wA at HBQ HX HC5 HC6 hHeld ⊢
      refine pure_ (i := 0) (N := some 21) (v := ?_) (a' := ?_) #[true, false, false, false, false, false, false, false, false, false, false, false, false, false, false, false, false, false, false, false] rfl rfl (by kernel_rfl) (fun _ _ _ h => h) (Or.inl ⟨by rfl, ?_⟩) ?_ ?_
      rotate_left
      · intro w'
        go_simp
        with_reducible rfl
      rotate_left
      · simp only [Act.put, List.setIfInBounds_toArray, List.set_cons_zero, List.set_cons_succ, i64_w, i32_w]
        rfl
      refine pure_ (i := 1) (N := some 22) (v := ?_) (a' := ?_) #[true, true, false, false, false, false, false, false, false, false, false, false, false, false, false, false, false, false, false, false] rfl rfl (by kernel_rfl) (fun _ _ _ h => h) (Or.inl ⟨by rfl, ?_⟩) ?_ ?_
      rotate_left
      · intro w'
        go_simp
        with_reducible rfl
      rotate_left
      · simp only [Act.put, List.setIfInBounds_toArray, List.set_cons_zero, List.set_cons_succ, i64_w, i32_w]
        rfl
      refine pure_ (i := 2) (N := some 23) (v := ?_) (a' := ?_) #[true, true, true, false, false, false, false, false, false, false, false, false, false, false, false, false, false, false, false, false] rfl rfl (by kernel_rfl) (fun _ _ _ h => h) (Or.inl ⟨by rfl, ?_⟩) ?_ ?_
      rotate_left
      · intro w'
        go_simp
        with_reducible rfl
      rotate_left
      · simp only [Act.put, List.setIfInBounds_toArray, List.set_cons_zero, List.set_cons_succ, i64_w, i32_w]
        rfl
      refine take_ (i := 3) (N := some 24) (v := ?_) (a' := ?_) #[true, true, true, true, false, false, false, false, false, false, false, false, false, false, false, false, false, false, false, false] rfl rfl (by kernel_rfl) (fun _ _ _ h => h) (Or.inl ⟨by rfl, ?_⟩) hHeld ?_ ?_
      rotate_left
      · rintro w' ⟨s0, s1, s2, s3, s4⟩
        go_simp
        with_reducible rfl
      rotate_left
      · simp only [Act.put, List.setIfInBounds_toArray, List.set_cons_zero, List.set_cons_succ, i64_w, i32_w]
        rfl
      refine pure_ (i := 4) (N := some 25) (v := ?_) (a' := ?_) #[true, true, true, true, true, false, false, false, false, false, false, false, false, false, false, false, false, false, false, false] rfl rfl (by kernel_rfl) (fun _ _ _ h => h) (Or.inl ⟨by rfl, ?_⟩) ?_ ?_
      rotate_left
      · intro w'
        go_simp
        with_reducible rfl
      rotate_left
      · simp only [Act.put, List.setIfInBounds_toArray, List.set_cons_zero, List.set_cons_succ, i64_w, i32_w]
        rfl
      refine pure_ (i := 5) (N := some 26) (v := ?_) (a' := ?_) #[true, true, true, true, true, true, false, false, false, false, false, false, false, false, false, false, false, false, false, false] rfl rfl (by kernel_rfl) (fun _ _ _ h => h) (Or.inl ⟨by rfl, ?_⟩) ?_ ?_
      rotate_left
      · intro w'
        go_simp
        with_reducible rfl
      rotate_left
      · simp only [Act.put, List.setIfInBounds_toArray, List.set_cons_zero, List.set_cons_succ, i64_w, i32_w]
        rfl
      refine pure_ (i := 6) (N := some 27) (v := ?_) (a' := ?_) #[true, true, true, true, true, true, true, false, false, false, false, false, false, false, false, false, false, false, false, false] rfl rfl (by kernel_rfl) (fun _ _ _ h => h) (Or.inl ⟨by rfl, ?_⟩) ?_ ?_
      rotate_left
      · intro w'
        go_simp
        with_reducible rfl
      rotate_left
      · simp only [Act.put, List.setIfInBounds_toArray, List.set_cons_zero, List.set_cons_succ, i64_w, i32_w]
        rfl
      refine pure_ (i := 7) (N := some 28) (v := ?_) (a' := ?_) #[true, true, true, true, true, true, true, true, false, false, false, false, false, false, false, false, false, false, false, false] rfl rfl (by kernel_rfl) (fun _ _ _ h => h) (Or.inl ⟨by rfl, ?_⟩) ?_ ?_
      rotate_left
      · intro w'
        go_simp
        with_reducible rfl
      rotate_left
      · simp only [Act.put, List.setIfInBounds_toArray, List.set_cons_zero, List.set_cons_succ, i64_w, i32_w]
        rfl
      refine take_ (i := 9) (N := some 30) (v := ?_) (a' := ?_) #[true, true, true, true, true, true, true, true, false, true, false, false, false, false, false, false, false, false, false, false] rfl rfl (by kernel_rfl) (fun _ _ _ h => h) (Or.inl ⟨by rfl, ?_⟩) hHeld ?_ ?_
      rotate_left
      · rintro w' ⟨s0, s1, s2, s3, s4⟩
        go_simp
        with_reducible rfl
      rotate_left
      · simp only [Act.put, List.setIfInBounds_toArray, List.set_cons_zero, List.set_cons_succ, i64_w, i32_w]
        rfl
      refine one_ (i := 8) (N := some 29) #[true, true, true, true, true, true, true, true, true, true, false, false, false, false, false, false, false, false, false, false] rfl rfl (by kernel_rfl) (by decide) (fun K hK => ?_)
      refine goes_ Tryd.func19 (by kernel_rfl) rfl #[.nilIface] (by rfl) rfl rfl (by (try simp only [List.map_toArray, List.map_cons, List.map_nil]); first | done | rfl | (simp only [List.length_drop, List.length_take]; rfl)) ?_
      refine (tell_calls e HFT.out HLN.out _ _ (HV.out.on HBQ.out) (tab_on HLD.out.tab (HB2.out.trans (HBQ.out.mono HB2.out.size)))).mono ?_
      rintro ev w5 ⟨rfl, hb⟩
      have n0_ := Aside0.mk (HBQ.out.trans (hb.mono HBQ.out.size))
      have n1_ := Aside0.mk (blk_below HX.out hb)
      have n2_ := Aside0.mk (Kd.C_below HC5.out hb)
      have n3_ := Aside0.mk (Kd.C_below HC6.out hb)
      clear HBQ HX HC5 HC6 hb
      have HBQ := n0_
      have HX := n1_
      have HC5 := n2_
      have HC6 := n3_
      clear n0_ n1_ n2_ n3_
      refine ⟨_, rfl, ?_⟩
      refine hK.out _ _ ⟨(blk_cell HX.out 0).trans rfl, (blk_cell HX.out 1).trans rfl, (blk_cell HX.out 2).trans rfl, (blk_cell HX.out 3).trans rfl, (blk_cell HX.out 4).trans rfl⟩ (fun hHeld => ?_)
      clear hK K
      refine norm_ (a' := ?_) ?_ ?_
      rotate_left
      · show Act.put _ (some 29) _ = _
        simp only [Act.put, List.setIfInBounds_toArray, List.set_cons_zero, List.set_cons_succ, i64_w, i32_w]
        rfl
      refine one_ (i := 10) (N := some 31) #[true, true, true, true, true, true, true, true, true, true, true, false, false, false, false, false, false, false, false, false] rfl rfl (by kernel_rfl) (by decide) (fun K hK => ?_)
      refine goes_ Tryd.func20 (by kernel_rfl) rfl #[rAgg e (.slice A2 (refE e).f4.length c2)] (by rfl) rfl rfl (by (try simp only [List.map_toArray, List.map_cons, List.map_nil]); first | done | rfl | (simp only [List.length_drop, List.length_take]; rfl)) ?_
      refine (reft_calls e HFT.out HLN.out _ _ (HR.out.on HBQ.out)).mono ?_
      rintro ev w6 ⟨rfl, hb⟩
      have n0_ := Aside0.mk (HBQ.out.trans (hb.mono HBQ.out.size))
      have n1_ := Aside0.mk (blk_below HX.out hb)
      have n2_ := Aside0.mk (Kd.C_below HC5.out hb)
      have n3_ := Aside0.mk (Kd.C_below HC6.out hb)
      clear HBQ HX HC5 HC6 hb
      have HBQ := n0_
      have HX := n1_
      have HC5 := n2_
      have HC6 := n3_
      clear n0_ n1_ n2_ n3_
      refine ⟨_, rfl, ?_⟩
      refine hK.out _ _ ⟨(blk_cell HX.out 0).trans rfl, (blk_cell HX.out 1).trans rfl, (blk_cell HX.out 2).trans rfl, (blk_cell HX.out 3).trans rfl, (blk_cell HX.out 4).trans rfl⟩ (fun hHeld => ?_)
      clear hK K
      refine norm_ (a' := ?_) ?_ ?_
      rotate_left
      · show Act.put _ (some 31) _ = _
        simp only [Act.put, List.setIfInBounds_toArray, List.set_cons_zero, List.set_cons_succ, i64_w, i32_w]
        rfl
      refine pure_ (i := 11) (N := some 32) (v := ?_) (a' := ?_) #[true, true, true, true, true, true, true, true, true, true, true, true, false, false, false, false, false, false, false, false] rfl rfl (by kernel_rfl) (fun _ _ _ h => h) (Or.inl ⟨by rfl, ?_⟩) ?_ ?_
      rotate_left
      · intro w'
        go_simp
        with_reducible rfl
      rotate_left
      · simp only [Act.put, List.setIfInBounds_toArray, List.set_cons_zero, List.set_cons_succ, i64_w, i32_w]
        rfl
      refine pure_ (i := 12) (N := some 33) (v := ?_) (a' := ?_) #[true, true, true, true, true, true, true, true, true, true, true, true, true, false, false, false, false, false, false, false] rfl rfl (by kernel_rfl) (fun _ _ _ h => h) (Or.inl ⟨by rfl, ?_⟩) ?_ ?_
      rotate_left
      · intro w'
        go_simp
        with_reducible rfl
      rotate_left
      · simp only [Act.put, List.setIfInBounds_toArray, List.set_cons_zero, List.set_cons_succ, i64_w, i32_w]
        rfl
      refine pure_ (i := 13) (N := some 34) (v := ?_) (a' := ?_) #[true, true, true, true, true, true, true, true, true, true, true, true, true, true, false, false, false, false, false, false] rfl rfl (by kernel_rfl) (fun _ _ _ h => h) (Or.inl ⟨by rfl, ?_⟩) ?_ ?_
      rotate_left
      · intro w'
        go_simp
        with_reducible rfl
      rotate_left
      · simp only [Act.put, List.setIfInBounds_toArray, List.set_cons_zero, List.set_cons_succ, i64_w, i32_w]
        rfl
      refine pure_ (i := 14) (N := some 35) (v := ?_) (a' := ?_) #[true, true, true, true, true, true, true, true, true, true, true, true, true, true, true, false, false, false, false, false] rfl rfl (by kernel_rfl) (fun _ _ _ h => h) (Or.inl ⟨by rfl, ?_⟩) ?_ ?_
      rotate_left
      · intro w'
        go_simp
        with_reducible rfl
      rotate_left
      · simp only [Act.put, List.setIfInBounds_toArray, List.set_cons_zero, List.set_cons_succ, i64_w, i32_w]
        rfl
      refine pure_ (i := 15) (N := some 36) (v := ?_) (a' := ?_) #[true, true, true, true, true, true, true, true, true, true, true, true, true, true, true, true, false, false, false, false] rfl rfl (by kernel_rfl) (fun _ _ _ h => h) (Or.inl ⟨by rfl, ?_⟩) ?_ ?_
      rotate_left
      · intro w'
        go_simp
        with_reducible rfl
      rotate_left
      · simp only [Act.put, List.setIfInBounds_toArray, List.set_cons_zero, List.set_cons_succ, i64_w, i32_w]
        rfl
      refine pure_ (i := 16) (N := some 37) (v := ?_) (a' := ?_) #[true, true, true, true, true, true, true, true, true, true, true, true, true, true, true, true, true, false, false, false] rfl rfl (by kernel_rfl) (fun _ _ _ h => h) (Or.inl ⟨by rfl, ?_⟩) ?_ ?_
      rotate_left
      · intro w'
        go_simp
        with_reducible rfl
      rotate_left
      · simp only [Act.put, List.setIfInBounds_toArray, List.set_cons_zero, List.set_cons_succ, i64_w, i32_w]
        rfl
      refine pure_ (i := 17) (N := some 38) (v := ?_) (a' := ?_) #[true, true, true, true, true, true, true, true, true, true, true, true, true, true, true, true, true, true, false, false] rfl rfl (by kernel_rfl) (fun _ _ _ h => h) (Or.inl ⟨by rfl, ?_⟩) ?_ ?_
      rotate_left
      · intro w'
        go_simp
        with_reducible rfl
      rotate_left
      · simp only [Act.put, List.setIfInBounds_toArray, List.set_cons_zero, List.set_cons_succ, i64_w, i32_w]
        rfl
      refine pure_ (i := 18) (N := some 39) (v := ?_) (a' := ?_) #[true, true, true, true, true, true, true, true, true, true, true, true, true, true, true, true, true, true, true, false] rfl rfl (by kernel_rfl) (fun _ _ _ h => h) (Or.inl ⟨by rfl, ?_⟩) ?_ ?_
      rotate_left
      · intro w'
        go_simp
        with_reducible rfl
      rotate_left
      · simp only [Act.put, List.setIfInBounds_toArray, List.set_cons_zero, List.set_cons_succ, i64_w, i32_w]
        rfl
      refine pure_ (i := 19) (N := some 40) (v := ?_) (a' := ?_) #[true, true, true, true, true, true, true, true, true, true, true, true, true, true, true, true, true, true, true, true] rfl rfl (by kernel_rfl) (fun _ _ _ h => h) (Or.inl ⟨by rfl, ?_⟩) ?_ ?_
      rotate_left
      · intro w'
        go_simp
        with_reducible rfl
      rotate_left
      · simp only [Act.put, List.setIfInBounds_toArray, List.set_cons_zero, List.set_cons_succ, i64_w, i32_w]
        rfl
      refine done_ (by kernel_rfl) ?_
      go_wp2
      go_loopw [7] (fun i wr => ∃ k : Nat, k ≤ (allE e).length ∧ i = .int .i64 k ∧ Below w6.heap.size w6 wr) (fun i _ => (allE e).length - (intOf i).toNat)
      case atStart => exact ⟨0, Nat.zero_le _, rfl, Below.refl _ _⟩
      case round =>
        obtain ⟨k, hk, rfl, hb⟩ := hrel
        have HBR := Aside0.mk (HBQ.out.trans (hb.mono HBQ.out.size))
        have HD5 := Aside0.mk (Kd.C_below HC5.out hb)
        have HD6 := Aside0.mk (Kd.C_below HC6.out hb)
        have HK6 := Aside0.mk hb
        clear hb HBQ HX HC5 HC6
        by_cases hlt : k < (allE e).length
        · obtain ⟨ad5, rfl, hcell5⟩ := at_intT HD5.out k hlt
          obtain ⟨ad6, rfl, hcell6⟩ := at_intT HD6.out k hlt
          have HLT := Aside0.mk hlt
          have hltI : ((k : Int) < ((allE e).length : Int)) := by omega
          have HHM := Aside0.mk (has_mem (List.getElem_mem hlt))
          generalize (allE e)[k] = m at *
          have hmm : (m != m) = false := by simp
          have H5 := Aside0.mk hcell5
          have H6 := Aside0.mk hcell6
          clear hcell5 hcell6
          go_wp2
          clear HD5 HD6
          have n0_ := Aside0.mk (below_drew1 HBR.out)
          have n1_ := Aside0.mk (below_drew1 HK6.out)
          have n2_ := Aside0.mk (((below_drew1 (Below.refl wr.heap.size wr)).cell (World.block_lt_of_cell? wr _ H5.out)).trans H5.out)
          have n3_ := Aside0.mk (((below_drew1 (Below.refl wr.heap.size wr)).cell (World.block_lt_of_cell? wr _ H6.out)).trans H6.out)
          clear HBR HK6 H5 H6
          have HBR := n0_
          have HK6 := n1_
          have H5 := n2_
          have H6 := n3_
          clear n0_ n1_ n2_ n3_
          refine start_ (n := 19) (S := fun w' => w'.cell? (ad5.add k) = some (.int .i64 m) ∧ w'.cell? (ad6.add k) = some (.int .i64 m)) (ds := []) #[false, false, false, false, false, false, false, false, false, false, false, false, false, false, false, false, false, false, false] (by kernel_rfl) rfl rfl ⟨H5.out, H6.out⟩ (fun hHeld => ?_)
          generalize wr.drew = wA at HBR HK6 H5 H6 hHeld ⊢
          refine pure_ (i := 0) (N := some 47) (v := ?_) (a' := ?_) #[true, false, false, false, false, false, false, false, false, false, false, false, false, false, false, false, false, false, false] rfl rfl (by kernel_rfl) (fun _ _ _ h => h) (Or.inl ⟨by rfl, ?_⟩) ?_ ?_
          rotate_left
          · intro w'
            go_simp
            with_reducible rfl
          rotate_left
          · simp only [Act.put, List.setIfInBounds_toArray, List.set_cons_zero, List.set_cons_succ, i64_w, i32_w]
            rfl
          refine pure_ (i := 1) (N := some 48) (v := ?_) (a' := ?_) #[true, true, false, false, false, false, false, false, false, false, false, false, false, false, false, false, false, false, false] rfl rfl (by kernel_rfl) (fun _ _ _ h => h) (Or.inl ⟨by rfl, ?_⟩) ?_ ?_
          rotate_left
          · intro w'
            go_simp
            with_reducible rfl
          rotate_left
          · simp only [Act.put, List.setIfInBounds_toArray, List.set_cons_zero, List.set_cons_succ, i64_w, i32_w]
            rfl
          refine pure_ (i := 2) (N := some 49) (v := ?_) (a' := ?_) #[true, true, true, false, false, false, false, false, false, false, false, false, false, false, false, false, false, false, false] rfl rfl (by kernel_rfl) (fun _ _ _ h => h) (Or.inl ⟨by rfl, ?_⟩) ?_ ?_
          rotate_left
          · intro w'
            go_simp
            with_reducible rfl
          rotate_left
          · simp only [Act.put, List.setIfInBounds_toArray, List.set_cons_zero, List.set_cons_succ, i64_w, i32_w]
            rfl
          refine take_ (i := 3) (N := some 50) (v := ?_) (a' := ?_) #[true, true, true, true, false, false, false, false, false, false, false, false, false, false, false, false, false, false, false] rfl rfl (by kernel_rfl) (fun _ _ _ h => h) (Or.inl ⟨by rfl, ?_⟩) hHeld ?_ ?_
          rotate_left
          · rintro w' ⟨s0, s1⟩
            go_simp
            with_reducible rfl
          rotate_left
          · simp only [Act.put, List.setIfInBounds_toArray, List.set_cons_zero, List.set_cons_succ, i64_w, i32_w]
            rfl
          refine pure_ (i := 5) (N := some 52) (v := ?_) (a' := ?_) #[true, true, true, true, false, true, false, false, false, false, false, false, false, false, false, false, false, false, false] rfl rfl (by kernel_rfl) (fun _ _ _ h => h) (Or.inl ⟨by rfl, ?_⟩) ?_ ?_
          rotate_left
          · intro w'
            go_simp
            with_reducible rfl
          rotate_left
          · simp only [Act.put, List.setIfInBounds_toArray, List.set_cons_zero, List.set_cons_succ, i64_w, i32_w]
            rfl
          refine pure_ (i := 6) (N := some 53) (v := ?_) (a' := ?_) #[true, true, true, true, false, true, true, false, false, false, false, false, false, false, false, false, false, false, false] rfl rfl (by kernel_rfl) (fun _ _ _ h => h) (Or.inl ⟨by rfl, ?_⟩) ?_ ?_
          rotate_left
          · intro w'
            go_simp
            with_reducible rfl
          rotate_left
          · simp only [Act.put, List.setIfInBounds_toArray, List.set_cons_zero, List.set_cons_succ, i64_w, i32_w]
            rfl
          refine pure_ (i := 7) (N := some 54) (v := ?_) (a' := ?_) #[true, true, true, true, false, true, true, true, false, false, false, false, false, false, false, false, false, false, false] rfl rfl (by kernel_rfl) (fun _ _ _ h => h) (Or.inl ⟨by rfl, ?_⟩) ?_ ?_
          rotate_left
          · intro w'
            go_simp
            with_reducible rfl
          rotate_left
          · simp only [Act.put, List.setIfInBounds_toArray, List.set_cons_zero, List.set_cons_succ, i64_w, i32_w]
            rfl
          refine take_ (i := 8) (N := some 55) (v := ?_) (a' := ?_) #[true, true, true, true, false, true, true, true, true, false, false, false, false, false, false, false, false, false, false] rfl rfl (by kernel_rfl) (fun _ _ _ h => h) (Or.inl ⟨by rfl, ?_⟩) hHeld ?_ ?_
          rotate_left
          · rintro w' ⟨s0, s1⟩
            go_simp
            with_reducible rfl
          rotate_left
          · simp only [Act.put, List.setIfInBounds_toArray, List.set_cons_zero, List.set_cons_succ, i64_w, i32_w]
            rfl
          refine one_ (i := 4) (N := some 51) #[true, true, true, true, true, true, true, true, true, false, false, false, false, false, false, false, false, false, false] rfl rfl (by kernel_rfl) (by decide) (fun K hK => ?_)
          refine goes_ Tryd.func17 (by kernel_rfl) rfl #[.int .i64 m] (by rfl) rfl rfl (by (try simp only [List.map_toArray, List.map_cons, List.map_nil]); first | done | rfl | (simp only [List.length_drop, List.length_take]; rfl)) ?_
          refine (code_calls m _).mono ?_
          rintro ev w7 ⟨rfl, rfl⟩
          refine ⟨_, rfl, ?_⟩
          refine hK.out _ _ ⟨H5.out, H6.out⟩ (fun hHeld => ?_)
          clear hK K
          refine norm_ (a' := ?_) ?_ ?_
          rotate_left
          · show Act.put _ (some 51) _ = _
            simp only [Act.put, List.setIfInBounds_toArray, List.set_cons_zero, List.set_cons_succ, i64_w, i32_w]
            rfl
          refine pure_ (i := 9) (N := some 56) (v := ?_) (a' := ?_) #[true, true, true, true, true, true, true, true, true, true, false, false, false, false, false, false, false, false, false] rfl rfl (by kernel_rfl) (fun _ _ _ h => h) (Or.inl ⟨by rfl, ?_⟩) ?_ ?_
          rotate_left
          · intro w'
            go_simp
            with_reducible rfl
          rotate_left
          · simp only [Act.put, List.setIfInBounds_toArray, List.set_cons_zero, List.set_cons_succ, i64_w, i32_w]
            rfl
          refine pure_ (i := 10) (N := some 57) (v := ?_) (a' := ?_) #[true, true, true, true, true, true, true, true, true, true, true, false, false, false, false, false, false, false, false] rfl rfl (by kernel_rfl) (fun _ _ _ h => h) (Or.inl ⟨by rfl, ?_⟩) ?_ ?_
          rotate_left
          · intro w'
            go_simp
            with_reducible rfl
          rotate_left
          · simp only [Act.put, List.setIfInBounds_toArray, List.set_cons_zero, List.set_cons_succ, i64_w, i32_w]
            rfl
          refine pure_ (i := 11) (N := some 58) (v := ?_) (a' := ?_) #[true, true, true, true, true, true, true, true, true, true, true, true, false, false, false, false, false, false, false] rfl rfl (by kernel_rfl) (fun _ _ _ h => h) (Or.inl ⟨by rfl, ?_⟩) ?_ ?_
          rotate_left
          · intro w'
            go_simp
            with_reducible rfl
          rotate_left
          · simp only [Act.put, List.setIfInBounds_toArray, List.set_cons_zero, List.set_cons_succ, i64_w, i32_w]
            rfl
          refine pure_ (i := 12) (N := some 59) (v := ?_) (a' := ?_) #[true, true, true, true, true, true, true, true, true, true, true, true, true, false, false, false, false, false, false] rfl rfl (by kernel_rfl) (fun _ _ _ h => h) (Or.inl ⟨by rfl, ?_⟩) ?_ ?_
          rotate_left
          · intro w'
            go_simp
            with_reducible rfl
          rotate_left
          · simp only [Act.put, List.setIfInBounds_toArray, List.set_cons_zero, List.set_cons_succ, i64_w, i32_w]
            rfl
          refine pure_ (i := 13) (N := some 60) (v := ?_) (a' := ?_) #[true, true, true, true, true, true, true, true, true, true, true, true, true, true, false, false, false, false, false] rfl rfl (by kernel_rfl) (fun _ _ _ h => h) (Or.inl ⟨by rfl, ?_⟩) ?_ ?_
          rotate_left
          · intro w'
            go_simp
            with_reducible rfl
          rotate_left
          · simp only [Act.put, List.setIfInBounds_toArray, List.set_cons_zero, List.set_cons_succ, i64_w, i32_w]
            rfl
          refine pure_ (i := 14) (N := some 61) (v := ?_) (a' := ?_) #[true, true, true, true, true, true, true, true, true, true, true, true, true, true, true, false, false, false, false] rfl rfl (by kernel_rfl) (fun _ _ _ h => h) (Or.inl ⟨by rfl, ?_⟩) ?_ ?_
          rotate_left
          · intro w'
            go_simp
            with_reducible rfl
          rotate_left
          · simp only [Act.put, List.setIfInBounds_toArray, List.set_cons_zero, List.set_cons_succ, i64_w, i32_w]
            rfl
          refine take_ (i := 15) (N := some 62) (v := ?_) (a' := ?_) #[true, true, true, true, true, true, true, true, true, true, true, true, true, true, true, true, false, false, false] rfl rfl (by kernel_rfl) (fun _ _ _ h => h) (Or.inl ⟨by rfl, ?_⟩) hHeld ?_ ?_
          rotate_left
          · rintro w' ⟨s0, s1⟩
            go_simp
            with_reducible rfl
          rotate_left
          · simp only [Act.put, List.setIfInBounds_toArray, List.set_cons_zero, List.set_cons_succ, i64_w, i32_w]
            rfl
          refine one_ (i := 16) (N := some 63) #[true, true, true, true, true, true, true, true, true, true, true, true, true, true, true, true, true, false, false] rfl rfl (by kernel_rfl) (by decide) (fun K hK => ?_)
          refine goes_ Tryd.func11 (by kernel_rfl) rfl #[.nilIface, .int .i64 m] (by rfl) rfl rfl (by (try simp only [List.map_toArray, List.map_cons, List.map_nil]); first | done | rfl | (simp only [List.length_drop, List.length_take]; rfl)) ?_
          refine (has_calls m e _ _ (HV.out.on HBR.out)).mono ?_
          rintro ev w8 ⟨rfl, hb⟩
          rw [HHM.out]
          have n0_ := Aside0.mk (HBR.out.trans (hb.mono HBR.out.size))
          have n1_ := Aside0.mk ((hb.cell (World.block_lt_of_cell? _ _ H5.out)).trans H5.out)
          have n2_ := Aside0.mk ((hb.cell (World.block_lt_of_cell? _ _ H6.out)).trans H6.out)
          have n3_ := Aside0.mk (HK6.out.trans (hb.mono HK6.out.size))
          clear HBR H5 H6 HK6 hb
          have HBR := n0_
          have H5 := n1_
          have H6 := n2_
          have HK6 := n3_
          clear n0_ n1_ n2_ n3_
          refine ⟨_, rfl, ?_⟩
          refine hK.out _ _ ⟨H5.out, H6.out⟩ (fun hHeld => ?_)
          clear hK K
          refine norm_ (a' := ?_) ?_ ?_
          rotate_left
          · show Act.put _ (some 63) _ = _
            simp only [Act.put, List.setIfInBounds_toArray, List.set_cons_zero, List.set_cons_succ, i64_w, i32_w]
            rfl
          refine pure_ (i := 17) (N := some 64) (v := ?_) (a' := ?_) #[true, true, true, true, true, true, true, true, true, true, true, true, true, true, true, true, true, true, false] rfl rfl (by kernel_rfl) (fun _ _ _ h => h) (Or.inl ⟨by rfl, ?_⟩) ?_ ?_
          rotate_left
          · intro w'
            go_simp
            with_reducible rfl
          rotate_left
          · simp only [Act.put, List.setIfInBounds_toArray, List.set_cons_zero, List.set_cons_succ, i64_w, i32_w]
            rfl
          refine pure_ (i := 18) (N := some 65) (v := ?_) (a' := ?_) #[true, true, true, true, true, true, true, true, true, true, true, true, true, true, true, true, true, true, true] rfl rfl (by kernel_rfl) (fun _ _ _ h => h) (Or.inl ⟨by rfl, ?_⟩) ?_ ?_
          rotate_left
          · intro w'
            go_simp
            with_reducible rfl
          rotate_left
          · simp only [Act.put, List.setIfInBounds_toArray, List.set_cons_zero, List.set_cons_succ, i64_w, i32_w]
            rfl
          refine done_ (by kernel_rfl) ?_
          go_wp2
          go_roundw
          case rel => exact ⟨k + 1, HLT.out, by push_cast; rfl, HK6.out⟩
          case measure => have := HLT.out; simp [intOf]; omega
        · obtain rfl : k = (allE e).length := by omega
          have hnot : ¬ (((allE e).length : Int) < ((allE e).length : Int)) := by omega
          clear hlt hk
          have HBF := Aside0.mk (HB2.out.trans (HBR.out.mono HB2.out.size))
          by_cases hz : (allE e).length = 0
          · have h00 : (allE e).headD 0 = 0 := by
              cases h9 : allE e with
              | nil => rfl
              | cons a q => rw [h9] at hz; simp at hz
            have hgt : ¬ ((0 : Int) < ((allE e).length : Int)) := by omega
            have HFC := Aside0.mk (fun (W : World) (hW : Below w2.heap.size w2 W) => first_calls e HOK.out .nilIface W (HV.out.on hW) (HLD.out.on (HB2.out.trans (hW.mono HB2.out.size))).errT)
            rw [h00] at HFC
            go_wp2_with (first
              | (go_at_call 21; refine (HFC.out _ HBR.out).mono ?_; rintro ev w9 ⟨rfl, hb⟩; (have HB9 := Aside0.mk (HBF.out.trans (hb.mono HBF.out.size))); clear hb)
              | (go_at_call 17; refine (code_calls _ _).mono ?_; rintro ev w' ⟨rfl, rfl⟩)
              | (go_at_call 7; refine (live_calls _ (tab_on HLD.out.tab HB9.out)).mono ?_; rintro ev w10 ⟨rfl, hb⟩; (have HB10 := Aside0.mk (HB9.out.trans (hb.mono HB9.out.size))); clear hb))
            go_ret
            exact ⟨rfl, HB10.out⟩
          · have hgt : (0 : Int) < ((allE e).length : Int) := by omega
            obtain ⟨ad5, rfl, hcell⟩ := at_intT HD5.out 0 (by omega)
            have h0 : (allE e).headD 0 = (allE e)[0] := headD_get (by omega)
            have HFC := Aside0.mk (fun (W : World) (hW : Below w2.heap.size w2 W) => first_calls e HOK.out .nilIface W (HV.out.on hW) (HLD.out.on (HB2.out.trans (hW.mono HB2.out.size))).errT)
            rw [h0] at HFC
            generalize (allE e)[0] = m at *
            have hcell0 : wr.cell? ad5 = some (.int .i64 m) := by
              have h9 : ad5.add 0 = ad5 := rfl
              rw [h9] at hcell
              exact hcell
            have hee : (m == m) = true := beq_self_eq_true m
            go_wp2_with (first
              | (go_at_call 21; refine (HFC.out _ HBR.out).mono ?_; rintro ev w9 ⟨rfl, hb⟩; (have HB9 := Aside0.mk (HBF.out.trans (hb.mono HBF.out.size))); clear hb)
              | (go_at_call 17; refine (code_calls _ _).mono ?_; rintro ev w' ⟨rfl, rfl⟩)
              | (go_at_call 7; refine (live_calls _ (tab_on HLD.out.tab HB9.out)).mono ?_; rintro ev w10 ⟨rfl, hb⟩; (have HB10 := Aside0.mk (HB9.out.trans (hb.mono HB9.out.size))); clear hb))
            go_ret
            exact ⟨rfl, HB10.out⟩
    · have hk0 : ((refE e).f0 == 0) = false := beq_eq_false_iff_ne.2 (ref_kind he)
      have HE := Aside0.mk he
      clear he
      go_enter Tryd.func5, Tryd.ntmps5
      go_wp2_with (first
        | (go_at_call 6; refine HG.out.mono ?_; rintro ev w1 ⟨rfl, hb⟩; (have HB1 := Aside0.mk hb); clear hb)
        | (go_at_call 8; refine (HM.out _ HB1.out).mono ?_; rintro ev w2 ⟨⟨v, sv, rfl, hv, hrv, A2, c2, rfl⟩, hb⟩; obtain ⟨t, x, rfl⟩ := ev_some hv HE.out; (have HB2 := Aside0.mk (HB1.out.trans (hb.mono HB1.out.size))); (have HV := Aside0.mk hv); (have HR := Aside0.mk hrv); (have HBB := Aside0.mk ((Below.refl w2.heap.size w2).alloc (Nat.le_refl _) (.cells #[.int .i64 (refE e).f0, .int .i64 (refE e).f1, .string (refE e).f2, .int .i64 (refE e).f3, .slice A2 (refE e).f4.length c2] 29))); (have HX := Aside0.mk (blk_new w2 (.cells #[.int .i64 (refE e).f0, .int .i64 (refE e).f1, .string (refE e).f2, .int .i64 (refE e).f3, .slice A2 (refE e).f4.length c2] 29))); (have x0 := (blk_cell HX.out 0).trans (by rfl : _ = some (.int .i64 (refE e).f0))); (have x1 := (blk_cell HX.out 1).trans (by rfl : _ = some (.int .i64 (refE e).f1))); (have x2 := (blk_cell HX.out 2).trans (by rfl : _ = some (.string (refE e).f2))); (have x3 := (blk_cell HX.out 3).trans (by rfl : _ = some (.int .i64 (refE e).f3))); (have x4 := (blk_cell HX.out 4).trans (by rfl : _ = some (.slice A2 (refE e).f4.length c2))); clear hb hv hrv)
        | (go_at_call 9; refine (allr_calls e (.slice A2 (refE e).f4.length c2) _ (HR.out.on HBB.out) (by have := HAL.out; omega)).mono ?_; rintro ev w3 ⟨⟨v8, rfl, ho⟩, hb⟩; obtain ⟨A5, c5, rfl⟩ := Kd.R_slice ho; (have HW5 := Aside0.mk (Kd.R_reads' ho).2.2); (have HB3 := Aside0.mk (HBB.out.trans (hb.mono HBB.out.size))); (have HX3 := Aside0.mk (blk_below HX.out hb)); clear hb ho)
        | (go_at_call 18; refine (allf_calls e (by have := HAL.out; omega) (.iface t x) _ (HV.out.on HB3.out)).mono ?_; rintro ev w4 ⟨⟨v6, rfl, ho⟩, hb⟩; obtain ⟨A6, c6, rfl⟩ := Kd.R_slice ho; (have HW6 := Aside0.mk (Kd.R_reads' ho).2.2); (have HB4 := Aside0.mk (HB3.out.trans (hb.mono HB3.out.size))); (have HX4 := Aside0.mk (blk_below HX3.out hb)); (have HW5' := Aside0.mk (Kd.C_below HW5.out hb)); clear hb ho))
      clear x0 x1 x2 x3 x4
      have HBQ := Aside0.mk (below_drew1 HB4.out)
      clear HX
      have HX := Aside0.mk (blk_drew HX4.out)
      have HC5 := Aside0.mk (Kd.C_drew HW5'.out)
      have HC6 := Aside0.mk (Kd.C_drew HW6.out)
      clear HX3 HX4 HB3 HB4 HW5 HW5' HW6
      refine start_ (n := 20) (S := fun w' => w'.cell? ⟨w2.heap.size, 0, none⟩ = some (.int .i64 (refE e).f0) ∧ w'.cell? ⟨w2.heap.size, 1, none⟩ = some (.int .i64 (refE e).f1) ∧ w'.cell? ⟨w2.heap.size, 2, none⟩ = some (.string (refE e).f2) ∧ w'.cell? ⟨w2.heap.size, 3, none⟩ = some (.int .i64 (refE e).f3) ∧ w'.cell? ⟨w2.heap.size, 4, none⟩ = some (.slice A2 (refE e).f4.length c2)) (ds := []) #[false, false, false, false, false, false, false, false, false, false, false, false, false, false, false, false, false, false, false, false] (by kernel_rfl) rfl rfl ⟨(blk_cell HX.out 0).trans rfl, (blk_cell HX.out 1).trans rfl, (blk_cell HX.out 2).trans rfl, (blk_cell HX.out 3).trans rfl, (blk_cell HX.out 4).trans rfl⟩ (fun hHeld => ?_)
      generalize w4.drew = wA at HBQ HX HC5 HC6 hHeld ⊢
      refine pure_ (i := 0) (N := some 21) (v := ?_) (a' := ?_) #[true, false, false, false, false, false, false, false, false, false, false, false, false, false, false, false, false, false, false, false] rfl rfl (by kernel_rfl) (fun _ _ _ h => h) (Or.inl ⟨by rfl, ?_⟩) ?_ ?_
      rotate_left
      · intro w'
        go_simp
        with_reducible rfl
      rotate_left
      · simp only [Act.put, List.setIfInBounds_toArray, List.set_cons_zero, List.set_cons_succ, i64_w, i32_w]
        rfl
      refine pure_ (i := 1) (N := some 22) (v := ?_) (a' := ?_) #[true, true, false, false, false, false, false, false, false, false, false, false, false, false, false, false, false, false, false, false] rfl rfl (by kernel_rfl) (fun _ _ _ h => h) (Or.inl ⟨by rfl, ?_⟩) ?_ ?_
      rotate_left
      · intro w'
        go_simp
        with_reducible rfl
      rotate_left
      · simp only [Act.put, List.setIfInBounds_toArray, List.set_cons_zero, List.set_cons_succ, i64_w, i32_w]
        rfl
      refine pure_ (i := 2) (N := some 23) (v := ?_) (a' := ?_) #[true, true, true, false, false, false, false, false, false, false, false, false, false, false, false, false, false, false, false, false] rfl rfl (by kernel_rfl) (fun _ _ _ h => h) (Or.inl ⟨by rfl, ?_⟩) ?_ ?_
      rotate_left
      · intro w'
        go_simp
        with_reducible rfl
      rotate_left
      · simp only [Act.put, List.setIfInBounds_toArray, List.set_cons_zero, List.set_cons_succ, i64_w, i32_w]
        rfl
      refine take_ (i := 3) (N := some 24) (v := ?_) (a' := ?_) #[true, true, true, true, false, false, false, false, false, false, false, false, false, false, false, false, false, false, false, false] rfl rfl (by kernel_rfl) (fun _ _ _ h => h) (Or.inl ⟨by rfl, ?_⟩) hHeld ?_ ?_
      rotate_left
      · rintro w' ⟨s0, s1, s2, s3, s4⟩
        go_simp
        with_reducible rfl
      rotate_left
      · simp only [Act.put, List.setIfInBounds_toArray, List.set_cons_zero, List.set_cons_succ, i64_w, i32_w]
        rfl
      refine pure_ (i := 4) (N := some 25) (v := ?_) (a' := ?_) #[true, true, true, true, true, false, false, false, false, false, false, false, false, false, false, false, false, false, false, false] rfl rfl (by kernel_rfl) (fun _ _ _ h => h) (Or.inl ⟨by rfl, ?_⟩) ?_ ?_
      rotate_left
      · intro w'
        go_simp
        with_reducible rfl
      rotate_left
      · simp only [Act.put, List.setIfInBounds_toArray, List.set_cons_zero, List.set_cons_succ, i64_w, i32_w]
        rfl
      refine pure_ (i := 5) (N := some 26) (v := ?_) (a' := ?_) #[true, true, true, true, true, true, false, false, false, false, false, false, false, false, false, false, false, false, false, false] rfl rfl (by kernel_rfl) (fun _ _ _ h => h) (Or.inl ⟨by rfl, ?_⟩) ?_ ?_
      rotate_left
      · intro w'
        go_simp
        with_reducible rfl
      rotate_left
      · simp only [Act.put, List.setIfInBounds_toArray, List.set_cons_zero, List.set_cons_succ, i64_w, i32_w]
        rfl
      refine pure_ (i := 6) (N := some 27) (v := ?_) (a' := ?_) #[true, true, true, true, true, true, true, false, false, false, false, false, false, false, false, false, false, false, false, false] rfl rfl (by kernel_rfl) (fun _ _ _ h => h) (Or.inl ⟨by rfl, ?_⟩) ?_ ?_
      rotate_left
      · intro w'
        go_simp
        with_reducible rfl
      rotate_left
      · simp only [Act.put, List.setIfInBounds_toArray, List.set_cons_zero, List.set_cons_succ, i64_w, i32_w]
        rfl
      refine pure_ (i := 7) (N := some 28) (v := ?_) (a' := ?_) #[true, true, true, true, true, true, true, true, false, false, false, false, false, false, false, false, false, false, false, false] rfl rfl (by kernel_rfl) (fun _ _ _ h => h) (Or.inl ⟨by rfl, ?_⟩) ?_ ?_
      rotate_left
      · intro w'
        go_simp
        with_reducible rfl
      rotate_left
      · simp only [Act.put, List.setIfInBounds_toArray, List.set_cons_zero, List.set_cons_succ, i64_w, i32_w]
        rfl
      refine take_ (i := 9) (N := some 30) (v := ?_) (a' := ?_) #[true, true, true, true, true, true, true, true, false, true, false, false, false, false, false, false, false, false, false, false] rfl rfl (by kernel_rfl) (fun _ _ _ h => h) (Or.inl ⟨by rfl, ?_⟩) hHeld ?_ ?_
      rotate_left
      · rintro w' ⟨s0, s1, s2, s3, s4⟩
        go_simp
        with_reducible rfl
      rotate_left
      · simp only [Act.put, List.setIfInBounds_toArray, List.set_cons_zero, List.set_cons_succ, i64_w, i32_w]
        rfl
      refine one_ (i := 8) (N := some 29) #[true, true, true, true, true, true, true, true, true, true, false, false, false, false, false, false, false, false, false, false] rfl rfl (by kernel_rfl) (by decide) (fun K hK => ?_)
      refine goes_ Tryd.func19 (by kernel_rfl) rfl #[.iface t x] (by rfl) rfl rfl (by (try simp only [List.map_toArray, List.map_cons, List.map_nil]); first | done | rfl | (simp only [List.length_drop, List.length_take]; rfl)) ?_
      refine (tell_calls e HFT.out HLN.out _ _ (HV.out.on HBQ.out) (tab_on HLD.out.tab (HB2.out.trans (HBQ.out.mono HB2.out.size)))).mono ?_
      rintro ev w5 ⟨rfl, hb⟩
      have n0_ := Aside0.mk (HBQ.out.trans (hb.mono HBQ.out.size))
      have n1_ := Aside0.mk (blk_below HX.out hb)
      have n2_ := Aside0.mk (Kd.C_below HC5.out hb)
      have n3_ := Aside0.mk (Kd.C_below HC6.out hb)
      clear HBQ HX HC5 HC6 hb
      have HBQ := n0_
      have HX := n1_
      have HC5 := n2_
      have HC6 := n3_
      clear n0_ n1_ n2_ n3_
      refine ⟨_, rfl, ?_⟩
      refine hK.out _ _ ⟨(blk_cell HX.out 0).trans rfl, (blk_cell HX.out 1).trans rfl, (blk_cell HX.out 2).trans rfl, (blk_cell HX.out 3).trans rfl, (blk_cell HX.out 4).trans rfl⟩ (fun hHeld => ?_)
      clear hK K
      refine norm_ (a' := ?_) ?_ ?_
      rotate_left
      · show Act.put _ (some 29) _ = _
        simp only [Act.put, List.setIfInBounds_toArray, List.set_cons_zero, List.set_cons_succ, i64_w, i32_w]
        rfl
      refine one_ (i := 10) (N := some 31) #[true, true, true, true, true, true, true, true, true, true, true, false, false, false, false, false, false, false, false, false] rfl rfl (by kernel_rfl) (by decide) (fun K hK => ?_)
      refine goes_ Tryd.func20 (by kernel_rfl) rfl #[rAgg e (.slice A2 (refE e).f4.length c2)] (by rfl) rfl rfl (by (try simp only [List.map_toArray, List.map_cons, List.map_nil]); first | done | rfl | (simp only [List.length_drop, List.length_take]; rfl)) ?_
      refine (reft_calls e HFT.out HLN.out _ _ (HR.out.on HBQ.out)).mono ?_
      rintro ev w6 ⟨rfl, hb⟩
      have n0_ := Aside0.mk (HBQ.out.trans (hb.mono HBQ.out.size))
      have n1_ := Aside0.mk (blk_below HX.out hb)
      have n2_ := Aside0.mk (Kd.C_below HC5.out hb)
      have n3_ := Aside0.mk (Kd.C_below HC6.out hb)
      clear HBQ HX HC5 HC6 hb
      have HBQ := n0_
      have HX := n1_
      have HC5 := n2_
      have HC6 := n3_
      clear n0_ n1_ n2_ n3_
      refine ⟨_, rfl, ?_⟩
      refine hK.out _ _ ⟨(blk_cell HX.out 0).trans rfl, (blk_cell HX.out 1).trans rfl, (blk_cell HX.out 2).trans rfl, (blk_cell HX.out 3).trans rfl, (blk_cell HX.out 4).trans rfl⟩ (fun hHeld => ?_)
      clear hK K
      refine norm_ (a' := ?_) ?_ ?_
      rotate_left
      · show Act.put _ (some 31) _ = _
        simp only [Act.put, List.setIfInBounds_toArray, List.set_cons_zero, List.set_cons_succ, i64_w, i32_w]
        rfl
      refine pure_ (i := 11) (N := some 32) (v := ?_) (a' := ?_) #[true, true, true, true, true, true, true, true, true, true, true, true, false, false, false, false, false, false, false, false] rfl rfl (by kernel_rfl) (fun _ _ _ h => h) (Or.inl ⟨by rfl, ?_⟩) ?_ ?_
      rotate_left
      · intro w'
        go_simp
        with_reducible rfl
      rotate_left
      · simp only [Act.put, List.setIfInBounds_toArray, List.set_cons_zero, List.set_cons_succ, i64_w, i32_w]
        rfl
      refine pure_ (i := 12) (N := some 33) (v := ?_) (a' := ?_) #[true, true, true, true, true, true, true, true, true, true, true, true, true, false, false, false, false, false, false, false] rfl rfl (by kernel_rfl) (fun _ _ _ h => h) (Or.inl ⟨by rfl, ?_⟩) ?_ ?_
      rotate_left
      · intro w'
        go_simp
        with_reducible rfl
      rotate_left
      · simp only [Act.put, List.setIfInBounds_toArray, List.set_cons_zero, List.set_cons_succ, i64_w, i32_w]
        rfl
      refine pure_ (i := 13) (N := some 34) (v := ?_) (a' := ?_) #[true, true, true, true, true, true, true, true, true, true, true, true, true, true, false, false, false, false, false, false] rfl rfl (by kernel_rfl) (fun _ _ _ h => h) (Or.inl ⟨by rfl, ?_⟩) ?_ ?_
      rotate_left
      · intro w'
        go_simp
        with_reducible rfl
      rotate_left
      · simp only [Act.put, List.setIfInBounds_toArray, List.set_cons_zero, List.set_cons_succ, i64_w, i32_w]
        rfl
      refine pure_ (i := 14) (N := some 35) (v := ?_) (a' := ?_) #[true, true, true, true, true, true, true, true, true, true, true, true, true, true, true, false, false, false, false, false] rfl rfl (by kernel_rfl) (fun _ _ _ h => h) (Or.inl ⟨by rfl, ?_⟩) ?_ ?_
      rotate_left
      · intro w'
        go_simp
        with_reducible rfl
      rotate_left
      · simp only [Act.put, List.setIfInBounds_toArray, List.set_cons_zero, List.set_cons_succ, i64_w, i32_w]
        rfl
      refine pure_ (i := 15) (N := some 36) (v := ?_) (a' := ?_) #[true, true, true, true, true, true, true, true, true, true, true, true, true, true, true, true, false, false, false, false] rfl rfl (by kernel_rfl) (fun _ _ _ h => h) (Or.inl ⟨by rfl, ?_⟩) ?_ ?_
      rotate_left
      · intro w'
        go_simp
        with_reducible rfl
      rotate_left
      · simp only [Act.put, List.setIfInBounds_toArray, List.set_cons_zero, List.set_cons_succ, i64_w, i32_w]
        rfl
      refine pure_ (i := 16) (N := some 37) (v := ?_) (a' := ?_) #[true, true, true, true, true, true, true, true, true, true, true, true, true, true, true, true, true, false, false, false] rfl rfl (by kernel_rfl) (fun _ _ _ h => h) (Or.inl ⟨by rfl, ?_⟩) ?_ ?_
      rotate_left
      · intro w'
        go_simp
        with_reducible rfl
      rotate_left
      · simp only [Act.put, List.setIfInBounds_toArray, List.set_cons_zero, List.set_cons_succ, i64_w, i32_w]
        rfl
      refine pure_ (i := 17) (N := some 38) (v := ?_) (a' := ?_) #[true, true, true, true, true, true, true, true, true, true, true, true, true, true, true, true, true, true, false, false] rfl rfl (by kernel_rfl) (fun _ _ _ h => h) (Or.inl ⟨by rfl, ?_⟩) ?_ ?_
      rotate_left
      · intro w'
        go_simp
        with_reducible rfl
      rotate_left
      · simp only [Act.put, List.setIfInBounds_toArray, List.set_cons_zero, List.set_cons_succ, i64_w, i32_w]
        rfl
      refine pure_ (i := 18) (N := some 39) (v := ?_) (a' := ?_) #[true, true, true, true, true, true, true, true, true, true, true, true, true, true, true, true, true, true, true, false] rfl rfl (by kernel_rfl) (fun _ _ _ h => h) (Or.inl ⟨by rfl, ?_⟩) ?_ ?_
      rotate_left
      · intro w'
        go_simp
        with_reducible rfl
      rotate_left
      · simp only [Act.put, List.setIfInBounds_toArray, List.set_cons_zero, List.set_cons_succ, i64_w, i32_w]
        rfl
      refine pure_ (i := 19) (N := some 40) (v := ?_) (a' := ?_) #[true, true, true, true, true, true, true, true, true, true, true, true, true, true, true, true, true, true, true, true] rfl rfl (by kernel_rfl) (fun _ _ _ h => h) (Or.inl ⟨by rfl, ?_⟩) ?_ ?_
      rotate_left
      · intro w'
        go_simp
        with_reducible rfl
      rotate_left
      · simp only [Act.put, List.setIfInBounds_toArray, List.set_cons_zero, List.set_cons_succ, i64_w, i32_w]
        rfl
      refine done_ (by kernel_rfl) ?_
      go_wp2
      go_loopw [7] (fun i wr => ∃ k : Nat, k ≤ (allE e).length ∧ i = .int .i64 k ∧ Below w6.heap.size w6 wr) (fun i _ => (allE e).length - (intOf i).toNat)
      case atStart => exact ⟨0, Nat.zero_le _, rfl, Below.refl _ _⟩
      case round =>
        obtain ⟨k, hk, rfl, hb⟩ := hrel
        have HBR := Aside0.mk (HBQ.out.trans (hb.mono HBQ.out.size))
        have HD5 := Aside0.mk (Kd.C_below HC5.out hb)
        have HD6 := Aside0.mk (Kd.C_below HC6.out hb)
        have HK6 := Aside0.mk hb
        clear hb HBQ HX HC5 HC6
        by_cases hlt : k < (allE e).length
        · obtain ⟨ad5, rfl, hcell5⟩ := at_intT HD5.out k hlt
          obtain ⟨ad6, rfl, hcell6⟩ := at_intT HD6.out k hlt
          have HLT := Aside0.mk hlt
          have hltI : ((k : Int) < ((allE e).length : Int)) := by omega
          have HHM := Aside0.mk (has_mem (List.getElem_mem hlt))
          generalize (allE e)[k] = m at *
          have hmm : (m != m) = false := by simp
          have H5 := Aside0.mk hcell5
          have H6 := Aside0.mk hcell6
          clear hcell5 hcell6
          go_wp2
          clear HD5 HD6
          have n0_ := Aside0.mk (below_drew1 HBR.out)
          have n1_ := Aside0.mk (below_drew1 HK6.out)
          have n2_ := Aside0.mk (((below_drew1 (Below.refl wr.heap.size wr)).cell (World.block_lt_of_cell? wr _ H5.out)).trans H5.out)
          have n3_ := Aside0.mk (((below_drew1 (Below.refl wr.heap.size wr)).cell (World.block_lt_of_cell? wr _ H6.out)).trans H6.out)
          clear HBR HK6 H5 H6
          have HBR := n0_
          have HK6 := n1_
          have H5 := n2_
          have H6 := n3_
          clear n0_ n1_ n2_ n3_
          refine start_ (n := 19) (S := fun w' => w'.cell? (ad5.add k) = some (.int .i64 m) ∧ w'.cell? (ad6.add k) = some (.int .i64 m)) (ds := []) #[false, false, false, false, false, false, false, false, false, false, false, false, false, false, false, false, false, false, false] (by kernel_rfl) rfl rfl ⟨H5.out, H6.out⟩ (fun hHeld => ?_)
          generalize wr.drew = wA at HBR HK6 H5 H6 hHeld ⊢
          refine pure_ (i := 0) (N := some 47) (v := ?_) (a' := ?_) #[true, false, false, false, false, false, false, false, false, false, false, false, false, false, false, false, false, false, false] rfl rfl (by kernel_rfl) (fun _ _ _ h => h) (Or.inl ⟨by rfl, ?_⟩) ?_ ?_
          rotate_left
          · intro w'
            go_simp
            with_reducible rfl
          rotate_left
          · simp only [Act.put, List.setIfInBounds_toArray, List.set_cons_zero, List.set_cons_succ, i64_w, i32_w]
            rfl
          refine pure_ (i := 1) (N := some 48) (v := ?_) (a' := ?_) #[true, true, false, false, false, false, false, false, false, false, false, false, false, false, false, false, false, false, false] rfl rfl (by kernel_rfl) (fun _ _ _ h => h) (Or.inl ⟨by rfl, ?_⟩) ?_ ?_
          rotate_left
          · intro w'
            go_simp
            with_reducible rfl
          rotate_left
          · simp only [Act.put, List.setIfInBounds_toArray, List.set_cons_zero, List.set_cons_succ, i64_w, i32_w]
            rfl
          refine pure_ (i := 2) (N := some 49) (v := ?_) (a' := ?_) #[true, true, true, false, false, false, false, false, false, false, false, false, false, false, false, false, false, false, false] rfl rfl (by kernel_rfl) (fun _ _ _ h => h) (Or.inl ⟨by rfl, ?_⟩) ?_ ?_
          rotate_left
          · intro w'
            go_simp
            with_reducible rfl
          rotate_left
          · simp only [Act.put, List.setIfInBounds_toArray, List.set_cons_zero, List.set_cons_succ, i64_w, i32_w]
            rfl
          refine take_ (i := 3) (N := some 50) (v := ?_) (a' := ?_) #[true, true, true, true, false, false, false, false, false, false, false, false, false, false, false, false, false, false, false] rfl rfl (by kernel_rfl) (fun _ _ _ h => h) (Or.inl ⟨by rfl, ?_⟩) hHeld ?_ ?_
          rotate_left
          · rintro w' ⟨s0, s1⟩
            go_simp
            with_reducible rfl
          rotate_left
          · simp only [Act.put, List.setIfInBounds_toArray, List.set_cons_zero, List.set_cons_succ, i64_w, i32_w]
            rfl
          refine pure_ (i := 5) (N := some 52) (v := ?_) (a' := ?_) #[true, true, true, true, false, true, false, false, false, false, false, false, false, false, false, false, false, false, false] rfl rfl (by kernel_rfl) (fun _ _ _ h => h) (Or.inl ⟨by rfl, ?_⟩) ?_ ?_
          rotate_left
          · intro w'
            go_simp
            with_reducible rfl
          rotate_left
          · simp only [Act.put, List.setIfInBounds_toArray, List.set_cons_zero, List.set_cons_succ, i64_w, i32_w]
            rfl
          refine pure_ (i := 6) (N := some 53) (v := ?_) (a' := ?_) #[true, true, true, true, false, true, true, false, false, false, false, false, false, false, false, false, false, false, false] rfl rfl (by kernel_rfl) (fun _ _ _ h => h) (Or.inl ⟨by rfl, ?_⟩) ?_ ?_
          rotate_left
          · intro w'
            go_simp
            with_reducible rfl
          rotate_left
          · simp only [Act.put, List.setIfInBounds_toArray, List.set_cons_zero, List.set_cons_succ, i64_w, i32_w]
            rfl
          refine pure_ (i := 7) (N := some 54) (v := ?_) (a' := ?_) #[true, true, true, true, false, true, true, true, false, false, false, false, false, false, false, false, false, false, false] rfl rfl (by kernel_rfl) (fun _ _ _ h => h) (Or.inl ⟨by rfl, ?_⟩) ?_ ?_
          rotate_left
          · intro w'
            go_simp
            with_reducible rfl
          rotate_left
          · simp only [Act.put, List.setIfInBounds_toArray, List.set_cons_zero, List.set_cons_succ, i64_w, i32_w]
            rfl
          refine take_ (i := 8) (N := some 55) (v := ?_) (a' := ?_) #[true, true, true, true, false, true, true, true, true, false, false, false, false, false, false, false, false, false, false] rfl rfl (by kernel_rfl) (fun _ _ _ h => h) (Or.inl ⟨by rfl, ?_⟩) hHeld ?_ ?_
          rotate_left
          · rintro w' ⟨s0, s1⟩
            go_simp
            with_reducible rfl
          rotate_left
          · simp only [Act.put, List.setIfInBounds_toArray, List.set_cons_zero, List.set_cons_succ, i64_w, i32_w]
            rfl
          refine one_ (i := 4) (N := some 51) #[true, true, true, true, true, true, true, true, true, false, false, false, false, false, false, false, false, false, false] rfl rfl (by kernel_rfl) (by decide) (fun K hK => ?_)
          refine goes_ Tryd.func17 (by kernel_rfl) rfl #[.int .i64 m] (by rfl) rfl rfl (by (try simp only [List.map_toArray, List.map_cons, List.map_nil]); first | done | rfl | (simp only [List.length_drop, List.length_take]; rfl)) ?_
          refine (code_calls m _).mono ?_
          rintro ev w7 ⟨rfl, rfl⟩
          refine ⟨_, rfl, ?_⟩
          refine hK.out _ _ ⟨H5.out, H6.out⟩ (fun hHeld => ?_)
          clear hK K
          refine norm_ (a' := ?_) ?_ ?_
          rotate_left
          · show Act.put _ (some 51) _ = _
            simp only [Act.put, List.setIfInBounds_toArray, List.set_cons_zero, List.set_cons_succ, i64_w, i32_w]
            rfl
          refine pure_ (i := 9) (N := some 56) (v := ?_) (a' := ?_) #[true, true, true, true, true, true, true, true, true, true, false, false, false, false, false, false, false, false, false] rfl rfl (by kernel_rfl) (fun _ _ _ h => h) (Or.inl ⟨by rfl, ?_⟩) ?_ ?_
          rotate_left
          · intro w'
            go_simp
            with_reducible rfl
          rotate_left
          · simp only [Act.put, List.setIfInBounds_toArray, List.set_cons_zero, List.set_cons_succ, i64_w, i32_w]
            rfl
          refine pure_ (i := 10) (N := some 57) (v := ?_) (a' := ?_) #[true, true, true, true, true, true, true, true, true, true, true, false, false, false, false, false, false, false, false] rfl rfl (by kernel_rfl) (fun _ _ _ h => h) (Or.inl ⟨by rfl, ?_⟩) ?_ ?_
          rotate_left
          · intro w'
            go_simp
            with_reducible rfl
          rotate_left
          · simp only [Act.put, List.setIfInBounds_toArray, List.set_cons_zero, List.set_cons_succ, i64_w, i32_w]
            rfl
          refine pure_ (i := 11) (N := some 58) (v := ?_) (a' := ?_) #[true, true, true, true, true, true, true, true, true, true, true, true, false, false, false, false, false, false, false] rfl rfl (by kernel_rfl) (fun _ _ _ h => h) (Or.inl ⟨by rfl, ?_⟩) ?_ ?_
          rotate_left
          · intro w'
            go_simp
            with_reducible rfl
          rotate_left
          · simp only [Act.put, List.setIfInBounds_toArray, List.set_cons_zero, List.set_cons_succ, i64_w, i32_w]
            rfl
          refine pure_ (i := 12) (N := some 59) (v := ?_) (a' := ?_) #[true, true, true, true, true, true, true, true, true, true, true, true, true, false, false, false, false, false, false] rfl rfl (by kernel_rfl) (fun _ _ _ h => h) (Or.inl ⟨by rfl, ?_⟩) ?_ ?_
          rotate_left
          · intro w'
            go_simp
            with_reducible rfl
          rotate_left
          · simp only [Act.put, List.setIfInBounds_toArray, List.set_cons_zero, List.set_cons_succ, i64_w, i32_w]
            rfl
          refine pure_ (i := 13) (N := some 60) (v := ?_) (a' := ?_) #[true, true, true, true, true, true, true, true, true, true, true, true, true, true, false, false, false, false, false] rfl rfl (by kernel_rfl) (fun _ _ _ h => h) (Or.inl ⟨by rfl, ?_⟩) ?_ ?_
          rotate_left
          · intro w'
            go_simp
            with_reducible rfl
          rotate_left
          · simp only [Act.put, List.setIfInBounds_toArray, List.set_cons_zero, List.set_cons_succ, i64_w, i32_w]
            rfl
          refine pure_ (i := 14) (N := some 61) (v := ?_) (a' := ?_) #[true, true, true, true, true, true, true, true, true, true, true, true, true, true, true, false, false, false, false] rfl rfl (by kernel_rfl) (fun _ _ _ h => h) (Or.inl ⟨by rfl, ?_⟩) ?_ ?_
          rotate_left
          · intro w'
            go_simp
            with_reducible rfl
          rotate_left
          · simp only [Act.put, List.setIfInBounds_toArray, List.set_cons_zero, List.set_cons_succ, i64_w, i32_w]
            rfl
          refine take_ (i := 15) (N := some 62) (v := ?_) (a' := ?_) #[true, true, true, true, true, true, true, true, true, true, true, true, true, true, true, true, false, false, false] rfl rfl (by kernel_rfl) (fun _ _ _ h => h) (Or.inl ⟨by rfl, ?_⟩) hHeld ?_ ?_
          rotate_left
          · rintro w' ⟨s0, s1⟩
            go_simp
            with_reducible rfl
          rotate_left
          · simp only [Act.put, List.setIfInBounds_toArray, List.set_cons_zero, List.set_cons_succ, i64_w, i32_w]
            rfl
          refine one_ (i := 16) (N := some 63) #[true, true, true, true, true, true, true, true, true, true, true, true, true, true, true, true, true, false, false] rfl rfl (by kernel_rfl) (by decide) (fun K hK => ?_)
          refine goes_ Tryd.func11 (by kernel_rfl) rfl #[.iface t x, .int .i64 m] (by rfl) rfl rfl (by (try simp only [List.map_toArray, List.map_cons, List.map_nil]); first | done | rfl | (simp only [List.length_drop, List.length_take]; rfl)) ?_
          refine (has_calls m e _ _ (HV.out.on HBR.out)).mono ?_
          rintro ev w8 ⟨rfl, hb⟩
          rw [HHM.out]
          have n0_ := Aside0.mk (HBR.out.trans (hb.mono HBR.out.size))
          have n1_ := Aside0.mk ((hb.cell (World.block_lt_of_cell? _ _ H5.out)).trans H5.out)
          have n2_ := Aside0.mk ((hb.cell (World.block_lt_of_cell? _ _ H6.out)).trans H6.out)
          have n3_ := Aside0.mk (HK6.out.trans (hb.mono HK6.out.size))
          clear HBR H5 H6 HK6 hb
          have HBR := n0_
          have H5 := n1_
          have H6 := n2_
          have HK6 := n3_
          clear n0_ n1_ n2_ n3_
          refine ⟨_, rfl, ?_⟩
          refine hK.out _ _ ⟨H5.out, H6.out⟩ (fun hHeld => ?_)
          clear hK K
          refine norm_ (a' := ?_) ?_ ?_
          rotate_left
          · show Act.put _ (some 63) _ = _
            simp only [Act.put, List.setIfInBounds_toArray, List.set_cons_zero, List.set_cons_succ, i64_w, i32_w]
            rfl
          refine pure_ (i := 17) (N := some 64) (v := ?_) (a' := ?_) #[true, true, true, true, true, true, true, true, true, true, true, true, true, true, true, true, true, true, false] rfl rfl (by kernel_rfl) (fun _ _ _ h => h) (Or.inl ⟨by rfl, ?_⟩) ?_ ?_
          rotate_left
          · intro w'
            go_simp
            with_reducible rfl
          rotate_left
          · simp only [Act.put, List.setIfInBounds_toArray, List.set_cons_zero, List.set_cons_succ, i64_w, i32_w]
            rfl
          refine pure_ (i := 18) (N := some 65) (v := ?_) (a' := ?_) #[true, true, true, true, true, true, true, true, true, true, true, true, true, true, true, true, true, true, true] rfl rfl (by kernel_rfl) (fun _ _ _ h => h) (Or.inl ⟨by rfl, ?_⟩) ?_ ?_
          rotate_left
          · intro w'
            go_simp
            with_reducible rfl
          rotate_left
          · simp only [Act.put, List.setIfInBounds_toArray, List.set_cons_zero, List.set_cons_succ, i64_w, i32_w]
            rfl
          refine done_ (by kernel_rfl) ?_
          go_wp2
          go_roundw
          case rel => exact ⟨k + 1, HLT.out, by push_cast; rfl, HK6.out⟩
          case measure => have := HLT.out; simp [intOf]; omega
        · obtain rfl : k = (allE e).length := by omega
          have hnot : ¬ (((allE e).length : Int) < ((allE e).length : Int)) := by omega
          clear hlt hk
          have HBF := Aside0.mk (HB2.out.trans (HBR.out.mono HB2.out.size))
          by_cases hz : (allE e).length = 0
          · have h00 : (allE e).headD 0 = 0 := by
              cases h9 : allE e with
              | nil => rfl
              | cons a q => rw [h9] at hz; simp at hz
            have hgt : ¬ ((0 : Int) < ((allE e).length : Int)) := by omega
            have HFC := Aside0.mk (fun (W : World) (hW : Below w2.heap.size w2 W) => first_calls e HOK.out (.iface t x) W (HV.out.on hW) (HLD.out.on (HB2.out.trans (hW.mono HB2.out.size))).errT)
            rw [h00] at HFC
            go_wp2_with (first
              | (go_at_call 21; refine (HFC.out _ HBR.out).mono ?_; rintro ev w9 ⟨rfl, hb⟩; (have HB9 := Aside0.mk (HBF.out.trans (hb.mono HBF.out.size))); clear hb)
              | (go_at_call 17; refine (code_calls _ _).mono ?_; rintro ev w' ⟨rfl, rfl⟩)
              | (go_at_call 7; refine (live_calls _ (tab_on HLD.out.tab HB9.out)).mono ?_; rintro ev w10 ⟨rfl, hb⟩; (have HB10 := Aside0.mk (HB9.out.trans (hb.mono HB9.out.size))); clear hb))
            go_ret
            exact ⟨rfl, HB10.out⟩
          · have hgt : (0 : Int) < ((allE e).length : Int) := by omega
            obtain ⟨ad5, rfl, hcell⟩ := at_intT HD5.out 0 (by omega)
            have h0 : (allE e).headD 0 = (allE e)[0] := headD_get (by omega)
            have HFC := Aside0.mk (fun (W : World) (hW : Below w2.heap.size w2 W) => first_calls e HOK.out (.iface t x) W (HV.out.on hW) (HLD.out.on (HB2.out.trans (hW.mono HB2.out.size))).errT)
            rw [h0] at HFC
            generalize (allE e)[0] = m at *
            have hcell0 : wr.cell? ad5 = some (.int .i64 m) := by
              have h9 : ad5.add 0 = ad5 := rfl
              rw [h9] at hcell
              exact hcell
            have hee : (m == m) = true := beq_self_eq_true m
            go_wp2_with (first
              | (go_at_call 21; refine (HFC.out _ HBR.out).mono ?_; rintro ev w9 ⟨rfl, hb⟩; (have HB9 := Aside0.mk (HBF.out.trans (hb.mono HBF.out.size))); clear hb)
              | (go_at_call 17; refine (code_calls _ _).mono ?_; rintro ev w' ⟨rfl, rfl⟩)
              | (go_at_call 7; refine (live_calls _ (tab_on HLD.out.tab HB9.out)).mono ?_; rintro ev w10 ⟨rfl, hb⟩; (have HB10 := Aside0.mk (HB9.out.trans (hb.mono HB9.out.size))); clear hb))
            go_ret
            exact ⟨rfl, HB10.out⟩
  · go_enter Tryd.func5, Tryd.ntmps5
    go_wp2_with (first
      | (go_at_call 6; refine HG.out.mono ?_; rintro ev w1 ⟨rfl, hb⟩; (have HB1 := Aside0.mk hb); clear hb)
      | (go_at_call 7; refine (live_calls _ (tab_on HLD.out.tab HB1.out)).mono ?_; rintro ev w2 ⟨rfl, hb⟩; (have HB2 := Aside0.mk (HB1.out.trans (hb.mono HB1.out.size))); clear hb))
    go_ret
    exact ⟨rfl, HB2.out⟩
end Go.Proofs.YtcklemjmenifpaaDoor.Fn
