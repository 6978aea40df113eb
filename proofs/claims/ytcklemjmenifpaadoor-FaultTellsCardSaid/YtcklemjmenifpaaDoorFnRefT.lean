/- The document's Tell over any error tree, by its walk. -/
import Derived.Test.YtcklemjmenifpaaDoorFnNum
set_option linter.unusedVariables false
set_option linter.unusedSimpArgs false
namespace Go.Proofs.YtcklemjmenifpaaDoor.Fn
open Go.RowKit Go.Shelf Go.Extern.Stop Go.Stop Go.Extern Go.Proofs.YtcklemjmenifpaaDoorW.PrintWords Go.Proofs.YtcklemjmenifpaaDoorW.PrintLast Go.Proofs.YtcklemjmenifpaaDoorW.PrintMore Go.Proofs.YtcklemjmenifpaaDoor.Fs

set_option maxRecDepth 100000 in
set_option maxHeartbeats 8000000 in
theorem reft_calls (e : Er) : fitE e → (tellE e).length ≤ 1000000 → ∀ (v : Value) (w : World), RV w e v → Calls Tryd.prog 20 #[rAgg e v] w fun ev w' => ev = .returned (.string (bs (tellE e))) ∧ Below w.heap.size w w' := by
  induction e with
  | nil =>
    intro _ _ v w hv
    obtain rfl := hv
    show Calls Tryd.prog 20 #[.agg #[.int .i64 0, .int .i64 0, .string ⟨#[]⟩, .int .i64 0, .slice none 0 0]] w _
    have HB := Aside0.mk ((Below.refl w.heap.size w).alloc (Nat.le_refl _) (.cells #[.int .i64 0, .int .i64 0, .string ⟨#[]⟩, .int .i64 0, .slice none 0 0] 29))
    go_enter Tryd.func20, Tryd.ntmps20
    go_wp2
    go_ret
    exact ⟨rfl, HB.out⟩
  | num n =>
    intro hf hl v w hv
    obtain rfl := hv
    show Calls Tryd.prog 20 #[.agg #[.int .i64 1, .int .i64 n, .string ⟨#[]⟩, .int .i64 0, .slice none 0 0]] w _
    have HB := Aside0.mk ((Below.refl w.heap.size w).alloc (Nat.le_refl _) (.cells #[.int .i64 1, .int .i64 n, .string ⟨#[]⟩, .int .i64 0, .slice none 0 0] 29))
    have HF := Aside0.mk hf
    have z1 : (9223372036854775807 < 6 + (bs (Lib.itoa n)).size) = False := by rw [bs_size]; have := Lib.itoa_length_le n hf.1 hf.2; exact eq_false (by omega)
    clear hf hl
    go_enter Tryd.func20, Tryd.ntmps20
    go_wp2_with (go_at_call 33; refine (num_calls n HF.out.1 HF.out.2 _).mono ?_; rintro ev w1 ⟨rfl, hb⟩; (have HB1 := Aside0.mk (HB.out.trans (hb.mono HB.out.size))); clear hb)
    go_ret
    refine ⟨?_, HB1.out⟩
    have et : bs (tellE (.num n)) = ⟨#[101, 114, 114, 111, 114, 32]⟩ ++ bs (Lib.itoa n) := by simp only [tellE]; rw [← bs_app]; rfl
    rw [et]
    rfl
  | slip s no e ih =>
    intro hf hl v w hv
    obtain ⟨g, c, v', rfl, hc, hg, hr⟩ := hv
    obtain ⟨A, c', rfl⟩ := hr.slice
    show Calls Tryd.prog 20 #[.agg #[.int .i64 2, .int .i64 0, .string s, .int .i64 no, .slice (some ⟨g, 0, none⟩) 1 c]] w _
    have HF := Aside0.mk hf
    simp only [tellE, List.length_append, List.length_cons, List.length_nil] at hl
    have hl0 : s.data.toList.length = s.size := by simp
    have HI := Aside0.mk (fun W (hW : Below w.heap.size w W) => ih hf.2 (by omega) _ W (hr.on hW))
    have hsz := Lib.itoa_length_le no hf.1.1 hf.1.2
    have z1 : (9223372036854775807 < s.size + 1) = False := eq_false (by omega)
    have z2 : (9223372036854775807 < s.size + 1 + (bs (Lib.itoa no)).size) = False := by rw [bs_size]; exact eq_false (by omega)
    have z3 : (9223372036854775807 < s.size + 1 + (bs (Lib.itoa no)).size + 2) = False := by rw [bs_size]; exact eq_false (by omega)
    have z4 : (9223372036854775807 < s.size + 1 + (bs (Lib.itoa no)).size + 2 + (bs (tellE e)).size) = False := by rw [bs_size, bs_size]; exact eq_false (by omega)
    have et : bs (tellE (.slip s no e)) = s ++ ⟨#[32]⟩ ++ bs (Lib.itoa no) ++ ⟨#[58, 32]⟩ ++ bs (tellE e) := by
      simp only [tellE]
      rw [← bs_app, ← bs_app, ← bs_app, ← bs_app, bs_list]
      rfl
    have HE := Aside0.mk et
    have HBX := Aside0.mk (below_drew1 ((Below.refl w.heap.size w).alloc (Nat.le_refl _) (.cells #[.int .i64 2, .int .i64 0, .string s, .int .i64 no, .slice (some ⟨g, 0, none⟩) 1 c] 29)))
    have HX := Aside0.mk (blk_drew (blk_new w (.cells #[.int .i64 2, .int .i64 0, .string s, .int .i64 no, .slice (some ⟨g, 0, none⟩) 1 c] 29)))
    have HG := Aside0.mk (blk_drew (blk_alloc hg (.cells #[.int .i64 2, .int .i64 0, .string s, .int .i64 no, .slice (some ⟨g, 0, none⟩) 1 c] 29)))
    clear hf hl ih hl0 hsz et hg hr hc
    go_enter Tryd.func20, Tryd.ntmps20
    go_wp2
    refine start_ (n := 15) (S := fun w' => w'.cell? ⟨w.heap.size, 2, none⟩ = some (.string s) ∧ w'.cell? ⟨w.heap.size, 3, none⟩ = some (.int .i64 no) ∧ w'.cell? ⟨w.heap.size, 4, none⟩ = some (.slice (some ⟨g, 0, none⟩) 1 c) ∧ w'.cell? ⟨g, 0, none⟩ = some (.int .i64 (refE e).f0) ∧ w'.cell? ⟨g, 1, none⟩ = some (.int .i64 (refE e).f1) ∧ w'.cell? ⟨g, 2, none⟩ = some (.string (refE e).f2) ∧ w'.cell? ⟨g, 3, none⟩ = some (.int .i64 (refE e).f3) ∧ w'.cell? ⟨g, 4, none⟩ = some (.slice A (refE e).f4.length c')) (ds := []) #[false, false, false, false, false, false, false, false, false, false, false, false, false, false, false] (by kernel_rfl) rfl rfl ⟨(blk_cell HX.out 2).trans rfl, (blk_cell HX.out 3).trans rfl, (blk_cell HX.out 4).trans rfl, (blk_cell HG.out 0).trans rfl, (blk_cell HG.out 1).trans rfl, (blk_cell HG.out 2).trans rfl, (blk_cell HG.out 3).trans rfl, (blk_cell HG.out 4).trans rfl⟩ (fun hHeld => ?_)
    generalize (w.alloc (.cells #[.int .i64 2, .int .i64 0, .string s, .int .i64 no, .slice (some ⟨g, 0, none⟩) 1 c] 29)).drew = wA at HBX HX HG hHeld ⊢
    refine pure_ (i := 0) (N := some 13) (v := ?_) (a' := ?_) #[true, false, false, false, false, false, false, false, false, false, false, false, false, false, false] rfl rfl (by kernel_rfl) (fun _ _ _ h => h) (Or.inl ⟨by rfl, ?_⟩) ?_ ?_
    rotate_left
    · intro w'
      go_simp
      with_reducible rfl
    rotate_left
    · simp only [Act.put, List.setIfInBounds_toArray, List.set_cons_zero, List.set_cons_succ, i64_w, i32_w]
      rfl
    refine take_ (i := 1) (N := some 14) (v := ?_) (a' := ?_) #[true, true, false, false, false, false, false, false, false, false, false, false, false, false, false] rfl rfl (by kernel_rfl) (fun _ _ _ h => h) (Or.inl ⟨by rfl, ?_⟩) hHeld ?_ ?_
    rotate_left
    · rintro w' ⟨s0, s1, s2, s3, s4, s5, s6, s7⟩
      go_simp
      with_reducible rfl
    rotate_left
    · simp only [Act.put, List.setIfInBounds_toArray, List.set_cons_zero, List.set_cons_succ, i64_w, i32_w]
      rfl
    refine pure_ (i := 2) (N := some 15) (v := ?_) (a' := ?_) #[true, true, true, false, false, false, false, false, false, false, false, false, false, false, false] rfl rfl (by kernel_rfl) (fun _ _ _ h => h) (Or.inl ⟨by rfl, ?_⟩) ?_ ?_
    rotate_left
    · intro w'
      go_simp
      with_reducible rfl
    rotate_left
    · simp only [Act.put, List.setIfInBounds_toArray, List.set_cons_zero, List.set_cons_succ, i64_w, i32_w]
      rfl
    refine pure_ (i := 3) (N := some 16) (v := ?_) (a' := ?_) #[true, true, true, true, false, false, false, false, false, false, false, false, false, false, false] rfl rfl (by kernel_rfl) (fun _ _ _ h => h) (Or.inl ⟨by rfl, ?_⟩) ?_ ?_
    rotate_left
    · intro w'
      go_simp
      with_reducible rfl
    rotate_left
    · simp only [Act.put, List.setIfInBounds_toArray, List.set_cons_zero, List.set_cons_succ, i64_w, i32_w]
      rfl
    refine take_ (i := 4) (N := some 17) (v := ?_) (a' := ?_) #[true, true, true, true, true, false, false, false, false, false, false, false, false, false, false] rfl rfl (by kernel_rfl) (fun _ _ _ h => h) (Or.inl ⟨by rfl, ?_⟩) hHeld ?_ ?_
    rotate_left
    · rintro w' ⟨s0, s1, s2, s3, s4, s5, s6, s7⟩
      go_simp
      with_reducible rfl
    rotate_left
    · simp only [Act.put, List.setIfInBounds_toArray, List.set_cons_zero, List.set_cons_succ, i64_w, i32_w]
      rfl
    refine pure_ (i := 8) (N := some 21) (v := ?_) (a' := ?_) #[true, true, true, true, true, false, false, false, true, false, false, false, false, false, false] rfl rfl (by kernel_rfl) (fun _ _ _ h => h) (Or.inl ⟨by rfl, ?_⟩) ?_ ?_
    rotate_left
    · intro w'
      go_simp
      with_reducible rfl
    rotate_left
    · simp only [Act.put, List.setIfInBounds_toArray, List.set_cons_zero, List.set_cons_succ, i64_w, i32_w]
      rfl
    refine take_ (i := 9) (N := some 22) (v := ?_) (a' := ?_) #[true, true, true, true, true, false, false, false, true, true, false, false, false, false, false] rfl rfl (by kernel_rfl) (fun _ _ _ h => h) (Or.inl ⟨by rfl, ?_⟩) hHeld ?_ ?_
    rotate_left
    · rintro w' ⟨s0, s1, s2, s3, s4, s5, s6, s7⟩
      go_simp
      with_reducible rfl
    rotate_left
    · simp only [Act.put, List.setIfInBounds_toArray, List.set_cons_zero, List.set_cons_succ, i64_w, i32_w]
      rfl
    refine pure_ (i := 10) (N := some 23) (v := ?_) (a' := ?_) #[true, true, true, true, true, false, false, false, true, true, true, false, false, false, false] rfl rfl (by kernel_rfl) (fun _ _ _ h => h) (Or.inl ⟨by rfl, ?_⟩) ?_ ?_
    rotate_left
    · intro w'
      go_simp
      with_reducible rfl
    rotate_left
    · simp only [Act.put, List.setIfInBounds_toArray, List.set_cons_zero, List.set_cons_succ, i64_w, i32_w]
      rfl
    refine take_ (i := 11) (N := some 24) (v := ?_) (a' := ?_) #[true, true, true, true, true, false, false, false, true, true, true, true, false, false, false] rfl rfl (by kernel_rfl) (fun _ _ _ h => h) (Or.inl ⟨by rfl, ?_⟩) hHeld ?_ ?_
    rotate_left
    · rintro w' ⟨s0, s1, s2, s3, s4, s5, s6, s7⟩
      go_simp
      with_reducible rfl
    rotate_left
    · simp only [Act.put, List.setIfInBounds_toArray, List.set_cons_zero, List.set_cons_succ, i64_w, i32_w]
      rfl
    refine one_ (i := 5) (N := some 18) #[true, true, true, true, true, true, false, false, true, true, true, true, false, false, false] rfl rfl (by kernel_rfl) (by decide) (fun K hK => ?_)
    refine goes_ Tryd.func33 (by kernel_rfl) rfl #[.int .i64 no] (by rfl) rfl rfl (by (try simp only [List.map_toArray, List.map_cons, List.map_nil]); first | done | rfl | (simp only [List.length_drop, List.length_take]; rfl)) ?_
    refine (num_calls no HF.out.1.1 HF.out.1.2 _).mono ?_
    rintro ev w1 ⟨rfl, hb⟩
    have n0_ := Aside0.mk (HBX.out.trans (hb.mono HBX.out.size))
    have n1_ := Aside0.mk (blk_below HX.out hb)
    have n2_ := Aside0.mk (blk_below HG.out hb)
    clear HBX HX HG hb
    have HBX := n0_
    have HX := n1_
    have HG := n2_
    clear n0_ n1_ n2_
    refine ⟨_, rfl, ?_⟩
    refine hK.out _ _ ⟨(blk_cell HX.out 2).trans rfl, (blk_cell HX.out 3).trans rfl, (blk_cell HX.out 4).trans rfl, (blk_cell HG.out 0).trans rfl, (blk_cell HG.out 1).trans rfl, (blk_cell HG.out 2).trans rfl, (blk_cell HG.out 3).trans rfl, (blk_cell HG.out 4).trans rfl⟩ (fun hHeld => ?_)
    clear hK K
    refine norm_ (a' := ?_) ?_ ?_
    rotate_left
    · show Act.put _ (some 18) _ = _
      simp only [Act.put, List.setIfInBounds_toArray, List.set_cons_zero, List.set_cons_succ, i64_w, i32_w]
      rfl
    refine pure_ (i := 6) (N := some 19) (v := ?_) (a' := ?_) #[true, true, true, true, true, true, true, false, true, true, true, true, false, false, false] rfl rfl (by kernel_rfl) (fun _ _ _ h => h) (Or.inl ⟨by rfl, ?_⟩) ?_ ?_
    rotate_left
    · intro w'
      go_simp
      with_reducible rfl
    rotate_left
    · simp only [Act.put, List.setIfInBounds_toArray, List.set_cons_zero, List.set_cons_succ, i64_w, i32_w]
      rfl
    refine pure_ (i := 7) (N := some 20) (v := ?_) (a' := ?_) #[true, true, true, true, true, true, true, true, true, true, true, true, false, false, false] rfl rfl (by kernel_rfl) (fun _ _ _ h => h) (Or.inl ⟨by rfl, ?_⟩) ?_ ?_
    rotate_left
    · intro w'
      go_simp
      with_reducible rfl
    rotate_left
    · simp only [Act.put, List.setIfInBounds_toArray, List.set_cons_zero, List.set_cons_succ, i64_w, i32_w]
      rfl
    refine one_ (i := 12) (N := some 25) #[true, true, true, true, true, true, true, true, true, true, true, true, true, false, false] rfl rfl (by kernel_rfl) (by decide) (fun K hK => ?_)
    refine goes_ Tryd.func20 (by kernel_rfl) rfl #[rAgg e (.slice A (refE e).f4.length c')] (by rfl) rfl rfl (by (try simp only [List.map_toArray, List.map_cons, List.map_nil]); first | done | rfl | (simp only [List.length_drop, List.length_take]; rfl)) ?_
    refine (HI.out _ HBX.out).mono ?_
    rintro ev w2 ⟨rfl, hb⟩
    have n0_ := Aside0.mk (HBX.out.trans (hb.mono HBX.out.size))
    have n1_ := Aside0.mk (blk_below HX.out hb)
    have n2_ := Aside0.mk (blk_below HG.out hb)
    clear HBX HX HG hb
    have HBX := n0_
    have HX := n1_
    have HG := n2_
    clear n0_ n1_ n2_
    refine ⟨_, rfl, ?_⟩
    refine hK.out _ _ ⟨(blk_cell HX.out 2).trans rfl, (blk_cell HX.out 3).trans rfl, (blk_cell HX.out 4).trans rfl, (blk_cell HG.out 0).trans rfl, (blk_cell HG.out 1).trans rfl, (blk_cell HG.out 2).trans rfl, (blk_cell HG.out 3).trans rfl, (blk_cell HG.out 4).trans rfl⟩ (fun hHeld => ?_)
    clear hK K
    refine norm_ (a' := ?_) ?_ ?_
    rotate_left
    · show Act.put _ (some 25) _ = _
      simp only [Act.put, List.setIfInBounds_toArray, List.set_cons_zero, List.set_cons_succ, i64_w, i32_w]
      rfl
    refine pure_ (i := 13) (N := some 26) (v := ?_) (a' := ?_) #[true, true, true, true, true, true, true, true, true, true, true, true, true, true, false] rfl rfl (by kernel_rfl) (fun _ _ _ h => h) (Or.inl ⟨by rfl, ?_⟩) ?_ ?_
    rotate_left
    · intro w'
      go_simp
      with_reducible rfl
    rotate_left
    · simp only [Act.put, List.setIfInBounds_toArray, List.set_cons_zero, List.set_cons_succ, i64_w, i32_w]
      rfl
    refine pure_ (i := 14) (N := some 2) (v := ?_) (a' := ?_) #[true, true, true, true, true, true, true, true, true, true, true, true, true, true, true] rfl rfl (by kernel_rfl) (fun _ _ _ h => h) (Or.inl ⟨by rfl, ?_⟩) ?_ ?_
    rotate_left
    · intro w'
      go_simp
      with_reducible rfl
    rotate_left
    · simp only [Act.put, List.setIfInBounds_toArray, List.set_cons_zero, List.set_cons_succ, i64_w, i32_w]
      rfl
    refine done_ (by kernel_rfl) ?_
    go_wp2
    go_ret
    refine ⟨?_, HBX.out⟩
    rw [HE.out]
    rfl
  | two a b iha ihb =>
    intro hf hl v w hv
    obtain ⟨g, c, va, vb, rfl, hc, hg, hr, hr'⟩ := hv
    obtain ⟨A, c', rfl⟩ := hr.slice
    obtain ⟨A2, c2, rfl⟩ := hr'.slice
    show Calls Tryd.prog 20 #[.agg #[.int .i64 3, .int .i64 0, .string ⟨#[]⟩, .int .i64 0, .slice (some ⟨g, 0, none⟩) 2 c]] w _
    simp only [tellE, List.length_append, List.length_cons, List.length_nil] at hl
    have HXA := Aside0.mk (fun W (hW : Below w.heap.size w W) => iha hf.1 (by omega) _ W (hr.on hW))
    have HXB := Aside0.mk (fun W (hW : Below w.heap.size w W) => ihb hf.2 (by omega) _ W (hr'.on hW))
    have z1 : (9223372036854775807 < 1 + (bs (tellE a)).size) = False := by rw [bs_size]; exact eq_false (by omega)
    have z2 : (9223372036854775807 < 1 + (bs (tellE a)).size + 2) = False := by rw [bs_size]; exact eq_false (by omega)
    have z3 : (9223372036854775807 < 1 + (bs (tellE a)).size + 2 + (bs (tellE b)).size) = False := by rw [bs_size, bs_size]; exact eq_false (by omega)
    have z4 : (9223372036854775807 < 1 + (bs (tellE a)).size + 2 + (bs (tellE b)).size + 1) = False := by rw [bs_size, bs_size]; exact eq_false (by omega)
    have et : bs (tellE (.two a b)) = ⟨#[40]⟩ ++ bs (tellE a) ++ ⟨#[59, 32]⟩ ++ bs (tellE b) ++ ⟨#[41]⟩ := by
      have h1 : tellE (.two a b) = [40] ++ tellE a ++ [59, 32] ++ tellE b ++ [41] := by simp only [tellE, List.append_assoc]
      rw [h1, ← bs_app, ← bs_app, ← bs_app, ← bs_app]
      rfl
    have HE := Aside0.mk et
    have HBX := Aside0.mk (below_drew1 ((Below.refl w.heap.size w).alloc (Nat.le_refl _) (.cells #[.int .i64 3, .int .i64 0, .string ⟨#[]⟩, .int .i64 0, .slice (some ⟨g, 0, none⟩) 2 c] 29)))
    have HX := Aside0.mk (blk_drew (blk_new w (.cells #[.int .i64 3, .int .i64 0, .string ⟨#[]⟩, .int .i64 0, .slice (some ⟨g, 0, none⟩) 2 c] 29)))
    have HG := Aside0.mk (blk_drew (blk_alloc hg (.cells #[.int .i64 3, .int .i64 0, .string ⟨#[]⟩, .int .i64 0, .slice (some ⟨g, 0, none⟩) 2 c] 29)))
    clear hf hl iha ihb et hg hr hr' hc
    go_enter Tryd.func20, Tryd.ntmps20
    go_wp2
    refine start_ (n := 15) (S := fun w' => w'.cell? ⟨w.heap.size, 4, none⟩ = some (.slice (some ⟨g, 0, none⟩) 2 c) ∧ w'.cell? ⟨g, 0, none⟩ = some (.int .i64 (refE a).f0) ∧ w'.cell? ⟨g, 1, none⟩ = some (.int .i64 (refE a).f1) ∧ w'.cell? ⟨g, 2, none⟩ = some (.string (refE a).f2) ∧ w'.cell? ⟨g, 3, none⟩ = some (.int .i64 (refE a).f3) ∧ w'.cell? ⟨g, 4, none⟩ = some (.slice A (refE a).f4.length c') ∧ w'.cell? ⟨g, 5, none⟩ = some (.int .i64 (refE b).f0) ∧ w'.cell? ⟨g, 6, none⟩ = some (.int .i64 (refE b).f1) ∧ w'.cell? ⟨g, 7, none⟩ = some (.string (refE b).f2) ∧ w'.cell? ⟨g, 8, none⟩ = some (.int .i64 (refE b).f3) ∧ w'.cell? ⟨g, 9, none⟩ = some (.slice A2 (refE b).f4.length c2)) (ds := []) #[false, false, false, false, false, false, false, false, false, false, false, false, false, false, false] (by kernel_rfl) rfl rfl ⟨(blk_cell HX.out 4).trans rfl, (blk_cell HG.out 0).trans rfl, (blk_cell HG.out 1).trans rfl, (blk_cell HG.out 2).trans rfl, (blk_cell HG.out 3).trans rfl, (blk_cell HG.out 4).trans rfl, (blk_cell HG.out 5).trans rfl, (blk_cell HG.out 6).trans rfl, (blk_cell HG.out 7).trans rfl, (blk_cell HG.out 8).trans rfl, (blk_cell HG.out 9).trans rfl⟩ (fun hHeld => ?_)
    generalize (w.alloc (.cells #[.int .i64 3, .int .i64 0, .string ⟨#[]⟩, .int .i64 0, .slice (some ⟨g, 0, none⟩) 2 c] 29)).drew = wA at HBX HX HG hHeld ⊢
    refine pure_ (i := 0) (N := some 29) (v := ?_) (a' := ?_) #[true, false, false, false, false, false, false, false, false, false, false, false, false, false, false] rfl rfl (by kernel_rfl) (fun _ _ _ h => h) (Or.inl ⟨by rfl, ?_⟩) ?_ ?_
    rotate_left
    · intro w'
      go_simp
      with_reducible rfl
    rotate_left
    · simp only [Act.put, List.setIfInBounds_toArray, List.set_cons_zero, List.set_cons_succ, i64_w, i32_w]
      rfl
    refine take_ (i := 1) (N := some 30) (v := ?_) (a' := ?_) #[true, true, false, false, false, false, false, false, false, false, false, false, false, false, false] rfl rfl (by kernel_rfl) (fun _ _ _ h => h) (Or.inl ⟨by rfl, ?_⟩) hHeld ?_ ?_
    rotate_left
    · rintro w' ⟨s0, s1, s2, s3, s4, s5, s6, s7, s8, s9, s10⟩
      go_simp
      with_reducible rfl
    rotate_left
    · simp only [Act.put, List.setIfInBounds_toArray, List.set_cons_zero, List.set_cons_succ, i64_w, i32_w]
      rfl
    refine pure_ (i := 2) (N := some 31) (v := ?_) (a' := ?_) #[true, true, true, false, false, false, false, false, false, false, false, false, false, false, false] rfl rfl (by kernel_rfl) (fun _ _ _ h => h) (Or.inl ⟨by rfl, ?_⟩) ?_ ?_
    rotate_left
    · intro w'
      go_simp
      with_reducible rfl
    rotate_left
    · simp only [Act.put, List.setIfInBounds_toArray, List.set_cons_zero, List.set_cons_succ, i64_w, i32_w]
      rfl
    refine take_ (i := 3) (N := some 32) (v := ?_) (a' := ?_) #[true, true, true, true, false, false, false, false, false, false, false, false, false, false, false] rfl rfl (by kernel_rfl) (fun _ _ _ h => h) (Or.inl ⟨by rfl, ?_⟩) hHeld ?_ ?_
    rotate_left
    · rintro w' ⟨s0, s1, s2, s3, s4, s5, s6, s7, s8, s9, s10⟩
      go_simp
      with_reducible rfl
    rotate_left
    · simp only [Act.put, List.setIfInBounds_toArray, List.set_cons_zero, List.set_cons_succ, i64_w, i32_w]
      rfl
    refine pure_ (i := 7) (N := some 36) (v := ?_) (a' := ?_) #[true, true, true, true, false, false, false, true, false, false, false, false, false, false, false] rfl rfl (by kernel_rfl) (fun _ _ _ h => h) (Or.inl ⟨by rfl, ?_⟩) ?_ ?_
    rotate_left
    · intro w'
      go_simp
      with_reducible rfl
    rotate_left
    · simp only [Act.put, List.setIfInBounds_toArray, List.set_cons_zero, List.set_cons_succ, i64_w, i32_w]
      rfl
    refine take_ (i := 8) (N := some 37) (v := ?_) (a' := ?_) #[true, true, true, true, false, false, false, true, true, false, false, false, false, false, false] rfl rfl (by kernel_rfl) (fun _ _ _ h => h) (Or.inl ⟨by rfl, ?_⟩) hHeld ?_ ?_
    rotate_left
    · rintro w' ⟨s0, s1, s2, s3, s4, s5, s6, s7, s8, s9, s10⟩
      go_simp
      with_reducible rfl
    rotate_left
    · simp only [Act.put, List.setIfInBounds_toArray, List.set_cons_zero, List.set_cons_succ, i64_w, i32_w]
      rfl
    refine pure_ (i := 9) (N := some 38) (v := ?_) (a' := ?_) #[true, true, true, true, false, false, false, true, true, true, false, false, false, false, false] rfl rfl (by kernel_rfl) (fun _ _ _ h => h) (Or.inl ⟨by rfl, ?_⟩) ?_ ?_
    rotate_left
    · intro w'
      go_simp
      with_reducible rfl
    rotate_left
    · simp only [Act.put, List.setIfInBounds_toArray, List.set_cons_zero, List.set_cons_succ, i64_w, i32_w]
      rfl
    refine take_ (i := 10) (N := some 39) (v := ?_) (a' := ?_) #[true, true, true, true, false, false, false, true, true, true, true, false, false, false, false] rfl rfl (by kernel_rfl) (fun _ _ _ h => h) (Or.inl ⟨by rfl, ?_⟩) hHeld ?_ ?_
    rotate_left
    · rintro w' ⟨s0, s1, s2, s3, s4, s5, s6, s7, s8, s9, s10⟩
      go_simp
      with_reducible rfl
    rotate_left
    · simp only [Act.put, List.setIfInBounds_toArray, List.set_cons_zero, List.set_cons_succ, i64_w, i32_w]
      rfl
    refine one_ (i := 4) (N := some 33) #[true, true, true, true, true, false, false, true, true, true, true, false, false, false, false] rfl rfl (by kernel_rfl) (by decide) (fun K hK => ?_)
    refine goes_ Tryd.func20 (by kernel_rfl) rfl #[rAgg a (.slice A (refE a).f4.length c')] (by rfl) rfl rfl (by (try simp only [List.map_toArray, List.map_cons, List.map_nil]); first | done | rfl | (simp only [List.length_drop, List.length_take]; rfl)) ?_
    refine (HXA.out _ HBX.out).mono ?_
    rintro ev w1 ⟨rfl, hb⟩
    have n0_ := Aside0.mk (HBX.out.trans (hb.mono HBX.out.size))
    have n1_ := Aside0.mk (blk_below HX.out hb)
    have n2_ := Aside0.mk (blk_below HG.out hb)
    clear HBX HX HG hb
    have HBX := n0_
    have HX := n1_
    have HG := n2_
    clear n0_ n1_ n2_
    refine ⟨_, rfl, ?_⟩
    refine hK.out _ _ ⟨(blk_cell HX.out 4).trans rfl, (blk_cell HG.out 0).trans rfl, (blk_cell HG.out 1).trans rfl, (blk_cell HG.out 2).trans rfl, (blk_cell HG.out 3).trans rfl, (blk_cell HG.out 4).trans rfl, (blk_cell HG.out 5).trans rfl, (blk_cell HG.out 6).trans rfl, (blk_cell HG.out 7).trans rfl, (blk_cell HG.out 8).trans rfl, (blk_cell HG.out 9).trans rfl⟩ (fun hHeld => ?_)
    clear hK K
    refine norm_ (a' := ?_) ?_ ?_
    rotate_left
    · show Act.put _ (some 33) _ = _
      simp only [Act.put, List.setIfInBounds_toArray, List.set_cons_zero, List.set_cons_succ, i64_w, i32_w]
      rfl
    refine pure_ (i := 5) (N := some 34) (v := ?_) (a' := ?_) #[true, true, true, true, true, true, false, true, true, true, true, false, false, false, false] rfl rfl (by kernel_rfl) (fun _ _ _ h => h) (Or.inl ⟨by rfl, ?_⟩) ?_ ?_
    rotate_left
    · intro w'
      go_simp
      with_reducible rfl
    rotate_left
    · simp only [Act.put, List.setIfInBounds_toArray, List.set_cons_zero, List.set_cons_succ, i64_w, i32_w]
      rfl
    refine pure_ (i := 6) (N := some 35) (v := ?_) (a' := ?_) #[true, true, true, true, true, true, true, true, true, true, true, false, false, false, false] rfl rfl (by kernel_rfl) (fun _ _ _ h => h) (Or.inl ⟨by rfl, ?_⟩) ?_ ?_
    rotate_left
    · intro w'
      go_simp
      with_reducible rfl
    rotate_left
    · simp only [Act.put, List.setIfInBounds_toArray, List.set_cons_zero, List.set_cons_succ, i64_w, i32_w]
      rfl
    refine one_ (i := 11) (N := some 40) #[true, true, true, true, true, true, true, true, true, true, true, true, false, false, false] rfl rfl (by kernel_rfl) (by decide) (fun K hK => ?_)
    refine goes_ Tryd.func20 (by kernel_rfl) rfl #[rAgg b (.slice A2 (refE b).f4.length c2)] (by rfl) rfl rfl (by (try simp only [List.map_toArray, List.map_cons, List.map_nil]); first | done | rfl | (simp only [List.length_drop, List.length_take]; rfl)) ?_
    refine (HXB.out _ HBX.out).mono ?_
    rintro ev w2 ⟨rfl, hb⟩
    have n0_ := Aside0.mk (HBX.out.trans (hb.mono HBX.out.size))
    have n1_ := Aside0.mk (blk_below HX.out hb)
    have n2_ := Aside0.mk (blk_below HG.out hb)
    clear HBX HX HG hb
    have HBX := n0_
    have HX := n1_
    have HG := n2_
    clear n0_ n1_ n2_
    refine ⟨_, rfl, ?_⟩
    refine hK.out _ _ ⟨(blk_cell HX.out 4).trans rfl, (blk_cell HG.out 0).trans rfl, (blk_cell HG.out 1).trans rfl, (blk_cell HG.out 2).trans rfl, (blk_cell HG.out 3).trans rfl, (blk_cell HG.out 4).trans rfl, (blk_cell HG.out 5).trans rfl, (blk_cell HG.out 6).trans rfl, (blk_cell HG.out 7).trans rfl, (blk_cell HG.out 8).trans rfl, (blk_cell HG.out 9).trans rfl⟩ (fun hHeld => ?_)
    clear hK K
    refine norm_ (a' := ?_) ?_ ?_
    rotate_left
    · show Act.put _ (some 40) _ = _
      simp only [Act.put, List.setIfInBounds_toArray, List.set_cons_zero, List.set_cons_succ, i64_w, i32_w]
      rfl
    refine pure_ (i := 12) (N := some 41) (v := ?_) (a' := ?_) #[true, true, true, true, true, true, true, true, true, true, true, true, true, false, false] rfl rfl (by kernel_rfl) (fun _ _ _ h => h) (Or.inl ⟨by rfl, ?_⟩) ?_ ?_
    rotate_left
    · intro w'
      go_simp
      with_reducible rfl
    rotate_left
    · simp only [Act.put, List.setIfInBounds_toArray, List.set_cons_zero, List.set_cons_succ, i64_w, i32_w]
      rfl
    refine pure_ (i := 13) (N := some 42) (v := ?_) (a' := ?_) #[true, true, true, true, true, true, true, true, true, true, true, true, true, true, false] rfl rfl (by kernel_rfl) (fun _ _ _ h => h) (Or.inl ⟨by rfl, ?_⟩) ?_ ?_
    rotate_left
    · intro w'
      go_simp
      with_reducible rfl
    rotate_left
    · simp only [Act.put, List.setIfInBounds_toArray, List.set_cons_zero, List.set_cons_succ, i64_w, i32_w]
      rfl
    refine pure_ (i := 14) (N := some 2) (v := ?_) (a' := ?_) #[true, true, true, true, true, true, true, true, true, true, true, true, true, true, true] rfl rfl (by kernel_rfl) (fun _ _ _ h => h) (Or.inl ⟨by rfl, ?_⟩) ?_ ?_
    rotate_left
    · intro w'
      go_simp
      with_reducible rfl
    rotate_left
    · simp only [Act.put, List.setIfInBounds_toArray, List.set_cons_zero, List.set_cons_succ, i64_w, i32_w]
      rfl
    refine done_ (by kernel_rfl) ?_
    go_wp2
    go_ret
    refine ⟨?_, HBX.out⟩
    rw [HE.out]
    rfl
end Go.Proofs.YtcklemjmenifpaaDoor.Fn
