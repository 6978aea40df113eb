/- The document's Do, by its walk. -/
import Derived.Test.YtcklemjmenifpaaDoorFnDo
set_option linter.unusedVariables false
set_option linter.unusedSimpArgs false
namespace Go.Proofs.YtcklemjmenifpaaDoor.Fn
open Go.RowKit Go.Shelf Go.Extern.Stop Go.Stop Go.Extern Go.Proofs.YtcklemjmenifpaaDoorW.PrintWords Go.Proofs.YtcklemjmenifpaaDoorW.PrintLast Go.Proofs.YtcklemjmenifpaaDoorW.PrintMore Go.Proofs.YtcklemjmenifpaaDoor.Fs

def set5 (W : World) (g : Nat) (x0 x1 x2 x3 x4 : Value) : World := ((((W.setCell ⟨g, 0, none⟩ x0).setCell ⟨g, 1, none⟩ x1).setCell ⟨g, 2, none⟩ x2).setCell ⟨g, 3, none⟩ x3).setCell ⟨g, 4, none⟩ x4
theorem put5 {W : World} {g : Nat} {o0 o1 o2 o3 o4 : Value} (h : W.heap[g]? = some (.cells #[o0, o1, o2, o3, o4] 29 (0, 0))) (x0 x1 x2 x3 x4 : Value) : (set5 W g x0 x1 x2 x3 x4).heap[g]? = some (.cells #[x0, x1, x2, x3, x4] 29 (0, 0)) :=
  blk_put (cs' := #[x0, x1, x2, x3, x4]) (blk_put (cs' := #[x0, x1, x2, x3, o4]) (blk_put (cs' := #[x0, x1, x2, o3, o4]) (blk_put (cs' := #[x0, x1, o2, o3, o4]) (blk_put (cs' := #[x0, o1, o2, o3, o4]) h 0 x0 rfl) 1 x1 rfl) 2 x2 rfl) 3 x3 rfl) 4 x4 rfl
theorem set5_below {w W : World} {g : Nat} (h : Below w.heap.size w W) (hg : w.heap.size ≤ g) (x0 x1 x2 x3 x4 : Value) : Below w.heap.size w (set5 W g x0 x1 x2 x3 x4) := below_set (below_set (below_set (below_set (below_set h hg) hg) hg) hg) hg
theorem set5_other {W : World} {g k : Nat} (h : k ≠ g) (x0 x1 x2 x3 x4 : Value) : (set5 W g x0 x1 x2 x3 x4).heap[k]? = W.heap[k]? := by
  unfold set5
  rw [Below.heap_setCell _ _ _ _ h, Below.heap_setCell _ _ _ _ h, Below.heap_setCell _ _ _ _ h, Below.heap_setCell _ _ _ _ h, Below.heap_setCell _ _ _ _ h]
theorem set5_size (W : World) (g : Nat) (x0 x1 x2 x3 x4 : Value) : (set5 W g x0 x1 x2 x3 x4).heap.size = W.heap.size := by
  simp [set5]
theorem fresh_rv {W W' : World} {n : Int} {v : Value} (h : RV W (freshE n) v) : RV W' (freshE n) v := by
  unfold freshE at h ⊢
  split
  · rename_i h0
    rw [if_pos h0] at h
    exact h
  · rename_i h0
    rw [if_neg h0] at h
    exact h
set_option maxRecDepth 100000 in
set_option maxHeartbeats 4000000 in
theorem do_rcalls (P : World → Prop) (e : Er) (a : S56) (v : Value) (w : World) (hv : RV w e v) (hpv : ∀ W, P W → RV W e v) : Calls Tryd.prog 22 #[rAgg e v, .agg #[.int .i64 a.f0, .string a.f1, .int .i64 a.f2, .int .i64 a.f3]] w (RPost2 P w (stepE e a)) := by
  have HV := Aside0.mk hv
  have HP := Aside0.mk hpv
  obtain ⟨A, c, rfl⟩ := hv.slice
  clear hv hpv
  have HB := Aside0.mk ((((Below.refl w.heap.size w).alloc (Nat.le_refl _) (.cells #[.int .i64 (refE e).f0, .int .i64 (refE e).f1, .string (refE e).f2, .int .i64 (refE e).f3, .slice A (refE e).f4.length c] 29)).alloc (by rw [World.size_alloc]; omega) (.cells #[.int .i64 a.f0, .string a.f1, .int .i64 a.f2, .int .i64 a.f3] 56)).alloc (by simp only [World.size_alloc]; omega) (.cells #[.int .i64 0, .int .i64 0, .string ⟨#[]⟩, .int .i64 0, .slice none 0 0] 29))
  have HR := Aside0.mk (by have := blk_new ((w.alloc (.cells #[.int .i64 (refE e).f0, .int .i64 (refE e).f1, .string (refE e).f2, .int .i64 (refE e).f3, .slice A (refE e).f4.length c] 29)).alloc (.cells #[.int .i64 a.f0, .string a.f1, .int .i64 a.f2, .int .i64 a.f3] 56)) (.cells #[.int .i64 0, .int .i64 0, .string ⟨#[]⟩, .int .i64 0, .slice none 0 0] 29); simp only [World.size_alloc] at this; exact this : (((w.alloc (.cells #[.int .i64 (refE e).f0, .int .i64 (refE e).f1, .string (refE e).f2, .int .i64 (refE e).f3, .slice A (refE e).f4.length c] 29)).alloc (.cells #[.int .i64 a.f0, .string a.f1, .int .i64 a.f2, .int .i64 a.f3] 56)).alloc (.cells #[.int .i64 0, .int .i64 0, .string ⟨#[]⟩, .int .i64 0, .slice none 0 0] 29)).heap[w.heap.size + 1 + 1]? = some (.cells #[.int .i64 0, .int .i64 0, .string ⟨#[]⟩, .int .i64 0, .slice none 0 0] 29 (0, 0)))
  by_cases h0 : a.f0 = 0
  · have e0 : (a.f0 == 0) = true := beq_iff_eq.2 h0
    have HE := Aside0.mk (show stepE e a = freshE a.f3 from if_pos h0)
    clear h0
    go_enter Tryd.func22, Tryd.ntmps22
    go_wp2_with (first | (go_at_call 34; refine (fresh_rcalls _ _).mono ?_; rintro ev w1 ⟨⟨v1, rfl, hv1⟩, hb⟩; obtain ⟨A1, c1, rfl⟩ := hv1.slice; (have HV1 := Aside0.mk hv1); (have HB1 := Aside0.mk (HB.out.trans (hb.mono HB.out.size))); (have HR1 := Aside0.mk (blk_below HR.out hb)); (have r0 := (blk_cell HR1.out 0).trans (by rfl : _ = some (.int .i64 0))); (have q0 := blk_frozen HR1.out 0); (have r1 := (blk_cell HR1.out 1).trans (by rfl : _ = some (.int .i64 0))); (have q1 := blk_frozen HR1.out 1); (have r2 := (blk_cell HR1.out 2).trans (by rfl : _ = some (.string ⟨#[]⟩))); (have q2 := blk_frozen HR1.out 2); (have r3 := (blk_cell HR1.out 3).trans (by rfl : _ = some (.int .i64 0))); (have q3 := blk_frozen HR1.out 3); (have r4 := (blk_cell HR1.out 4).trans (by rfl : _ = some (.slice none 0 0))); (have q4 := blk_frozen HR1.out 4); clear hb hv1))
    refine bodyPost_ret (results_cell_row rfl _ _ (w.heap.size + 1 + 1) 29 #[.int .i64 (refE (freshE a.f3)).f0, .int .i64 (refE (freshE a.f3)).f1, .string (refE (freshE a.f3)).f2, .int .i64 (refE (freshE a.f3)).f3, .slice A1 (refE (freshE a.f3)).f4.length c1] (0, 0) _ rfl (put5 HR1.out _ _ _ _ _) Tryd.underlying29 rfl (by kernel_rfl)) rfl ?_
    rw [HE.out]
    exact ⟨⟨_, rfl, ⟨_, _, rfl⟩, fun W _ _ => fresh_rv HV1.out⟩, set5_below HB1.out (by omega) _ _ _ _ _⟩
  have e0 : (a.f0 == 0) = false := beq_eq_false_iff_ne.2 h0
  by_cases h1 : a.f0 = 1
  · have e1 : (a.f0 == 1) = true := beq_iff_eq.2 h1
    have HE := Aside0.mk (show stepE e a = inE a.f1 a.f2 e from by unfold stepE; rw [if_neg h0, if_pos h1])
    clear h0 h1
    by_cases he : e = .nil
    · subst he
      have k0 : ((refE .nil).f0 != 0) = false := rfl
      go_enter Tryd.func22, Tryd.ntmps22
      go_wp2
      have HRES := (by have := blk_new ((w.alloc (.cells #[.int .i64 (refE Er.nil).f0, .int .i64 (refE Er.nil).f1, .string (refE Er.nil).f2, .int .i64 (refE Er.nil).f3, .slice A (refE Er.nil).f4.length c] 29)).alloc (.cells #[.int .i64 a.f0, .string a.f1, .int .i64 a.f2, .int .i64 a.f3] 56)) (.cells #[.int .i64 (refE Er.nil).f0, .int .i64 (refE Er.nil).f1, .string (refE Er.nil).f2, .int .i64 (refE Er.nil).f3, .slice A (refE Er.nil).f4.length c] 29); simp only [World.size_alloc] at this; exact this : (((w.alloc (.cells #[.int .i64 (refE Er.nil).f0, .int .i64 (refE Er.nil).f1, .string (refE Er.nil).f2, .int .i64 (refE Er.nil).f3, .slice A (refE Er.nil).f4.length c] 29)).alloc (.cells #[.int .i64 a.f0, .string a.f1, .int .i64 a.f2, .int .i64 a.f3] 56)).alloc (.cells #[.int .i64 (refE Er.nil).f0, .int .i64 (refE Er.nil).f1, .string (refE Er.nil).f2, .int .i64 (refE Er.nil).f3, .slice A (refE Er.nil).f4.length c] 29)).heap[w.heap.size + 1 + 1]? = some (.cells #[.int .i64 (refE Er.nil).f0, .int .i64 (refE Er.nil).f1, .string (refE Er.nil).f2, .int .i64 (refE Er.nil).f3, .slice A (refE Er.nil).f4.length c] 29 (0, 0)))
      have HBX := ((((Below.refl w.heap.size w).alloc (Nat.le_refl _) (.cells #[.int .i64 (refE Er.nil).f0, .int .i64 (refE Er.nil).f1, .string (refE Er.nil).f2, .int .i64 (refE Er.nil).f3, .slice A (refE Er.nil).f4.length c] 29)).alloc (by rw [World.size_alloc]; omega) (.cells #[.int .i64 a.f0, .string a.f1, .int .i64 a.f2, .int .i64 a.f3] 56)).alloc (by simp only [World.size_alloc]; omega) (.cells #[.int .i64 (refE Er.nil).f0, .int .i64 (refE Er.nil).f1, .string (refE Er.nil).f2, .int .i64 (refE Er.nil).f3, .slice A (refE Er.nil).f4.length c] 29))
      refine bodyPost_ret (results_cell_row rfl _ _ (w.heap.size + 1 + 1) 29 #[.int .i64 (refE Er.nil).f0, .int .i64 (refE Er.nil).f1, .string (refE Er.nil).f2, .int .i64 (refE Er.nil).f3, .slice A (refE Er.nil).f4.length c] (0, 0) _ rfl HRES Tryd.underlying29 rfl (by kernel_rfl)) rfl ?_
      rw [HE.out]
      exact ⟨⟨_, rfl, ⟨_, _, rfl⟩, fun W hP _ => HP.out W hP⟩, HBX⟩
    · have k0 : ((refE e).f0 != 0) = true := bne_iff_ne.2 (ref_kind he)
      have HEE := Aside0.mk (HE.out.trans (inE_some he))
      clear he HE
      go_enter Tryd.func22, Tryd.ntmps22
      go_wp2
      have HRES := (by have := blk_new ((w.alloc (.cells #[.int .i64 (refE e).f0, .int .i64 (refE e).f1, .string (refE e).f2, .int .i64 (refE e).f3, .slice A (refE e).f4.length c] 29)).alloc (.cells #[.int .i64 a.f0, .string a.f1, .int .i64 a.f2, .int .i64 a.f3] 56)) (.cells #[.int .i64 2, .int .i64 0, .string a.f1, .int .i64 a.f2, .slice (some ⟨w.heap.size + 1 + 1 + 1, 0, none⟩) 1 1] 29); simp only [World.size_alloc] at this; exact this : (((w.alloc (.cells #[.int .i64 (refE e).f0, .int .i64 (refE e).f1, .string (refE e).f2, .int .i64 (refE e).f3, .slice A (refE e).f4.length c] 29)).alloc (.cells #[.int .i64 a.f0, .string a.f1, .int .i64 a.f2, .int .i64 a.f3] 56)).alloc (.cells #[.int .i64 2, .int .i64 0, .string a.f1, .int .i64 a.f2, .slice (some ⟨w.heap.size + 1 + 1 + 1, 0, none⟩) 1 1] 29)).heap[w.heap.size + 1 + 1]? = some (.cells #[.int .i64 2, .int .i64 0, .string a.f1, .int .i64 a.f2, .slice (some ⟨w.heap.size + 1 + 1 + 1, 0, none⟩) 1 1] 29 (0, 0)))
      have HROW := (by have := blk_new (((w.alloc (.cells #[.int .i64 (refE e).f0, .int .i64 (refE e).f1, .string (refE e).f2, .int .i64 (refE e).f3, .slice A (refE e).f4.length c] 29)).alloc (.cells #[.int .i64 a.f0, .string a.f1, .int .i64 a.f2, .int .i64 a.f3] 56)).alloc (.cells #[.int .i64 2, .int .i64 0, .string a.f1, .int .i64 a.f2, .slice (some ⟨w.heap.size + 1 + 1 + 1, 0, none⟩) 1 1] 29)) (.cells #[.int .i64 (refE e).f0, .int .i64 (refE e).f1, .string (refE e).f2, .int .i64 (refE e).f3, .slice A (refE e).f4.length c] 29); simp only [World.size_alloc] at this; exact this : ((((w.alloc (.cells #[.int .i64 (refE e).f0, .int .i64 (refE e).f1, .string (refE e).f2, .int .i64 (refE e).f3, .slice A (refE e).f4.length c] 29)).alloc (.cells #[.int .i64 a.f0, .string a.f1, .int .i64 a.f2, .int .i64 a.f3] 56)).alloc (.cells #[.int .i64 2, .int .i64 0, .string a.f1, .int .i64 a.f2, .slice (some ⟨w.heap.size + 1 + 1 + 1, 0, none⟩) 1 1] 29)).alloc (.cells #[.int .i64 (refE e).f0, .int .i64 (refE e).f1, .string (refE e).f2, .int .i64 (refE e).f3, .slice A (refE e).f4.length c] 29)).heap[w.heap.size + 1 + 1 + 1]? = some (.cells #[.int .i64 (refE e).f0, .int .i64 (refE e).f1, .string (refE e).f2, .int .i64 (refE e).f3, .slice A (refE e).f4.length c] 29 (0, 0)))
      have HBX := (((((Below.refl w.heap.size w).alloc (Nat.le_refl _) (.cells #[.int .i64 (refE e).f0, .int .i64 (refE e).f1, .string (refE e).f2, .int .i64 (refE e).f3, .slice A (refE e).f4.length c] 29)).alloc (by rw [World.size_alloc]; omega) (.cells #[.int .i64 a.f0, .string a.f1, .int .i64 a.f2, .int .i64 a.f3] 56)).alloc (by simp only [World.size_alloc]; omega) (.cells #[.int .i64 2, .int .i64 0, .string a.f1, .int .i64 a.f2, .slice (some ⟨w.heap.size + 1 + 1 + 1, 0, none⟩) 1 1] 29)).alloc (by simp only [World.size_alloc]; omega) (.cells #[.int .i64 (refE e).f0, .int .i64 (refE e).f1, .string (refE e).f2, .int .i64 (refE e).f3, .slice A (refE e).f4.length c] 29))
      refine bodyPost_ret (results_cell_row rfl _ _ (w.heap.size + 1 + 1) 29 #[.int .i64 2, .int .i64 0, .string a.f1, .int .i64 a.f2, .slice (some ⟨w.heap.size + 1 + 1 + 1, 0, none⟩) 1 1] (0, 0) _ rfl (blk_alloc HRES _) Tryd.underlying29 rfl (by kernel_rfl)) rfl ?_
      rw [HEE.out]
      exact ⟨⟨_, rfl, ⟨_, _, rfl⟩, fun W hP hK => ⟨w.heap.size + 1 + 1 + 1, 1, _, rfl, Nat.le_refl _, (hK _ (by omega) (by simp only [World.size_alloc]; omega)).trans HROW, HP.out W hP⟩⟩, HBX⟩
  have e1 : (a.f0 == 1) = false := beq_eq_false_iff_ne.2 h1
  by_cases h2 : a.f0 = 2
  · have e2 : (a.f0 == 2) = true := beq_iff_eq.2 h2
    have HE := Aside0.mk (show stepE e a = bothE e (freshE a.f3) from by unfold stepE; rw [if_neg h0, if_neg h1, if_pos h2])
    clear h0 h1 h2
    have HBX := Aside0.mk (below_drew1 HB.out)
    have HXR := Aside0.mk (blk_drew HR.out)
    have HX0 := Aside0.mk (blk_drew (blk_alloc (blk_alloc (blk_new w (.cells #[.int .i64 (refE e).f0, .int .i64 (refE e).f1, .string (refE e).f2, .int .i64 (refE e).f3, .slice A (refE e).f4.length c] 29)) (.cells #[.int .i64 a.f0, .string a.f1, .int .i64 a.f2, .int .i64 a.f3] 56)) (.cells #[.int .i64 0, .int .i64 0, .string ⟨#[]⟩, .int .i64 0, .slice none 0 0] 29)))
    have HX1 := Aside0.mk (blk_drew (blk_alloc (by have := blk_new (w.alloc (.cells #[.int .i64 (refE e).f0, .int .i64 (refE e).f1, .string (refE e).f2, .int .i64 (refE e).f3, .slice A (refE e).f4.length c] 29)) (.cells #[.int .i64 a.f0, .string a.f1, .int .i64 a.f2, .int .i64 a.f3] 56); rw [World.size_alloc] at this; exact this : ((w.alloc (.cells #[.int .i64 (refE e).f0, .int .i64 (refE e).f1, .string (refE e).f2, .int .i64 (refE e).f3, .slice A (refE e).f4.length c] 29)).alloc (.cells #[.int .i64 a.f0, .string a.f1, .int .i64 a.f2, .int .i64 a.f3] 56)).heap[w.heap.size + 1]? = some (.cells #[.int .i64 a.f0, .string a.f1, .int .i64 a.f2, .int .i64 a.f3] 56 (0, 0))) (.cells #[.int .i64 0, .int .i64 0, .string ⟨#[]⟩, .int .i64 0, .slice none 0 0] 29)))
    go_enter Tryd.func22, Tryd.ntmps22
    go_wp2
    refine start_ (n := 6) (S := fun w' => w'.cell? ⟨w.heap.size, 0, none⟩ = some (.int .i64 (refE e).f0) ∧ w'.cell? ⟨w.heap.size, 1, none⟩ = some (.int .i64 (refE e).f1) ∧ w'.cell? ⟨w.heap.size, 2, none⟩ = some (.string (refE e).f2) ∧ w'.cell? ⟨w.heap.size, 3, none⟩ = some (.int .i64 (refE e).f3) ∧ w'.cell? ⟨w.heap.size, 4, none⟩ = some (.slice A (refE e).f4.length c) ∧ w'.cell? ⟨w.heap.size + 1, 3, none⟩ = some (.int .i64 a.f3)) (ds := [5]) #[false, false, false, false, false, false] (by kernel_rfl) rfl rfl ⟨(blk_cell HX0.out 0).trans rfl, (blk_cell HX0.out 1).trans rfl, (blk_cell HX0.out 2).trans rfl, (blk_cell HX0.out 3).trans rfl, (blk_cell HX0.out 4).trans rfl, (blk_cell HX1.out 3).trans rfl⟩ (fun hHeld => ?_)
    generalize (((w.alloc (.cells #[.int .i64 (refE e).f0, .int .i64 (refE e).f1, .string (refE e).f2, .int .i64 (refE e).f3, .slice A (refE e).f4.length c] 29)).alloc (.cells #[.int .i64 a.f0, .string a.f1, .int .i64 a.f2, .int .i64 a.f3] 56)).alloc (.cells #[.int .i64 0, .int .i64 0, .string ⟨#[]⟩, .int .i64 0, .slice none 0 0] 29)).drew = wA at HBX HXR HX0 HX1 hHeld ⊢
    refine take_ (i := 0) (N := some 26) (v := ?_) (a' := ?_) #[true, false, false, false, false, false] rfl rfl (by kernel_rfl) (fun _ _ _ h => h) (Or.inl ⟨by rfl, ?_⟩) hHeld ?_ ?_
    rotate_left
    · rintro w' ⟨s0, s1, s2, s3, s4, s5⟩
      go_simp
      with_reducible rfl
    rotate_left
    · simp only [Act.put, List.setIfInBounds_toArray, List.set_cons_zero, List.set_cons_succ, i64_w, i32_w]
      rfl
    refine pure_ (i := 1) (N := some 27) (v := ?_) (a' := ?_) #[true, true, false, false, false, false] rfl rfl (by kernel_rfl) (fun _ _ _ h => h) (Or.inl ⟨by rfl, ?_⟩) ?_ ?_
    rotate_left
    · intro w'
      go_simp
      with_reducible rfl
    rotate_left
    · simp only [Act.put, List.setIfInBounds_toArray, List.set_cons_zero, List.set_cons_succ, i64_w, i32_w]
      rfl
    refine take_ (i := 2) (N := some 28) (v := ?_) (a' := ?_) #[true, true, true, false, false, false] rfl rfl (by kernel_rfl) (fun _ _ _ h => h) (Or.inl ⟨by rfl, ?_⟩) hHeld ?_ ?_
    rotate_left
    · rintro w' ⟨s0, s1, s2, s3, s4, s5⟩
      go_simp
      with_reducible rfl
    rotate_left
    · simp only [Act.put, List.setIfInBounds_toArray, List.set_cons_zero, List.set_cons_succ, i64_w, i32_w]
      rfl
    refine one_ (i := 3) (N := some 29) #[true, true, true, true, false, false] rfl rfl (by kernel_rfl) (by decide) (fun K hK => ?_)
    refine goes_ Tryd.func34 (by kernel_rfl) rfl #[.int .i64 a.f3] (by rfl) rfl rfl (by (try simp only [List.map_toArray, List.map_cons, List.map_nil]); first | done | rfl | (simp only [List.length_drop, List.length_take]; rfl)) ?_
    refine (fresh_rcalls _ _).mono ?_
    rintro ev w1 ⟨⟨v1, rfl, hv1⟩, hb⟩
    obtain ⟨A1, c1, rfl⟩ := hv1.slice
    have HV1 := Aside0.mk hv1
    clear hv1
    have n0_ := Aside0.mk (blk_below HX0.out hb)
    have n1_ := Aside0.mk (blk_below HX1.out hb)
    have n2_ := Aside0.mk (blk_below HXR.out hb)
    have n3_ := Aside0.mk (HBX.out.trans (hb.mono HBX.out.size))
    clear HX0 HX1 HXR HBX hb
    have HX0 := n0_
    have HX1 := n1_
    have HXR := n2_
    have HBX := n3_
    clear n0_ n1_ n2_ n3_
    refine ⟨_, rfl, ?_⟩
    refine hK.out _ _ ⟨(blk_cell HX0.out 0).trans rfl, (blk_cell HX0.out 1).trans rfl, (blk_cell HX0.out 2).trans rfl, (blk_cell HX0.out 3).trans rfl, (blk_cell HX0.out 4).trans rfl, (blk_cell HX1.out 3).trans rfl⟩ (fun hHeld => ?_)
    clear hK K
    refine norm_ (a' := ?_) ?_ ?_
    rotate_left
    · show Act.put _ (some 29) _ = _
      simp only [Act.put, List.setIfInBounds_toArray, List.set_cons_zero, List.set_cons_succ, i64_w, i32_w]
      rfl
    refine one_ (i := 4) (N := some 30) #[true, true, true, true, true, false] rfl rfl (by kernel_rfl) (by decide) (fun K hK => ?_)
    refine goes_ Tryd.func35 (by kernel_rfl) rfl #[rAgg e (.slice A (refE e).f4.length c), rAgg (freshE a.f3) (.slice A1 (refE (freshE a.f3)).f4.length c1)] (by rfl) rfl rfl (by (try simp only [List.map_toArray, List.map_cons, List.map_nil]); first | done | rfl | (simp only [List.length_drop, List.length_take]; rfl)) ?_
    refine (both_rcalls P e (freshE a.f3) (.slice A (refE e).f4.length c) (.slice A1 (refE (freshE a.f3)).f4.length c1) _ (HV.out.on HBX.out) HV1.out (fun W hW => HP.out W hW) (fun W hW => fresh_rv HV1.out)).mono ?_
    rintro ev w2 ⟨⟨v2, rfl, ⟨A2, c2, rfl⟩, hv2⟩, hb⟩
    have HV2 := Aside0.mk hv2
    have HZ1 := Aside0.mk HBX.out.size
    have HLR := Aside0.mk (blk_lt HXR.out)
    clear hv2
    have n0_ := Aside0.mk (blk_below HX0.out hb)
    have n1_ := Aside0.mk (blk_below HX1.out hb)
    have n2_ := Aside0.mk (blk_below HXR.out hb)
    have n3_ := Aside0.mk (HBX.out.trans (hb.mono HBX.out.size))
    clear HX0 HX1 HXR HBX hb
    have HX0 := n0_
    have HX1 := n1_
    have HXR := n2_
    have HBX := n3_
    clear n0_ n1_ n2_ n3_
    refine ⟨_, rfl, ?_⟩
    refine hK.out _ _ ⟨(blk_cell HX0.out 0).trans rfl, (blk_cell HX0.out 1).trans rfl, (blk_cell HX0.out 2).trans rfl, (blk_cell HX0.out 3).trans rfl, (blk_cell HX0.out 4).trans rfl, (blk_cell HX1.out 3).trans rfl⟩ (fun hHeld => ?_)
    clear hK K
    refine norm_ (a' := ?_) ?_ ?_
    rotate_left
    · show Act.put _ (some 30) _ = _
      simp only [Act.put, List.setIfInBounds_toArray, List.set_cons_zero, List.set_cons_succ, i64_w, i32_w]
      rfl
    have r0 := (blk_cell HXR.out 0).trans (by rfl : _ = some (.int .i64 0))
    have q0 := blk_frozen HXR.out 0
    have r1 := (blk_cell HXR.out 1).trans (by rfl : _ = some (.int .i64 0))
    have q1 := blk_frozen HXR.out 1
    have r2 := (blk_cell HXR.out 2).trans (by rfl : _ = some (.string ⟨#[]⟩))
    have q2 := blk_frozen HXR.out 2
    have r3 := (blk_cell HXR.out 3).trans (by rfl : _ = some (.int .i64 0))
    have q3 := blk_frozen HXR.out 3
    have r4 := (blk_cell HXR.out 4).trans (by rfl : _ = some (.slice none 0 0))
    have q4 := blk_frozen HXR.out 4
    refine last_ (i := 5) (N := none) #[true, true, true, true, true, true] rfl rfl (by kernel_rfl) (by decide) (fun K hK => ?_)
    refine skip_ (w1 := set5 w2 (w.heap.size + 1 + 1) (.int .i64 (refE (bothE e (freshE a.f3))).f0) (.int .i64 (refE (bothE e (freshE a.f3))).f1) (.string (refE (bothE e (freshE a.f3))).f2) (.int .i64 (refE (bothE e (freshE a.f3))).f3) (.slice A2 (refE (bothE e (freshE a.f3))).f4.length c2)) (by rfl) rfl ?_ ?_
    · go_simp
      rfl
    refine hK.out _ _ ?_
    refine done_ (by kernel_rfl) ?_
    go_wp2
    refine bodyPost_ret (results_cell_row rfl _ _ (w.heap.size + 1 + 1) 29 #[.int .i64 (refE (bothE e (freshE a.f3))).f0, .int .i64 (refE (bothE e (freshE a.f3))).f1, .string (refE (bothE e (freshE a.f3))).f2, .int .i64 (refE (bothE e (freshE a.f3))).f3, .slice A2 (refE (bothE e (freshE a.f3))).f4.length c2] (0, 0) _ rfl (put5 HXR.out _ _ _ _ _) Tryd.underlying29 rfl (by kernel_rfl)) rfl ?_
    rw [HE.out]
    have HF := set5_below HBX.out (show w.heap.size ≤ w.heap.size + 1 + 1 by omega) (.int .i64 (refE (bothE e (freshE a.f3))).f0) (.int .i64 (refE (bothE e (freshE a.f3))).f1) (.string (refE (bothE e (freshE a.f3))).f2) (.int .i64 (refE (bothE e (freshE a.f3))).f3) (.slice A2 (refE (bothE e (freshE a.f3))).f4.length c2)
    exact ⟨⟨_, rfl, ⟨_, _, rfl⟩, fun W hP hK => HV2.out W hP (fun k hk hk2 => (hK k (by have := HZ1.out; omega) (by rw [set5_size]; exact hk2)).trans (set5_other (by have := HLR.out; omega) _ _ _ _ _))⟩, HF⟩
  have e2 : (a.f0 == 2) = false := beq_eq_false_iff_ne.2 h2
  by_cases h3 : a.f0 = 3
  · have e3 : (a.f0 == 3) = true := beq_iff_eq.2 h3
    have HE := Aside0.mk (show stepE e a = bothE (freshE a.f3) e from by unfold stepE; rw [if_neg h0, if_neg h1, if_neg h2, if_pos h3])
    clear h0 h1 h2 h3
    have HBX := Aside0.mk (below_drew1 HB.out)
    have HXR := Aside0.mk (blk_drew HR.out)
    have HX0 := Aside0.mk (blk_drew (blk_alloc (blk_alloc (blk_new w (.cells #[.int .i64 (refE e).f0, .int .i64 (refE e).f1, .string (refE e).f2, .int .i64 (refE e).f3, .slice A (refE e).f4.length c] 29)) (.cells #[.int .i64 a.f0, .string a.f1, .int .i64 a.f2, .int .i64 a.f3] 56)) (.cells #[.int .i64 0, .int .i64 0, .string ⟨#[]⟩, .int .i64 0, .slice none 0 0] 29)))
    have HX1 := Aside0.mk (blk_drew (blk_alloc (by have := blk_new (w.alloc (.cells #[.int .i64 (refE e).f0, .int .i64 (refE e).f1, .string (refE e).f2, .int .i64 (refE e).f3, .slice A (refE e).f4.length c] 29)) (.cells #[.int .i64 a.f0, .string a.f1, .int .i64 a.f2, .int .i64 a.f3] 56); rw [World.size_alloc] at this; exact this : ((w.alloc (.cells #[.int .i64 (refE e).f0, .int .i64 (refE e).f1, .string (refE e).f2, .int .i64 (refE e).f3, .slice A (refE e).f4.length c] 29)).alloc (.cells #[.int .i64 a.f0, .string a.f1, .int .i64 a.f2, .int .i64 a.f3] 56)).heap[w.heap.size + 1]? = some (.cells #[.int .i64 a.f0, .string a.f1, .int .i64 a.f2, .int .i64 a.f3] 56 (0, 0))) (.cells #[.int .i64 0, .int .i64 0, .string ⟨#[]⟩, .int .i64 0, .slice none 0 0] 29)))
    go_enter Tryd.func22, Tryd.ntmps22
    go_wp2
    refine start_ (n := 6) (S := fun w' => w'.cell? ⟨w.heap.size, 0, none⟩ = some (.int .i64 (refE e).f0) ∧ w'.cell? ⟨w.heap.size, 1, none⟩ = some (.int .i64 (refE e).f1) ∧ w'.cell? ⟨w.heap.size, 2, none⟩ = some (.string (refE e).f2) ∧ w'.cell? ⟨w.heap.size, 3, none⟩ = some (.int .i64 (refE e).f3) ∧ w'.cell? ⟨w.heap.size, 4, none⟩ = some (.slice A (refE e).f4.length c) ∧ w'.cell? ⟨w.heap.size + 1, 3, none⟩ = some (.int .i64 a.f3)) (ds := [5]) #[false, false, false, false, false, false] (by kernel_rfl) rfl rfl ⟨(blk_cell HX0.out 0).trans rfl, (blk_cell HX0.out 1).trans rfl, (blk_cell HX0.out 2).trans rfl, (blk_cell HX0.out 3).trans rfl, (blk_cell HX0.out 4).trans rfl, (blk_cell HX1.out 3).trans rfl⟩ (fun hHeld => ?_)
    generalize (((w.alloc (.cells #[.int .i64 (refE e).f0, .int .i64 (refE e).f1, .string (refE e).f2, .int .i64 (refE e).f3, .slice A (refE e).f4.length c] 29)).alloc (.cells #[.int .i64 a.f0, .string a.f1, .int .i64 a.f2, .int .i64 a.f3] 56)).alloc (.cells #[.int .i64 0, .int .i64 0, .string ⟨#[]⟩, .int .i64 0, .slice none 0 0] 29)).drew = wA at HBX HXR HX0 HX1 hHeld ⊢
    refine pure_ (i := 0) (N := some 33) (v := ?_) (a' := ?_) #[true, false, false, false, false, false] rfl rfl (by kernel_rfl) (fun _ _ _ h => h) (Or.inl ⟨by rfl, ?_⟩) ?_ ?_
    rotate_left
    · intro w'
      go_simp
      with_reducible rfl
    rotate_left
    · simp only [Act.put, List.setIfInBounds_toArray, List.set_cons_zero, List.set_cons_succ, i64_w, i32_w]
      rfl
    refine take_ (i := 1) (N := some 34) (v := ?_) (a' := ?_) #[true, true, false, false, false, false] rfl rfl (by kernel_rfl) (fun _ _ _ h => h) (Or.inl ⟨by rfl, ?_⟩) hHeld ?_ ?_
    rotate_left
    · rintro w' ⟨s0, s1, s2, s3, s4, s5⟩
      go_simp
      with_reducible rfl
    rotate_left
    · simp only [Act.put, List.setIfInBounds_toArray, List.set_cons_zero, List.set_cons_succ, i64_w, i32_w]
      rfl
    refine take_ (i := 3) (N := some 36) (v := ?_) (a' := ?_) #[true, true, false, true, false, false] rfl rfl (by kernel_rfl) (fun _ _ _ h => h) (Or.inl ⟨by rfl, ?_⟩) hHeld ?_ ?_
    rotate_left
    · rintro w' ⟨s0, s1, s2, s3, s4, s5⟩
      go_simp
      with_reducible rfl
    rotate_left
    · simp only [Act.put, List.setIfInBounds_toArray, List.set_cons_zero, List.set_cons_succ, i64_w, i32_w]
      rfl
    refine one_ (i := 2) (N := some 35) #[true, true, true, true, false, false] rfl rfl (by kernel_rfl) (by decide) (fun K hK => ?_)
    refine goes_ Tryd.func34 (by kernel_rfl) rfl #[.int .i64 a.f3] (by rfl) rfl rfl (by (try simp only [List.map_toArray, List.map_cons, List.map_nil]); first | done | rfl | (simp only [List.length_drop, List.length_take]; rfl)) ?_
    refine (fresh_rcalls _ _).mono ?_
    rintro ev w1 ⟨⟨v1, rfl, hv1⟩, hb⟩
    obtain ⟨A1, c1, rfl⟩ := hv1.slice
    have HV1 := Aside0.mk hv1
    clear hv1
    have n0_ := Aside0.mk (blk_below HX0.out hb)
    have n1_ := Aside0.mk (blk_below HX1.out hb)
    have n2_ := Aside0.mk (blk_below HXR.out hb)
    have n3_ := Aside0.mk (HBX.out.trans (hb.mono HBX.out.size))
    clear HX0 HX1 HXR HBX hb
    have HX0 := n0_
    have HX1 := n1_
    have HXR := n2_
    have HBX := n3_
    clear n0_ n1_ n2_ n3_
    refine ⟨_, rfl, ?_⟩
    refine hK.out _ _ ⟨(blk_cell HX0.out 0).trans rfl, (blk_cell HX0.out 1).trans rfl, (blk_cell HX0.out 2).trans rfl, (blk_cell HX0.out 3).trans rfl, (blk_cell HX0.out 4).trans rfl, (blk_cell HX1.out 3).trans rfl⟩ (fun hHeld => ?_)
    clear hK K
    refine norm_ (a' := ?_) ?_ ?_
    rotate_left
    · show Act.put _ (some 35) _ = _
      simp only [Act.put, List.setIfInBounds_toArray, List.set_cons_zero, List.set_cons_succ, i64_w, i32_w]
      rfl
    refine one_ (i := 4) (N := some 37) #[true, true, true, true, true, false] rfl rfl (by kernel_rfl) (by decide) (fun K hK => ?_)
    refine goes_ Tryd.func35 (by kernel_rfl) rfl #[rAgg (freshE a.f3) (.slice A1 (refE (freshE a.f3)).f4.length c1), rAgg e (.slice A (refE e).f4.length c)] (by rfl) rfl rfl (by (try simp only [List.map_toArray, List.map_cons, List.map_nil]); first | done | rfl | (simp only [List.length_drop, List.length_take]; rfl)) ?_
    refine (both_rcalls P (freshE a.f3) e (.slice A1 (refE (freshE a.f3)).f4.length c1) (.slice A (refE e).f4.length c) _ HV1.out (HV.out.on HBX.out) (fun W hW => fresh_rv HV1.out) (fun W hW => HP.out W hW)).mono ?_
    rintro ev w2 ⟨⟨v2, rfl, ⟨A2, c2, rfl⟩, hv2⟩, hb⟩
    have HV2 := Aside0.mk hv2
    have HZ1 := Aside0.mk HBX.out.size
    have HLR := Aside0.mk (blk_lt HXR.out)
    clear hv2
    have n0_ := Aside0.mk (blk_below HX0.out hb)
    have n1_ := Aside0.mk (blk_below HX1.out hb)
    have n2_ := Aside0.mk (blk_below HXR.out hb)
    have n3_ := Aside0.mk (HBX.out.trans (hb.mono HBX.out.size))
    clear HX0 HX1 HXR HBX hb
    have HX0 := n0_
    have HX1 := n1_
    have HXR := n2_
    have HBX := n3_
    clear n0_ n1_ n2_ n3_
    refine ⟨_, rfl, ?_⟩
    refine hK.out _ _ ⟨(blk_cell HX0.out 0).trans rfl, (blk_cell HX0.out 1).trans rfl, (blk_cell HX0.out 2).trans rfl, (blk_cell HX0.out 3).trans rfl, (blk_cell HX0.out 4).trans rfl, (blk_cell HX1.out 3).trans rfl⟩ (fun hHeld => ?_)
    clear hK K
    refine norm_ (a' := ?_) ?_ ?_
    rotate_left
    · show Act.put _ (some 37) _ = _
      simp only [Act.put, List.setIfInBounds_toArray, List.set_cons_zero, List.set_cons_succ, i64_w, i32_w]
      rfl
    have r0 := (blk_cell HXR.out 0).trans (by rfl : _ = some (.int .i64 0))
    have q0 := blk_frozen HXR.out 0
    have r1 := (blk_cell HXR.out 1).trans (by rfl : _ = some (.int .i64 0))
    have q1 := blk_frozen HXR.out 1
    have r2 := (blk_cell HXR.out 2).trans (by rfl : _ = some (.string ⟨#[]⟩))
    have q2 := blk_frozen HXR.out 2
    have r3 := (blk_cell HXR.out 3).trans (by rfl : _ = some (.int .i64 0))
    have q3 := blk_frozen HXR.out 3
    have r4 := (blk_cell HXR.out 4).trans (by rfl : _ = some (.slice none 0 0))
    have q4 := blk_frozen HXR.out 4
    refine last_ (i := 5) (N := none) #[true, true, true, true, true, true] rfl rfl (by kernel_rfl) (by decide) (fun K hK => ?_)
    refine skip_ (w1 := set5 w2 (w.heap.size + 1 + 1) (.int .i64 (refE (bothE (freshE a.f3) e)).f0) (.int .i64 (refE (bothE (freshE a.f3) e)).f1) (.string (refE (bothE (freshE a.f3) e)).f2) (.int .i64 (refE (bothE (freshE a.f3) e)).f3) (.slice A2 (refE (bothE (freshE a.f3) e)).f4.length c2)) (by rfl) rfl ?_ ?_
    · go_simp
      rfl
    refine hK.out _ _ ?_
    refine done_ (by kernel_rfl) ?_
    go_wp2
    refine bodyPost_ret (results_cell_row rfl _ _ (w.heap.size + 1 + 1) 29 #[.int .i64 (refE (bothE (freshE a.f3) e)).f0, .int .i64 (refE (bothE (freshE a.f3) e)).f1, .string (refE (bothE (freshE a.f3) e)).f2, .int .i64 (refE (bothE (freshE a.f3) e)).f3, .slice A2 (refE (bothE (freshE a.f3) e)).f4.length c2] (0, 0) _ rfl (put5 HXR.out _ _ _ _ _) Tryd.underlying29 rfl (by kernel_rfl)) rfl ?_
    rw [HE.out]
    have HF := set5_below HBX.out (show w.heap.size ≤ w.heap.size + 1 + 1 by omega) (.int .i64 (refE (bothE (freshE a.f3) e)).f0) (.int .i64 (refE (bothE (freshE a.f3) e)).f1) (.string (refE (bothE (freshE a.f3) e)).f2) (.int .i64 (refE (bothE (freshE a.f3) e)).f3) (.slice A2 (refE (bothE (freshE a.f3) e)).f4.length c2)
    exact ⟨⟨_, rfl, ⟨_, _, rfl⟩, fun W hP hK => HV2.out W hP (fun k hk hk2 => (hK k (by have := HZ1.out; omega) (by rw [set5_size]; exact hk2)).trans (set5_other (by have := HLR.out; omega) _ _ _ _ _))⟩, HF⟩
  · have e3 : (a.f0 == 3) = false := beq_eq_false_iff_ne.2 h3
    have HE := Aside0.mk (show stepE e a = e from by unfold stepE; rw [if_neg h0, if_neg h1, if_neg h2, if_neg h3])
    clear h0 h1 h2 h3
    go_enter Tryd.func22, Tryd.ntmps22
    go_wp2
    have HRES := (by have := blk_new ((w.alloc (.cells #[.int .i64 (refE e).f0, .int .i64 (refE e).f1, .string (refE e).f2, .int .i64 (refE e).f3, .slice A (refE e).f4.length c] 29)).alloc (.cells #[.int .i64 a.f0, .string a.f1, .int .i64 a.f2, .int .i64 a.f3] 56)) (.cells #[.int .i64 (refE e).f0, .int .i64 (refE e).f1, .string (refE e).f2, .int .i64 (refE e).f3, .slice A (refE e).f4.length c] 29); simp only [World.size_alloc] at this; exact this : (((w.alloc (.cells #[.int .i64 (refE e).f0, .int .i64 (refE e).f1, .string (refE e).f2, .int .i64 (refE e).f3, .slice A (refE e).f4.length c] 29)).alloc (.cells #[.int .i64 a.f0, .string a.f1, .int .i64 a.f2, .int .i64 a.f3] 56)).alloc (.cells #[.int .i64 (refE e).f0, .int .i64 (refE e).f1, .string (refE e).f2, .int .i64 (refE e).f3, .slice A (refE e).f4.length c] 29)).heap[w.heap.size + 1 + 1]? = some (.cells #[.int .i64 (refE e).f0, .int .i64 (refE e).f1, .string (refE e).f2, .int .i64 (refE e).f3, .slice A (refE e).f4.length c] 29 (0, 0)))
    have HBX := ((((Below.refl w.heap.size w).alloc (Nat.le_refl _) (.cells #[.int .i64 (refE e).f0, .int .i64 (refE e).f1, .string (refE e).f2, .int .i64 (refE e).f3, .slice A (refE e).f4.length c] 29)).alloc (by rw [World.size_alloc]; omega) (.cells #[.int .i64 a.f0, .string a.f1, .int .i64 a.f2, .int .i64 a.f3] 56)).alloc (by simp only [World.size_alloc]; omega) (.cells #[.int .i64 (refE e).f0, .int .i64 (refE e).f1, .string (refE e).f2, .int .i64 (refE e).f3, .slice A (refE e).f4.length c] 29))
    refine bodyPost_ret (results_cell_row rfl _ _ (w.heap.size + 1 + 1) 29 #[.int .i64 (refE e).f0, .int .i64 (refE e).f1, .string (refE e).f2, .int .i64 (refE e).f3, .slice A (refE e).f4.length c] (0, 0) _ rfl HRES Tryd.underlying29 rfl (by kernel_rfl)) rfl ?_
    rw [HE.out]
    exact ⟨⟨_, rfl, ⟨_, _, rfl⟩, fun W hP _ => HP.out W hP⟩, HBX⟩
end Go.Proofs.YtcklemjmenifpaaDoor.Fn
