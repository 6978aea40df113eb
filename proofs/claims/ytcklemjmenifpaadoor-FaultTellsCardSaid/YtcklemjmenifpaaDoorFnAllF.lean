/- fault.All over any error tree, by its walk. -/
import Derived.Test.YtcklemjmenifpaaDoorFnStg
set_option linter.unusedVariables false
set_option linter.unusedSimpArgs false
namespace Go.Proofs.YtcklemjmenifpaaDoor.Fn
open Go.RowKit Go.Shelf Go.Extern.Stop Go.Stop Go.Extern Go.Proofs.YtcklemjmenifpaaDoorW.PrintWords Go.Proofs.YtcklemjmenifpaaDoorW.PrintLast Go.Proofs.YtcklemjmenifpaaDoorW.PrintMore Go.Proofs.YtcklemjmenifpaaDoor.Fs

theorem info39 : (Tryd.prog.info? 39).map (fun i => (i.zero, i.size, i.bytes)) = some (some (.int .i64 0), 1, 8) := by kernel_rfl
/-- A row of one number that has just been made. -/
theorem R_one (n : Int) (w : World) : Kd.R (Kd.int .i64) 39 (w.alloc (.cells #[.int .i64 n] 39)) w.heap.size (fun _ => True) (.slice (some ⟨w.heap.size, 0, none⟩) 1 1) [n] := by
  refine ⟨fun _ _ => trivial, [.int .i64 n], ⟨rfl, .inr ⟨w.heap.size, 1, #[.int .i64 n], rfl, Nat.le_refl _, blk_new w _, Nat.le_refl _, by decide, rfl, rfl⟩⟩, Kd.reps_scalar (enc := Value.int .i64) [n]⟩
set_option maxRecDepth 100000 in
set_option maxHeartbeats 4000000 in
theorem allf_calls (e : Er) : (allE e).length ≤ 1000000 → ∀ (v : Value) (w : World), EV w e v → Calls Tryd.prog 18 #[v] w fun ev w' => (∃ v0, ev = .returned v0 ∧ Kd.R (Kd.int .i64) 39 w' w.heap.size (fun _ => True) v0 (allE e)) ∧ Below w.heap.size w w' := by
  have t1 := ta_39_39
  have t2 := ta_37_39
  have t3 := ta_37_37
  have t4 := ta_81_39
  have t5 := ta_81_37
  induction e with
  | nil =>
    intro _ v w hv
    obtain rfl := hv
    have HB := Aside0.mk (Below.refl w.heap.size w)
    go_enter Tryd.func18, Tryd.ntmps18
    go_wp2
    go_ret
    exact ⟨⟨_, rfl, Kd.R_nil _ _ _ _ _⟩, HB.out⟩
  | num n =>
    intro _ v w hv
    obtain rfl := hv
    have HB := Aside0.mk ((Below.refl w.heap.size w).alloc (Nat.le_refl _) (.cells #[.int .i64 n] 39))
    have HR := Aside0.mk (R_one n w)
    go_enter Tryd.func18, Tryd.ntmps18
    go_wp2
    go_ret
    exact ⟨⟨_, rfl, HR.out⟩, HB.out⟩
  | slip s no e ih =>
    intro hl v w hv
    obtain ⟨u, rfl, hu⟩ := hv
    have hor := ev_cases hu
    have HI := Aside0.mk (ih hl u)
    have HU := Aside0.mk hu
    clear ih hl hu
    rcases hor with rfl | ⟨t, x, rfl⟩
    · have HB := Aside0.mk ((Below.refl w.heap.size w).alloc (Nat.le_refl _) (.cells #[.string s, .int .i64 no, .nilIface] 37))
      go_enter Tryd.func18, Tryd.ntmps18
      go_wp2_with (go_at_call 18; refine (HI.out _ (HU.out.on HB.out)).mono ?_; rintro ev w2 ⟨⟨v2, rfl, ho⟩, hb⟩; (have HN1 := Aside0.mk (Kd.R_lower ho HB.out.size)); (have HB2 := Aside0.mk (HB.out.trans (hb.mono HB.out.size))); clear hb ho)
      go_ret
      exact ⟨⟨_, rfl, HN1.out⟩, HB2.out⟩
    · have HB := Aside0.mk ((Below.refl w.heap.size w).alloc (Nat.le_refl _) (.cells #[.string s, .int .i64 no, (.iface t x)] 37))
      go_enter Tryd.func18, Tryd.ntmps18
      go_wp2_with (go_at_call 18; refine (HI.out _ (HU.out.on HB.out)).mono ?_; rintro ev w2 ⟨⟨v2, rfl, ho⟩, hb⟩; (have HN1 := Aside0.mk (Kd.R_lower ho HB.out.size)); (have HB2 := Aside0.mk (HB.out.trans (hb.mono HB.out.size))); clear hb ho)
      go_ret
      exact ⟨⟨_, rfl, HN1.out⟩, HB2.out⟩
  | two a b iha ihb =>
    intro hl v w hv
    obtain ⟨j, g, c, cur, va, vb, rfl, hj, hc, hg, hc0, hc1, ha, hb'⟩ := hv
    have hl2 : (allE a).length + (allE b).length ≤ 1000000 := by rw [← List.length_append]; exact hl
    have HL := Aside0.mk hl2
    have HXA := Aside0.mk (fun W (hW : Below w.heap.size w W) => iha (by omega) va W (ha.on hW))
    have HXB := Aside0.mk (fun W (hW : Below w.heap.size w W) => ihb (by omega) vb W (hb'.on hW))
    have HB := Aside0.mk (Below.refl w.heap.size w)
    have HJ := Aside0.mk hj
    have HG := Aside0.mk hg
    have HC0 := Aside0.mk hc0
    have HC1 := Aside0.mk hc1
    clear hl hl2 ha hb' iha ihb hj hg hc0 hc1
    go_enter Tryd.func18, Tryd.ntmps18
    go_wp2_with (go_at_call 30; refine (parts_calls j _ _ HJ.out).mono ?_; rintro ev w1 ⟨rfl, hb⟩; (have HB1 := Aside0.mk (HB.out.trans hb)); (have g0 := (blk_cell (blk_below HG.out HB1.out) 0).trans HC0.out); (have g1 := (blk_cell (blk_below HG.out HB1.out) 1).trans HC1.out); clear hb)
    refine wp_loop_rounds 3 ?_
    rw [rounds_succ]
    go_wp2_with (first | (go_at_call 18; refine (HXA.out _ HB1.out).mono ?_; rintro ev w2 ⟨⟨v2, rfl, ho⟩, hb⟩; obtain ⟨An1, cn1, rfl⟩ := Kd.R_slice ho; (have HN1 := Aside0.mk (Kd.R_lower ho HB1.out.size)); (have HB2 := Aside0.mk (HB1.out.trans (hb.mono HB1.out.size))); clear hb ho) | ((with_reducible refine gate_builtin (b := .append) (xs := #[.tmp 29, .tmp 31]) rfl ?_); at_builtin; (refine Kd.R_append_rows (Kd.int .i64) (w0 := w) w.heap.size rfl (.tmp 29) (.tmp 31) 50 39 (.int .i64 0) 8 rfl Tryd.underlying50 info39 rfl (by decide) (by omega) (.slice none 0 0) ([] : List Int) (allE a) _ _ _ (fun k_ => some k_ ≠ (.slice An1 ((allE a)).length cn1 : Value).ownBlock) (fun _ => False) rfl rfl ?aO ?aR (fun _ _ h => h) (fun _ h => h.elim) ?aF ?aB ?aS ?aL ?_; (case aR => exact (Kd.R_reads' HN1.out).2.2); (case aB => exact HB2.out); (case aF => exact (fun k_ hk => Kd.fresh' (Kd.R_lt HN1.out) k_ hk)); (case aO => exact (Kd.R_nil _ _ _ _ _)); (case aS => exact HB2.out.size); (case aL => have := HL.out; (first | (simp only [List.length_nil]; omega) | (simp only [List.nil_append]; omega))); intro l1 W1 ho hb hg hat; (have HQ1 := Aside0.mk (Kd.R_mono ho (fun _ _ => trivial : ∀ k, _ → (fun _ => True) k))); (have HW1 := Aside0.mk hb); clear ho hb hg hat)))
    have k1 := (blk_cell (blk_below HG.out HW1.out) 1).trans HC1.out
    rw [rounds_succ]
    go_wp2_with (first | (go_at_call 18; refine (HXB.out _ HW1.out).mono ?_; rintro ev w4 ⟨⟨v4, rfl, ho⟩, hb⟩; obtain ⟨An2, cn2, rfl⟩ := Kd.R_slice ho; (have HN2 := Aside0.mk (Kd.R_lower ho HW1.out.size)); (have HO2 := Aside0.mk (Kd.R_elder' HQ1.out (Kd.R_base ho) hb)); (have HB4 := Aside0.mk (HW1.out.trans (hb.mono HW1.out.size))); clear hb ho) | ((with_reducible refine gate_builtin (b := .append) (xs := #[.tmp 29, .tmp 31]) rfl ?_); at_builtin; (refine Kd.R_append_rows (Kd.int .i64) (w0 := w) w.heap.size rfl (.tmp 29) (.tmp 31) 50 39 (.int .i64 0) 8 rfl Tryd.underlying50 info39 rfl (by decide) (by omega) l1 ([] ++ allE a) (allE b) _ _ _ (fun k_ => some k_ ≠ (.slice An2 ((allE b)).length cn2 : Value).ownBlock) (fun _ => False) rfl rfl ?aO ?aR (fun _ _ h => h) (fun _ h => h.elim) ?aF ?aB ?aS ?aL ?_; (case aR => exact (Kd.R_reads' HN2.out).2.2); (case aB => exact HB4.out); (case aF => exact (fun k_ hk => Kd.fresh' (Kd.R_lt HN2.out) k_ hk)); (case aO => exact (Kd.R_mono HO2.out (fun _ hk => hk.2))); (case aS => exact HB4.out.size); (case aL => have := HL.out; (first | (simp only [List.length_nil]; omega) | (simp only [List.nil_append]; omega))); intro l2 W2 ho hb hg hat; (have HQ2 := Aside0.mk (Kd.R_mono ho (fun _ _ => trivial : ∀ k, _ → (fun _ => True) k))); (have HW2 := Aside0.mk hb); clear ho hb hg hat)))
    rw [rounds_succ]
    go_wp2
    go_ret
    exact ⟨⟨_, rfl, HQ2.out⟩, HW2.out⟩
end Go.Proofs.YtcklemjmenifpaaDoor.Fn
