/- The law FaultFinds, by its walk: it answers true at every stage, number and pair of numbers. -/
import Derived.Test.YtcklemjmenifpaaDoorFnLive
import Derived.Test.YtcklemjmenifpaaDoorFnAsS
set_option linter.unusedVariables false
set_option linter.unusedSimpArgs false
namespace Go.Proofs.YtcklemjmenifpaaDoor.Fn
open Go.RowKit Go.Shelf Go.Extern.Stop Go.Stop Go.Extern Go.Proofs.YtcklemjmenifpaaDoorW.PrintWords Go.Proofs.YtcklemjmenifpaaDoorW.PrintLast

theorem code_calls (a : Int) (w : World) : Calls Tryd.prog 17 #[.int .i64 a] w fun ev w' => ev = .returned (.int .i64 a) ∧ w' = w := by
  go_enter Tryd.func17, Tryd.ntmps17
  go_wp2
  go_ret
  exact ⟨rfl, rfl⟩
/-- What the laid variables give. -/
structure Laid (w : World) : Prop where
  tab : Tab w
  errT : w.cell? ⟨0, 0, none⟩ = some (.iface 85 (.agg #[H 26]))
theorem Laid.on {w w' : World} (h : Laid w) (hb : Below w.heap.size w w') : Laid w' := ⟨tab_on h.tab hb, (hb.cell (World.block_lt_of_cell? w _ h.errT)).trans h.errT⟩
set_option maxRecDepth 100000 in
set_option maxHeartbeats 8000000 in
theorem finds_calls (st : ByteArray) (no a b : Int) (w : World) (hL : Laid w) : Calls Tryd.prog 4 #[.string st, .int .i64 no, .int .i64 a, .int .i64 b] w fun ev w' => ev = .returned (.bool true) ∧ Below w.heap.size w w' := by
  have HB := Aside0.mk (Below.refl w.heap.size w)
  have HL := Aside0.mk hL
  clear hL
  by_cases ha : a = 0
  · have e0 : (a == 0) = true := beq_iff_eq.2 ha
    clear ha
    go_enter Tryd.func4, Tryd.ntmps4
    go_wp2_with (go_at_call 7; refine (live_calls _ HL.out.tab).mono ?_; rintro ev w1 ⟨rfl, hb⟩; (have HB1 := Aside0.mk (HB.out.trans hb)); clear hb)
    go_ret
    exact ⟨rfl, HB1.out⟩
  have e0 : (a == 0) = false := beq_eq_false_iff_ne.2 ha
  by_cases hb : b = 0
  · have e1 : (b == 0) = true := beq_iff_eq.2 hb
    clear ha hb
    go_enter Tryd.func4, Tryd.ntmps4
    go_wp2_with (go_at_call 7; refine (live_calls _ HL.out.tab).mono ?_; rintro ev w1 ⟨rfl, hb⟩; (have HB1 := Aside0.mk (HB.out.trans hb)); clear hb)
    go_ret
    exact ⟨rfl, HB1.out⟩
  have e1 : (b == 0) = false := beq_eq_false_iff_ne.2 hb
  by_cases hs : (1000 : Int) < (st.size : Int)
  · have e2 : decide ((1000 : Int) < (st.size : Int)) = true := decide_eq_true hs
    clear ha hb hs
    go_enter Tryd.func4, Tryd.ntmps4
    go_wp2_with (go_at_call 7; refine (live_calls _ HL.out.tab).mono ?_; rintro ev w1 ⟨rfl, hb⟩; (have HB1 := Aside0.mk (HB.out.trans hb)); clear hb)
    go_ret
    exact ⟨rfl, HB1.out⟩
  have e2 : decide ((1000 : Int) < (st.size : Int)) = false := decide_eq_false hs
  have HAZ := Aside0.mk ha
  have HBZ := Aside0.mk hb
  clear ha hb hs
  have HIS := Aside0.mk (fun (n : Int) (hn : n = a ∨ n = b) (v : Value) (W : World) (hv : EV W (.slip st no (.two (.num a) (.num b))) v) => (is_top n (.slip st no (.two (.num a) (.num b))) v W hv (by simp)).mono (R' := fun ev w' => ev = .returned (.bool true) ∧ Below W.heap.size W w') (fun ev w' h => by have hh : hasE n (.slip st no (.two (.num a) (.num b))) = true := (by rcases hn with rfl | rfl <;> simp [hasE]); rw [hh] at h; exact h))
  go_enter Tryd.func4, Tryd.ntmps4
  go_wp2_with (first
    | (go_at_call 14; refine (new_some _ (by first | exact HAZ.out | exact HBZ.out) _).mono ?_; rintro ev w' ⟨rfl, rfl⟩)
    | (go_at_call 13; refine (both_calls (.num a) (.num b) _ _ _ rfl rfl).mono ?_; rintro ev w1 ⟨⟨v1, rfl, hv1⟩, hb⟩; (have HB1 := Aside0.mk (HB.out.trans hb)); (have HV1 := Aside0.mk hv1); clear hb hv1)
    | (go_at_call 12; refine (in_calls _ _ _ _ _ HV1.out).mono ?_; rintro ev w2 ⟨⟨v2, rfl, hv2⟩, hb⟩; (have hv3 : EV w2 (.slip st no (.two (.num a) (.num b))) v2 := hv2); obtain ⟨u2, rfl, hu2⟩ := hv3; obtain ⟨t2, x2, rfl⟩ := ev_some hu2 (by simp); (have HB2 := Aside0.mk (HB1.out.trans (hb.mono HB1.out.size))); (have HV2 := Aside0.mk (show EV w2 (.slip st no (.two (.num a) (.num b))) _ from hv2)); (have HBW := Aside0.mk (((Below.refl w2.heap.size w2).alloc (Nat.le_refl _) (.cells #[.string ⟨#[]⟩, .int .i64 0, .nilIface] 37)).alloc (by rw [World.size_alloc]; omega) (.cells #[.int .i64 0] 39))); (have HS := Aside0.mk (blk_alloc (blk_new w2 (.cells #[.string ⟨#[]⟩, .int .i64 0, .nilIface] 37)) (.cells #[.int .i64 0] 39))); (have HN := Aside0.mk (show ((w2.alloc (.cells #[.string ⟨#[]⟩, .int .i64 0, .nilIface] 37)).alloc (.cells #[.int .i64 0] 39)).heap[w2.heap.size + 1]? = some (.cells #[.int .i64 0] 39 (0, 0)) from by have := blk_new (w2.alloc (.cells #[.string ⟨#[]⟩, .int .i64 0, .nilIface] 37)) (.cells #[.int .i64 0] 39); rw [World.size_alloc] at this; exact this)); clear hb hv2 hu2)
    | (go_at_call 15; refine (HIS.out _ (by first | exact .inl rfl | exact .inr rfl) _ _ (HV2.out.on HBW.out)).mono ?_; rintro ev w3 ⟨rfl, hb⟩; (have HS' := Aside0.mk (blk_below HS.out hb)); (have HN' := Aside0.mk (blk_below HN.out hb)); (have HBW' := Aside0.mk (HBW.out.trans (hb.mono HBW.out.size))); clear hb HS HN HBW; (have HS := HS'); (have HN := HN'); (have HBW := HBW'); clear HS' HN' HBW')
    | (go_at_call 16; have hc16 := as_slip st no t2 x2 w2.heap.size _ _ _ _ HS.out (HL.out.on (HB2.out.trans (HBW.out.mono HB2.out.size))).errT; (with_reducible refine hc16.mono ?_); clear hc16; rintro ev w4 ⟨rfl, W1, hW1, hs1, rfl⟩; (have HN1 := blk_below HN.out hW1); (have HS' : Aside0 ((put3 W1 w2.heap.size st no (.iface t2 x2)).heap[w2.heap.size]? = some (.cells #[.string st, .int .i64 no, .iface t2 x2] 37 (0, 0))) := Aside0.mk (blk_put (cs' := #[.string st, .int .i64 no, .iface t2 x2]) (blk_put (cs' := #[.string st, .int .i64 no, .nilIface]) (blk_put (cs' := #[.string st, .int .i64 0, .nilIface]) hs1 0 (.string st) rfl) 1 (.int .i64 no) rfl) 2 (.iface t2 x2) rfl)); (have HN' : Aside0 ((put3 W1 w2.heap.size st no (.iface t2 x2)).heap[w2.heap.size + 1]? = some (.cells #[.int .i64 0] 39 (0, 0))) := Aside0.mk (blk_far (p := ⟨w2.heap.size, 2, none⟩) (blk_far (p := ⟨w2.heap.size, 1, none⟩) (blk_far (p := ⟨w2.heap.size, 0, none⟩) HN1 (by simp) (.string st)) (by simp) (.int .i64 no)) (by simp) (.iface t2 x2))); (have HBW' : Aside0 (Below w2.heap.size w2 (put3 W1 w2.heap.size st no (.iface t2 x2))) := Aside0.mk (below_set (j := 2) (v := .iface t2 x2) (below_set (j := 1) (v := .int .i64 no) (below_set (j := 0) (v := .string st) (HBW.out.trans (hW1.mono HBW.out.size)) (Nat.le_refl w2.heap.size)) (Nat.le_refl w2.heap.size)) (Nat.le_refl w2.heap.size))); generalize put3 W1 w2.heap.size st no (.iface t2 x2) = W9 at HS' HN' HBW' ⊢; (have s0 := (blk_cell HS'.out 0).trans (by rfl : _ = some (.string st))); (have s1 := (blk_cell HS'.out 1).trans (by rfl : _ = some (.int .i64 no))); clear hW1 hs1 HN1 HS HN HBW; (have HS := HS'); (have HN := HN'); (have HBW := HBW'); clear HS' HN' HBW')
    | (go_at_call 16; have hc17 := as_top (.slip st no (.two (.num a) (.num b))) (by simp) (by simp [nnE]) a rfl (.iface 37 (.agg #[.string st, .int .i64 no, .iface t2 x2])) (w2.heap.size + 1) _ _ (HV2.out.on HBW.out) HN.out (HL.out.on (HB2.out.trans (HBW.out.mono HB2.out.size))).errT; (with_reducible refine hc17.mono ?_); clear hc17; rintro ev w5 ⟨rfl, W1, hW1, rfl⟩; (have HN' := Aside0.mk (blk_put (cs' := #[.int .i64 a]) (blk_below HN.out hW1) 0 (.int .i64 a) rfl)); (have HBW' := Aside0.mk (below_set (j := 0) (v := .int .i64 a) (HBW.out.trans (hW1.mono HBW.out.size)) (Nat.le_succ w2.heap.size))); (have n0 := (blk_cell HN'.out 0).trans (by rfl : _ = some (.int .i64 a))); clear hW1 HN HBW; (have HN := HN'); (have HBW := HBW'); clear HN' HBW')
    | (go_at_call 17; refine (code_calls _ _).mono ?_; rintro ev w' ⟨rfl, rfl⟩)
    | (go_at_call 7; refine (live_calls _ (HL.out.on (HB2.out.trans (HBW.out.mono HB2.out.size))).tab).mono ?_; rintro ev w6 ⟨rfl, hb⟩; (have HB6 := Aside0.mk ((HB2.out.trans (HBW.out.mono HB2.out.size)).trans (hb.mono (HB2.out.trans (HBW.out.mono HB2.out.size)).size))); clear hb))
  go_ret
  exact ⟨rfl, HB6.out⟩
end Go.Proofs.YtcklemjmenifpaaDoor.Fn
