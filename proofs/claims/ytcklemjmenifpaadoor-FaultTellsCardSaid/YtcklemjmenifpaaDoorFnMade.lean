/- What acts make, by the program and the document: made, by its walk. -/
import Derived.Test.YtcklemjmenifpaaDoorFnDoC
set_option linter.unusedVariables false
set_option linter.unusedSimpArgs false
namespace Go.Proofs.YtcklemjmenifpaaDoor.Fn
open Go.RowKit Go.Shelf Go.Extern.Stop Go.Stop Go.Extern Go.Proofs.YtcklemjmenifpaaDoorW.PrintWords Go.Proofs.YtcklemjmenifpaaDoorW.PrintLast Go.Proofs.YtcklemjmenifpaaDoorW.PrintMore Go.Proofs.YtcklemjmenifpaaDoor.Fs

theorem EV.set {W : World} {B : Nat} {cs : Array Value} (hB : W.heap[B]? = some (.cells cs 29 (0, 0))) (x0 x1 x2 x3 x4 : Value) (e : Er) : ∀ {v : Value}, EV W e v → EV (set5 W B x0 x1 x2 x3 x4) e v := by
  have hk : ∀ k o, W.heap[k]? = some o → k ≠ B → (set5 W B x0 x1 x2 x3 x4).heap[k]? = some o := fun k o h hne => (set5_other hne x0 x1 x2 x3 x4).trans h
  generalize set5 W B x0 x1 x2 x3 x4 = W2 at hk
  induction e with
  | nil => intro v h; exact h
  | num n => intro v h; exact h
  | slip s no e ih =>
    intro v h
    obtain ⟨u, h1, h2⟩ := h
    exact ⟨u, h1, ih h2⟩
  | two a b iha ihb =>
    intro v h
    obtain ⟨j, g, c, cur, va, vb, h1, h2, h3, h4, h5, h6, h7, h8⟩ := h
    exact ⟨j, g, c, cur, va, vb, h1, hk _ _ h2 (blk_ne h2 hB (by decide)), h3, hk _ _ h4 (blk_ne h4 hB (by decide)), h5, h6, iha h7, ihb h8⟩
/-- What holds behind k acts. -/
def MadeAt (w : World) (l : List S56) (v i : Value) (wr : World) : Prop := ∃ (k : Nat) (A : Option Addr) (c : Nat), k ≤ l.length ∧ k ≤ 40 ∧ i = .int .i64 k ∧ Below w.heap.size w wr ∧ EV wr (madeE (l.take k)) v ∧
  wr.heap[w.heap.size]? = some (.cells #[.int .i64 0, .int .i64 0, .string ⟨#[]⟩, .int .i64 0, .slice none 0 0] 29 (0, 0)) ∧ wr.heap[w.heap.size + 1]? = some (.cells #[.int .i64 (refE (madeE (l.take k))).f0, .int .i64 (refE (madeE (l.take k))).f1, .string (refE (madeE (l.take k))).f2, .int .i64 (refE (madeE (l.take k))).f3, .slice A (refE (madeE (l.take k))).f4.length c] 29 (0, 0)) ∧
  ∀ W : World, (∀ j, w.heap.size + 2 ≤ j → j < wr.heap.size → W.heap[j]? = wr.heap[j]?) → RV W (madeE (l.take k)) (.slice A (refE (madeE (l.take k))).f4.length c)
theorem made_snoc (l : List S56) (k : Nat) (h : k < l.length) : madeE (l.take (k + 1)) = stepE (madeE (l.take k)) l[k] := by
  unfold madeE
  rw [List.take_succ_eq_append_getElem h, List.foldl_append]
  rfl
theorem made_rel {w wr w6 : World} {l : List S56} {k : Nat} {e6 : Er} {v : Value} {A6 : Option Addr} {c6 : Nat} {y0 y1 y2 y3 y4 : Value} {w5 : Nat} (hk : k < l.length) (h40 : k < 40) (hs : madeE (l.take (k + 1)) = e6) (h5 : wr.heap.size ≤ w5) (h9 : w.heap.size + 1 < wr.heap.size) (hb : Below w.heap.size w wr) (hw : Below wr.heap.size wr w6)
    (hG : wr.heap[w.heap.size]? = some (.cells #[.int .i64 0, .int .i64 0, .string ⟨#[]⟩, .int .i64 0, .slice none 0 0] 29 (0, 0))) (hR : w6.heap[w.heap.size + 1]? = some (.cells #[y0, y1, y2, y3, y4] 29 (0, 0))) (hE : EV w6 e6 v)
    (hV : ∀ W : World, (∀ j, w.heap.size + 2 ≤ j → j < wr.heap.size → W.heap[j]? = wr.heap[j]?) → (∀ j, w5 ≤ j → j < w6.heap.size → W.heap[j]? = w6.heap[j]?) → RV W e6 (.slice A6 (refE e6).f4.length c6)) :
    MadeAt w l v (.int .i64 ((k : Int) + 1)) (set5 w6 (w.heap.size + 1) (.int .i64 (refE e6).f0) (.int .i64 (refE e6).f1) (.string (refE e6).f2) (.int .i64 (refE e6).f3) (.slice A6 (refE e6).f4.length c6)) := by
  subst hs
  have h1 : w.heap.size + 1 < w6.heap.size := blk_lt hR
  have h2 := hw.size
  have hwg : w.heap.size < wr.heap.size := blk_lt hG
  refine ⟨k + 1, A6, c6, hk, h40, by push_cast; rfl, set5_below (hb.trans (hw.mono hb.size)) (by omega) _ _ _ _ _, EV.set hR _ _ _ _ _ _ hE, (set5_other (by omega) _ _ _ _ _).trans (blk_below hG hw), put5 hR _ _ _ _ _, fun W hW => hV W (fun j hj hj2 => ?_) (fun j hj hj2 => ?_)⟩
  · exact ((hW j hj (by rw [set5_size]; omega)).trans (set5_other (by omega) _ _ _ _ _)).trans (hw.block j hj2)
  · have := hb.size
    exact (hW j (by omega) (by rw [set5_size]; exact hj2)).trans (set5_other (by omega) _ _ _ _ _)

set_option maxRecDepth 100000 in
set_option maxHeartbeats 16000000 in
theorem made_calls (l : List S56) (A : Option Addr) (c : Nat) (w : World) (hA : Kd.C k56 w A l.length l) (hc : l.length ≤ c) :
    Calls Tryd.prog 8 #[.slice A l.length c] w fun ev w' => (∃ v sv, ev = .returned (.tuple #[v, rAgg (madeE (l.take 40)) sv]) ∧ EV w' (madeE (l.take 40)) v ∧ RV w' (madeE (l.take 40)) sv ∧ ∃ A' c', sv = .slice A' (refE (madeE (l.take 40))).f4.length c') ∧ Below w.heap.size w w' := by
  have hl64 := hA.2.1
  have HA := Aside0.mk hA
  have HS := Aside0.mk (show MadeAt w l .nilIface (.int .i64 0) ((w.alloc (.cells #[.int .i64 0, .int .i64 0, .string ⟨#[]⟩, .int .i64 0, .slice none 0 0] 29)).alloc (.cells #[.int .i64 0, .int .i64 0, .string ⟨#[]⟩, .int .i64 0, .slice none 0 0] 29)) from ⟨0, none, 0, Nat.zero_le _, by omega, rfl, ((Below.refl w.heap.size w).alloc (Nat.le_refl _) _).alloc (by rw [World.size_alloc]; omega) _, rfl, blk_alloc (blk_new w _) _, (by have := blk_new (w.alloc (.cells #[.int .i64 0, .int .i64 0, .string ⟨#[]⟩, .int .i64 0, .slice none 0 0] 29)) (.cells #[.int .i64 0, .int .i64 0, .string ⟨#[]⟩, .int .i64 0, .slice none 0 0] 29); rw [World.size_alloc] at this; exact this), fun W _ => rfl⟩)
  clear hA
  go_enter Tryd.func8, Tryd.ntmps8
  go_wp2
  go_loopw [4, 6] (fun v i wr => MadeAt w l v i wr) (fun _ i _ => l.length - (intOf i).toNat)
  case atStart => exact HS.out
  case round =>
    clear HS
    obtain ⟨k, As, cs, hk, hk40, rfl, hb, hev, hG, hR, hRV⟩ := hrel
    by_cases hgo : k < l.length ∧ k < 40
    · obtain ⟨hlt, h40⟩ := hgo
      obtain ⟨ad, hAd, g0, g1, g2, g3⟩ := at_T56 HA.out (k : Int) (by omega) (by omega)
      have hrd : rd_T56 l (k : Int) = l[k] := by
        unfold rd_T56
        rw [Int.toNat_natCast, List.getD_eq_getElem?_getD, List.getElem?_eq_getElem hlt]
        rfl
      have hsn := made_snoc l k hlt
      rw [hrd] at g0 g1 g2 g3
      simp only [Int.toNat_natCast] at g0 g1 g2 g3
      clear hrd
      generalize l[k] = a at *
      generalize hme : madeE (l.take k) = e at *
      replace g0 := (hb.cell (World.block_lt_of_cell? w _ g0)).trans g0
      replace g1 := (hb.cell (World.block_lt_of_cell? w _ g1)).trans g1
      replace g2 := (hb.cell (World.block_lt_of_cell? w _ g2)).trans g2
      replace g3 := (hb.cell (World.block_lt_of_cell? w _ g3)).trans g3
      subst hAd
      have HB := Aside0.mk hb
      have HXG := Aside0.mk hG
      have HR9 := Aside0.mk (blk_lt hR)
      have HXR := Aside0.mk (blk_alloc hR (.cells #[.int .i64 a.f0, .string a.f1, .int .i64 a.f2, .int .i64 a.f3] 56))
      have HXA := Aside0.mk (blk_new wr (.cells #[.int .i64 a.f0, .string a.f1, .int .i64 a.f2, .int .i64 a.f3] 56))
      have HW := Aside0.mk ((Below.refl wr.heap.size wr).alloc (Nat.le_refl _) (.cells #[.int .i64 a.f0, .string a.f1, .int .i64 a.f2, .int .i64 a.f3] 56))
      have HEV := Aside0.mk hev
      have HRV := Aside0.mk hRV
      have HSN := Aside0.mk hsn
      have HLT := Aside0.mk hlt
      have H40 := Aside0.mk h40
      have x0 := (blk_cell HXA.out 0).trans (by rfl : _ = some (.int .i64 a.f0))
      have x1 := (blk_cell HXA.out 1).trans (by rfl : _ = some (.string a.f1))
      have x2 := (blk_cell HXA.out 2).trans (by rfl : _ = some (.int .i64 a.f2))
      have x3 := (blk_cell HXA.out 3).trans (by rfl : _ = some (.int .i64 a.f3))
      have y0 := (blk_cell HXR.out 0).trans (by rfl : _ = some (.int .i64 (refE e).f0))
      have y1 := (blk_cell HXR.out 1).trans (by rfl : _ = some (.int .i64 (refE e).f1))
      have y2 := (blk_cell HXR.out 2).trans (by rfl : _ = some (.string (refE e).f2))
      have y3 := (blk_cell HXR.out 3).trans (by rfl : _ = some (.int .i64 (refE e).f3))
      have y4 := (blk_cell HXR.out 4).trans (by rfl : _ = some (.slice As (refE e).f4.length cs))
      have hor := ev_cases hev
      clear hb hG hR hev hRV hsn hme
      by_cases h0 : a.f0 = 0
      · have e0 : (a.f0 == 0) = true := beq_iff_eq.2 h0
        have HST := Aside0.mk (show freshE a.f3 = stepE e a from by unfold stepE; rw [if_pos h0])
        clear h0
        rcases hor with rfl | ⟨t, x, rfl⟩
        all_goals
          go_wp2_with (first | (go_at_call 14; refine (new_calls a.f3 _).mono ?_; rintro ev w3 ⟨⟨v3, rfl, hv3⟩, hb⟩; (have HN := Aside0.mk (show EV w3 (stepE e a) v3 from HST.out ▸ hv3)); (have m0_ := Aside0.mk (blk_below HXA.out hb)); (have m1_ := Aside0.mk (blk_below HXR.out hb)); (have m2_ := Aside0.mk (HW.out.trans (hb.mono HW.out.size))); clear HXA HXR HW; (have HXA := m0_); (have HXR := m1_); (have HW := m2_); clear m0_ m1_ m2_; (have x0 := (blk_cell HXA.out 0).trans (by rfl : _ = some (.int .i64 a.f0))); (have x1 := (blk_cell HXA.out 1).trans (by rfl : _ = some (.string a.f1))); (have x2 := (blk_cell HXA.out 2).trans (by rfl : _ = some (.int .i64 a.f2))); (have x3 := (blk_cell HXA.out 3).trans (by rfl : _ = some (.int .i64 a.f3))); (have y0 := (blk_cell HXR.out 0).trans (by rfl : _ = some (.int .i64 (refE e).f0))); (have y1 := (blk_cell HXR.out 1).trans (by rfl : _ = some (.int .i64 (refE e).f1))); (have y2 := (blk_cell HXR.out 2).trans (by rfl : _ = some (.string (refE e).f2))); (have y3 := (blk_cell HXR.out 3).trans (by rfl : _ = some (.int .i64 (refE e).f3))); (have y4 := (blk_cell HXR.out 4).trans (by rfl : _ = some (.slice As (refE e).f4.length cs))); clear hb hv3) | (go_at_call 22; refine (do_rcalls (fun W => ∀ j, w.heap.size + 2 ≤ j → j < wr.heap.size → W.heap[j]? = wr.heap[j]?) e a (.slice As (refE e).f4.length cs) _ (HRV.out _ (fun j _ hj => HW.out.block j hj)) HRV.out).mono ?_; rintro ev w6 ⟨⟨sv6, rfl, ⟨A6, c6, rfl⟩, hv6⟩, hb⟩; (have HV6 := Aside0.mk hv6); (have HS6 := Aside0.mk HW.out.size); (have HN6 := Aside0.mk (HN.out.on hb)); (have HXR6 := Aside0.mk (blk_below HXR.out hb)); (have HW6 := Aside0.mk (HW.out.trans (hb.mono HW.out.size))); (have y0 := (blk_cell HXR6.out 0).trans (by rfl : _ = some (.int .i64 (refE e).f0))); (have y1 := (blk_cell HXR6.out 1).trans (by rfl : _ = some (.int .i64 (refE e).f1))); (have y2 := (blk_cell HXR6.out 2).trans (by rfl : _ = some (.string (refE e).f2))); (have y3 := (blk_cell HXR6.out 3).trans (by rfl : _ = some (.int .i64 (refE e).f3))); (have y4 := (blk_cell HXR6.out 4).trans (by rfl : _ = some (.slice As (refE e).f4.length cs))); (have z0 := blk_frozen HXR6.out 0); (have z1 := blk_frozen HXR6.out 1); (have z2 := blk_frozen HXR6.out 2); (have z3 := blk_frozen HXR6.out 3); (have z4 := blk_frozen HXR6.out 4); clear hb hv6))
          go_roundw
          case rel => exact made_rel HLT.out H40.out HSN.out HS6.out HR9.out HB.out HW6.out HXG.out HXR6.out HN6.out HV6.out
          case measure => have := HLT.out; simp [intOf]; omega
      have e0 : (a.f0 == 0) = false := beq_eq_false_iff_ne.2 h0
      by_cases h1 : a.f0 = 1
      · have e1 : (a.f0 == 1) = true := beq_iff_eq.2 h1
        have HST := Aside0.mk (show inE a.f1 a.f2 e = stepE e a from by unfold stepE; rw [if_neg h0, if_pos h1])
        clear h0 h1
        rcases hor with rfl | ⟨t, x, rfl⟩
        all_goals
          go_wp2_with (first | (go_at_call 12; refine (in_calls a.f1 a.f2 e _ _ (HEV.out.on HW.out)).mono ?_; rintro ev w4 ⟨⟨v4, rfl, hv4⟩, hb⟩; (have HN := Aside0.mk (show EV w4 (stepE e a) v4 from HST.out ▸ hv4)); (have m0_ := Aside0.mk (blk_below HXA.out hb)); (have m1_ := Aside0.mk (blk_below HXR.out hb)); (have m2_ := Aside0.mk (HW.out.trans (hb.mono HW.out.size))); clear HXA HXR HW; (have HXA := m0_); (have HXR := m1_); (have HW := m2_); clear m0_ m1_ m2_; (have x0 := (blk_cell HXA.out 0).trans (by rfl : _ = some (.int .i64 a.f0))); (have x1 := (blk_cell HXA.out 1).trans (by rfl : _ = some (.string a.f1))); (have x2 := (blk_cell HXA.out 2).trans (by rfl : _ = some (.int .i64 a.f2))); (have x3 := (blk_cell HXA.out 3).trans (by rfl : _ = some (.int .i64 a.f3))); (have y0 := (blk_cell HXR.out 0).trans (by rfl : _ = some (.int .i64 (refE e).f0))); (have y1 := (blk_cell HXR.out 1).trans (by rfl : _ = some (.int .i64 (refE e).f1))); (have y2 := (blk_cell HXR.out 2).trans (by rfl : _ = some (.string (refE e).f2))); (have y3 := (blk_cell HXR.out 3).trans (by rfl : _ = some (.int .i64 (refE e).f3))); (have y4 := (blk_cell HXR.out 4).trans (by rfl : _ = some (.slice As (refE e).f4.length cs))); clear hb hv4) | (go_at_call 22; refine (do_rcalls (fun W => ∀ j, w.heap.size + 2 ≤ j → j < wr.heap.size → W.heap[j]? = wr.heap[j]?) e a (.slice As (refE e).f4.length cs) _ (HRV.out _ (fun j _ hj => HW.out.block j hj)) HRV.out).mono ?_; rintro ev w6 ⟨⟨sv6, rfl, ⟨A6, c6, rfl⟩, hv6⟩, hb⟩; (have HV6 := Aside0.mk hv6); (have HS6 := Aside0.mk HW.out.size); (have HN6 := Aside0.mk (HN.out.on hb)); (have HXR6 := Aside0.mk (blk_below HXR.out hb)); (have HW6 := Aside0.mk (HW.out.trans (hb.mono HW.out.size))); (have y0 := (blk_cell HXR6.out 0).trans (by rfl : _ = some (.int .i64 (refE e).f0))); (have y1 := (blk_cell HXR6.out 1).trans (by rfl : _ = some (.int .i64 (refE e).f1))); (have y2 := (blk_cell HXR6.out 2).trans (by rfl : _ = some (.string (refE e).f2))); (have y3 := (blk_cell HXR6.out 3).trans (by rfl : _ = some (.int .i64 (refE e).f3))); (have y4 := (blk_cell HXR6.out 4).trans (by rfl : _ = some (.slice As (refE e).f4.length cs))); (have z0 := blk_frozen HXR6.out 0); (have z1 := blk_frozen HXR6.out 1); (have z2 := blk_frozen HXR6.out 2); (have z3 := blk_frozen HXR6.out 3); (have z4 := blk_frozen HXR6.out 4); clear hb hv6))
          go_roundw
          case rel => exact made_rel HLT.out H40.out HSN.out HS6.out HR9.out HB.out HW6.out HXG.out HXR6.out HN6.out HV6.out
          case measure => have := HLT.out; simp [intOf]; omega
      have e1 : (a.f0 == 1) = false := beq_eq_false_iff_ne.2 h1
      by_cases h2 : a.f0 = 2
      · have e2 : (a.f0 == 2) = true := beq_iff_eq.2 h2
        have HST := Aside0.mk (show bothE e (freshE a.f3) = stepE e a from by unfold stepE; rw [if_neg h0, if_neg h1, if_pos h2])
        clear h0 h1 h2
        rcases hor with rfl | ⟨t, x, rfl⟩
        all_goals
          go_wp2_with (first | (go_at_call 14; refine (new_calls a.f3 _).mono ?_; rintro ev w3 ⟨⟨v3, rfl, hv3⟩, hb⟩; (have HF := Aside0.mk (show EV w3 (freshE a.f3) v3 from hv3)); (have m0_ := Aside0.mk (blk_below HXA.out hb)); (have m1_ := Aside0.mk (blk_below HXR.out hb)); (have m2_ := Aside0.mk (HW.out.trans (hb.mono HW.out.size))); clear HXA HXR HW; (have HXA := m0_); (have HXR := m1_); (have HW := m2_); clear m0_ m1_ m2_; (have x0 := (blk_cell HXA.out 0).trans (by rfl : _ = some (.int .i64 a.f0))); (have x1 := (blk_cell HXA.out 1).trans (by rfl : _ = some (.string a.f1))); (have x2 := (blk_cell HXA.out 2).trans (by rfl : _ = some (.int .i64 a.f2))); (have x3 := (blk_cell HXA.out 3).trans (by rfl : _ = some (.int .i64 a.f3))); (have y0 := (blk_cell HXR.out 0).trans (by rfl : _ = some (.int .i64 (refE e).f0))); (have y1 := (blk_cell HXR.out 1).trans (by rfl : _ = some (.int .i64 (refE e).f1))); (have y2 := (blk_cell HXR.out 2).trans (by rfl : _ = some (.string (refE e).f2))); (have y3 := (blk_cell HXR.out 3).trans (by rfl : _ = some (.int .i64 (refE e).f3))); (have y4 := (blk_cell HXR.out 4).trans (by rfl : _ = some (.slice As (refE e).f4.length cs))); clear hb hv3) | (go_at_call 13; refine (both_calls e (freshE a.f3) _ v3 _ (HEV.out.on HW.out) HF.out).mono ?_; rintro ev w4 ⟨⟨v4, rfl, hv4⟩, hb⟩; (have HN := Aside0.mk (show EV w4 (stepE e a) v4 from HST.out ▸ hv4)); (have m0_ := Aside0.mk (blk_below HXA.out hb)); (have m1_ := Aside0.mk (blk_below HXR.out hb)); (have m2_ := Aside0.mk (HW.out.trans (hb.mono HW.out.size))); clear HXA HXR HW; (have HXA := m0_); (have HXR := m1_); (have HW := m2_); clear m0_ m1_ m2_; (have x0 := (blk_cell HXA.out 0).trans (by rfl : _ = some (.int .i64 a.f0))); (have x1 := (blk_cell HXA.out 1).trans (by rfl : _ = some (.string a.f1))); (have x2 := (blk_cell HXA.out 2).trans (by rfl : _ = some (.int .i64 a.f2))); (have x3 := (blk_cell HXA.out 3).trans (by rfl : _ = some (.int .i64 a.f3))); (have y0 := (blk_cell HXR.out 0).trans (by rfl : _ = some (.int .i64 (refE e).f0))); (have y1 := (blk_cell HXR.out 1).trans (by rfl : _ = some (.int .i64 (refE e).f1))); (have y2 := (blk_cell HXR.out 2).trans (by rfl : _ = some (.string (refE e).f2))); (have y3 := (blk_cell HXR.out 3).trans (by rfl : _ = some (.int .i64 (refE e).f3))); (have y4 := (blk_cell HXR.out 4).trans (by rfl : _ = some (.slice As (refE e).f4.length cs))); clear hb hv4) | (go_at_call 22; refine (do_rcalls (fun W => ∀ j, w.heap.size + 2 ≤ j → j < wr.heap.size → W.heap[j]? = wr.heap[j]?) e a (.slice As (refE e).f4.length cs) _ (HRV.out _ (fun j _ hj => HW.out.block j hj)) HRV.out).mono ?_; rintro ev w6 ⟨⟨sv6, rfl, ⟨A6, c6, rfl⟩, hv6⟩, hb⟩; (have HV6 := Aside0.mk hv6); (have HS6 := Aside0.mk HW.out.size); (have HN6 := Aside0.mk (HN.out.on hb)); (have HXR6 := Aside0.mk (blk_below HXR.out hb)); (have HW6 := Aside0.mk (HW.out.trans (hb.mono HW.out.size))); (have y0 := (blk_cell HXR6.out 0).trans (by rfl : _ = some (.int .i64 (refE e).f0))); (have y1 := (blk_cell HXR6.out 1).trans (by rfl : _ = some (.int .i64 (refE e).f1))); (have y2 := (blk_cell HXR6.out 2).trans (by rfl : _ = some (.string (refE e).f2))); (have y3 := (blk_cell HXR6.out 3).trans (by rfl : _ = some (.int .i64 (refE e).f3))); (have y4 := (blk_cell HXR6.out 4).trans (by rfl : _ = some (.slice As (refE e).f4.length cs))); (have z0 := blk_frozen HXR6.out 0); (have z1 := blk_frozen HXR6.out 1); (have z2 := blk_frozen HXR6.out 2); (have z3 := blk_frozen HXR6.out 3); (have z4 := blk_frozen HXR6.out 4); clear hb hv6))
          go_roundw
          case rel => exact made_rel HLT.out H40.out HSN.out HS6.out HR9.out HB.out HW6.out HXG.out HXR6.out HN6.out HV6.out
          case measure => have := HLT.out; simp [intOf]; omega
      have e2 : (a.f0 == 2) = false := beq_eq_false_iff_ne.2 h2
      by_cases h3 : a.f0 = 3
      · have e3 : (a.f0 == 3) = true := beq_iff_eq.2 h3
        have HST := Aside0.mk (show bothE (freshE a.f3) e = stepE e a from by unfold stepE; rw [if_neg h0, if_neg h1, if_neg h2, if_pos h3])
        clear h0 h1 h2 h3
        rcases hor with rfl | ⟨t, x, rfl⟩
        all_goals
          go_wp2_with (first | (go_at_call 14; refine (new_calls a.f3 _).mono ?_; rintro ev w3 ⟨⟨v3, rfl, hv3⟩, hb⟩; (have HF := Aside0.mk (show EV w3 (freshE a.f3) v3 from hv3)); (have m0_ := Aside0.mk (blk_below HXA.out hb)); (have m1_ := Aside0.mk (blk_below HXR.out hb)); (have m2_ := Aside0.mk (HW.out.trans (hb.mono HW.out.size))); clear HXA HXR HW; (have HXA := m0_); (have HXR := m1_); (have HW := m2_); clear m0_ m1_ m2_; (have x0 := (blk_cell HXA.out 0).trans (by rfl : _ = some (.int .i64 a.f0))); (have x1 := (blk_cell HXA.out 1).trans (by rfl : _ = some (.string a.f1))); (have x2 := (blk_cell HXA.out 2).trans (by rfl : _ = some (.int .i64 a.f2))); (have x3 := (blk_cell HXA.out 3).trans (by rfl : _ = some (.int .i64 a.f3))); (have y0 := (blk_cell HXR.out 0).trans (by rfl : _ = some (.int .i64 (refE e).f0))); (have y1 := (blk_cell HXR.out 1).trans (by rfl : _ = some (.int .i64 (refE e).f1))); (have y2 := (blk_cell HXR.out 2).trans (by rfl : _ = some (.string (refE e).f2))); (have y3 := (blk_cell HXR.out 3).trans (by rfl : _ = some (.int .i64 (refE e).f3))); (have y4 := (blk_cell HXR.out 4).trans (by rfl : _ = some (.slice As (refE e).f4.length cs))); clear hb hv3) | (go_at_call 13; refine (both_calls (freshE a.f3) e v3 _ _ HF.out (HEV.out.on HW.out)).mono ?_; rintro ev w4 ⟨⟨v4, rfl, hv4⟩, hb⟩; (have HN := Aside0.mk (show EV w4 (stepE e a) v4 from HST.out ▸ hv4)); (have m0_ := Aside0.mk (blk_below HXA.out hb)); (have m1_ := Aside0.mk (blk_below HXR.out hb)); (have m2_ := Aside0.mk (HW.out.trans (hb.mono HW.out.size))); clear HXA HXR HW; (have HXA := m0_); (have HXR := m1_); (have HW := m2_); clear m0_ m1_ m2_; (have x0 := (blk_cell HXA.out 0).trans (by rfl : _ = some (.int .i64 a.f0))); (have x1 := (blk_cell HXA.out 1).trans (by rfl : _ = some (.string a.f1))); (have x2 := (blk_cell HXA.out 2).trans (by rfl : _ = some (.int .i64 a.f2))); (have x3 := (blk_cell HXA.out 3).trans (by rfl : _ = some (.int .i64 a.f3))); (have y0 := (blk_cell HXR.out 0).trans (by rfl : _ = some (.int .i64 (refE e).f0))); (have y1 := (blk_cell HXR.out 1).trans (by rfl : _ = some (.int .i64 (refE e).f1))); (have y2 := (blk_cell HXR.out 2).trans (by rfl : _ = some (.string (refE e).f2))); (have y3 := (blk_cell HXR.out 3).trans (by rfl : _ = some (.int .i64 (refE e).f3))); (have y4 := (blk_cell HXR.out 4).trans (by rfl : _ = some (.slice As (refE e).f4.length cs))); clear hb hv4) | (go_at_call 22; refine (do_rcalls (fun W => ∀ j, w.heap.size + 2 ≤ j → j < wr.heap.size → W.heap[j]? = wr.heap[j]?) e a (.slice As (refE e).f4.length cs) _ (HRV.out _ (fun j _ hj => HW.out.block j hj)) HRV.out).mono ?_; rintro ev w6 ⟨⟨sv6, rfl, ⟨A6, c6, rfl⟩, hv6⟩, hb⟩; (have HV6 := Aside0.mk hv6); (have HS6 := Aside0.mk HW.out.size); (have HN6 := Aside0.mk (HN.out.on hb)); (have HXR6 := Aside0.mk (blk_below HXR.out hb)); (have HW6 := Aside0.mk (HW.out.trans (hb.mono HW.out.size))); (have y0 := (blk_cell HXR6.out 0).trans (by rfl : _ = some (.int .i64 (refE e).f0))); (have y1 := (blk_cell HXR6.out 1).trans (by rfl : _ = some (.int .i64 (refE e).f1))); (have y2 := (blk_cell HXR6.out 2).trans (by rfl : _ = some (.string (refE e).f2))); (have y3 := (blk_cell HXR6.out 3).trans (by rfl : _ = some (.int .i64 (refE e).f3))); (have y4 := (blk_cell HXR6.out 4).trans (by rfl : _ = some (.slice As (refE e).f4.length cs))); (have z0 := blk_frozen HXR6.out 0); (have z1 := blk_frozen HXR6.out 1); (have z2 := blk_frozen HXR6.out 2); (have z3 := blk_frozen HXR6.out 3); (have z4 := blk_frozen HXR6.out 4); clear hb hv6))
          go_roundw
          case rel => exact made_rel HLT.out H40.out HSN.out HS6.out HR9.out HB.out HW6.out HXG.out HXR6.out HN6.out HV6.out
          case measure => have := HLT.out; simp [intOf]; omega
      have e3 : (a.f0 == 3) = false := beq_eq_false_iff_ne.2 h3
      have HST := Aside0.mk (show e = stepE e a from by unfold stepE; rw [if_neg h0, if_neg h1, if_neg h2, if_neg h3])
      clear h0 h1 h2 h3
      rcases hor with rfl | ⟨t, x, rfl⟩
      all_goals
        have HN := Aside0.mk (show EV (wr.alloc (.cells #[.int .i64 a.f0, .string a.f1, .int .i64 a.f2, .int .i64 a.f3] 56)) (stepE e a) _ from HST.out ▸ HEV.out.on HW.out)
        go_wp2_with (first | (go_at_call 22; refine (do_rcalls (fun W => ∀ j, w.heap.size + 2 ≤ j → j < wr.heap.size → W.heap[j]? = wr.heap[j]?) e a (.slice As (refE e).f4.length cs) _ (HRV.out _ (fun j _ hj => HW.out.block j hj)) HRV.out).mono ?_; rintro ev w6 ⟨⟨sv6, rfl, ⟨A6, c6, rfl⟩, hv6⟩, hb⟩; (have HV6 := Aside0.mk hv6); (have HS6 := Aside0.mk HW.out.size); (have HN6 := Aside0.mk (HN.out.on hb)); (have HXR6 := Aside0.mk (blk_below HXR.out hb)); (have HW6 := Aside0.mk (HW.out.trans (hb.mono HW.out.size))); (have y0 := (blk_cell HXR6.out 0).trans (by rfl : _ = some (.int .i64 (refE e).f0))); (have y1 := (blk_cell HXR6.out 1).trans (by rfl : _ = some (.int .i64 (refE e).f1))); (have y2 := (blk_cell HXR6.out 2).trans (by rfl : _ = some (.string (refE e).f2))); (have y3 := (blk_cell HXR6.out 3).trans (by rfl : _ = some (.int .i64 (refE e).f3))); (have y4 := (blk_cell HXR6.out 4).trans (by rfl : _ = some (.slice As (refE e).f4.length cs))); (have z0 := blk_frozen HXR6.out 0); (have z1 := blk_frozen HXR6.out 1); (have z2 := blk_frozen HXR6.out 2); (have z3 := blk_frozen HXR6.out 3); (have z4 := blk_frozen HXR6.out 4); clear hb hv6))
        go_roundw
        case rel => exact made_rel HLT.out H40.out HSN.out HS6.out HR9.out HB.out HW6.out HXG.out HXR6.out HN6.out HV6.out
        case measure => have := HLT.out; simp [intOf]; omega
    · have hge : k = l.length ∨ k = 40 := by omega
      have htk : madeE (l.take k) = madeE (l.take 40) := by
        rcases hge with rfl | rfl
        · rw [List.take_length, List.take_of_length_le (by omega)]
        · rfl
      generalize hme : madeE (l.take k) = e at *
      have HTK := Aside0.mk htk
      have HB := Aside0.mk hb
      have HW := Aside0.mk (below_drew1 (Below.refl wr.heap.size wr))
      have HXG := Aside0.mk (blk_drew hG)
      have HXR := Aside0.mk (blk_drew hR)
      have HEV := Aside0.mk hev
      have HRV := Aside0.mk hRV
      clear hb hG hR hev hRV htk hge hme
      by_cases hlt : k < l.length
      · obtain rfl : k = 40 := by omega
        go_wp2
        refine start_ (n := 4) (S := fun w' => w'.cell? ⟨w.heap.size + 1, 0, none⟩ = some (.int .i64 (refE e).f0) ∧ w'.cell? ⟨w.heap.size + 1, 1, none⟩ = some (.int .i64 (refE e).f1) ∧ w'.cell? ⟨w.heap.size + 1, 2, none⟩ = some (.string (refE e).f2) ∧ w'.cell? ⟨w.heap.size + 1, 3, none⟩ = some (.int .i64 (refE e).f3) ∧ w'.cell? ⟨w.heap.size + 1, 4, none⟩ = some (.slice As (refE e).f4.length cs)) (ds := [3]) #[false, false, false, false] (by kernel_rfl) rfl rfl ⟨(blk_cell HXR.out 0).trans rfl, (blk_cell HXR.out 1).trans rfl, (blk_cell HXR.out 2).trans rfl, (blk_cell HXR.out 3).trans rfl, (blk_cell HXR.out 4).trans rfl⟩ (fun hHeld => ?_)
        generalize wr.drew = wA at HXR HXG HW hHeld ⊢
        refine pure_ (i := 0) (N := some 54) (v := ?_) (a' := ?_) #[true, false, false, false] rfl rfl (by kernel_rfl) (fun _ _ _ h => h) (Or.inl ⟨by rfl, ?_⟩) ?_ ?_
        rotate_left
        · intro w'
          go_simp
          with_reducible rfl
        rotate_left
        · simp only [Act.put, List.setIfInBounds_toArray, List.set_cons_zero, List.set_cons_succ, i64_w, i32_w]
          rfl
        refine take_ (i := 1) (N := some 55) (v := ?_) (a' := ?_) #[true, true, false, false] rfl rfl (by kernel_rfl) (fun _ _ _ h => h) (Or.inl ⟨by rfl, ?_⟩) hHeld ?_ ?_
        rotate_left
        · rintro w' ⟨s0, s1, s2, s3, s4⟩
          go_simp
          with_reducible rfl
        rotate_left
        · simp only [Act.put, List.setIfInBounds_toArray, List.set_cons_zero, List.set_cons_succ, i64_w, i32_w]
          rfl
        refine pure_ (i := 2) (N := some 2) (v := ?_) (a' := ?_) #[true, true, true, false] rfl rfl (by kernel_rfl) (fun _ _ _ h => h) (Or.inl ⟨by rfl, ?_⟩) ?_ ?_
        rotate_left
        · intro w'
          go_simp
          with_reducible rfl
        rotate_left
        · simp only [Act.put, List.setIfInBounds_toArray, List.set_cons_zero, List.set_cons_succ, i64_w, i32_w]
          rfl
        have r0 := (blk_cell HXG.out 0).trans (by rfl : _ = some (.int .i64 0))
        have q0 := blk_frozen HXG.out 0
        have r1 := (blk_cell HXG.out 1).trans (by rfl : _ = some (.int .i64 0))
        have q1 := blk_frozen HXG.out 1
        have r2 := (blk_cell HXG.out 2).trans (by rfl : _ = some (.string ⟨#[]⟩))
        have q2 := blk_frozen HXG.out 2
        have r3 := (blk_cell HXG.out 3).trans (by rfl : _ = some (.int .i64 0))
        have q3 := blk_frozen HXG.out 3
        have r4 := (blk_cell HXG.out 4).trans (by rfl : _ = some (.slice none 0 0))
        have q4 := blk_frozen HXG.out 4
        refine last_ (i := 3) (N := none) #[true, true, true, true] rfl rfl (by kernel_rfl) (by decide) (fun K hK => ?_)
        refine skip_ (w1 := set5 wA (w.heap.size) (.int .i64 (refE e).f0) (.int .i64 (refE e).f1) (.string (refE e).f2) (.int .i64 (refE e).f3) (.slice As (refE e).f4.length cs)) (by rfl) rfl ?_ ?_
        · go_simp
          rfl
        refine hK.out _ _ ?_
        refine done_ (by kernel_rfl) ?_
        go_wp2
        refine bodyPost_ret (results_tc rfl _ _ (w.heap.size) 29 #[.int .i64 (refE e).f0, .int .i64 (refE e).f1, .string (refE e).f2, .int .i64 (refE e).f3, .slice As (refE e).f4.length cs] (0, 0) _ rfl (put5 HXG.out _ _ _ _ _) Tryd.underlying29 rfl (by kernel_rfl)) rfl ?_
        rw [← HTK.out]
        refine ⟨⟨_, .slice As (refE e).f4.length cs, rfl, EV.set HXG.out _ _ _ _ _ _ (HEV.out.on HW.out), HRV.out _ (fun j hj hj2 => (set5_other (by omega) _ _ _ _ _).trans (HW.out.block j hj2)), As, cs, rfl⟩, set5_below (HB.out.trans (HW.out.mono HB.out.size)) (Nat.le_refl _) _ _ _ _ _⟩
      · have hng : ¬ ((k : Int) < (l.length : Int)) := by omega
        go_wp2
        refine start_ (n := 4) (S := fun w' => w'.cell? ⟨w.heap.size + 1, 0, none⟩ = some (.int .i64 (refE e).f0) ∧ w'.cell? ⟨w.heap.size + 1, 1, none⟩ = some (.int .i64 (refE e).f1) ∧ w'.cell? ⟨w.heap.size + 1, 2, none⟩ = some (.string (refE e).f2) ∧ w'.cell? ⟨w.heap.size + 1, 3, none⟩ = some (.int .i64 (refE e).f3) ∧ w'.cell? ⟨w.heap.size + 1, 4, none⟩ = some (.slice As (refE e).f4.length cs)) (ds := [3]) #[false, false, false, false] (by kernel_rfl) rfl rfl ⟨(blk_cell HXR.out 0).trans rfl, (blk_cell HXR.out 1).trans rfl, (blk_cell HXR.out 2).trans rfl, (blk_cell HXR.out 3).trans rfl, (blk_cell HXR.out 4).trans rfl⟩ (fun hHeld => ?_)
        generalize wr.drew = wA at HXR HXG HW hHeld ⊢
        refine pure_ (i := 0) (N := some 54) (v := ?_) (a' := ?_) #[true, false, false, false] rfl rfl (by kernel_rfl) (fun _ _ _ h => h) (Or.inl ⟨by rfl, ?_⟩) ?_ ?_
        rotate_left
        · intro w'
          go_simp
          with_reducible rfl
        rotate_left
        · simp only [Act.put, List.setIfInBounds_toArray, List.set_cons_zero, List.set_cons_succ, i64_w, i32_w]
          rfl
        refine take_ (i := 1) (N := some 55) (v := ?_) (a' := ?_) #[true, true, false, false] rfl rfl (by kernel_rfl) (fun _ _ _ h => h) (Or.inl ⟨by rfl, ?_⟩) hHeld ?_ ?_
        rotate_left
        · rintro w' ⟨s0, s1, s2, s3, s4⟩
          go_simp
          with_reducible rfl
        rotate_left
        · simp only [Act.put, List.setIfInBounds_toArray, List.set_cons_zero, List.set_cons_succ, i64_w, i32_w]
          rfl
        refine pure_ (i := 2) (N := some 2) (v := ?_) (a' := ?_) #[true, true, true, false] rfl rfl (by kernel_rfl) (fun _ _ _ h => h) (Or.inl ⟨by rfl, ?_⟩) ?_ ?_
        rotate_left
        · intro w'
          go_simp
          with_reducible rfl
        rotate_left
        · simp only [Act.put, List.setIfInBounds_toArray, List.set_cons_zero, List.set_cons_succ, i64_w, i32_w]
          rfl
        have r0 := (blk_cell HXG.out 0).trans (by rfl : _ = some (.int .i64 0))
        have q0 := blk_frozen HXG.out 0
        have r1 := (blk_cell HXG.out 1).trans (by rfl : _ = some (.int .i64 0))
        have q1 := blk_frozen HXG.out 1
        have r2 := (blk_cell HXG.out 2).trans (by rfl : _ = some (.string ⟨#[]⟩))
        have q2 := blk_frozen HXG.out 2
        have r3 := (blk_cell HXG.out 3).trans (by rfl : _ = some (.int .i64 0))
        have q3 := blk_frozen HXG.out 3
        have r4 := (blk_cell HXG.out 4).trans (by rfl : _ = some (.slice none 0 0))
        have q4 := blk_frozen HXG.out 4
        refine last_ (i := 3) (N := none) #[true, true, true, true] rfl rfl (by kernel_rfl) (by decide) (fun K hK => ?_)
        refine skip_ (w1 := set5 wA (w.heap.size) (.int .i64 (refE e).f0) (.int .i64 (refE e).f1) (.string (refE e).f2) (.int .i64 (refE e).f3) (.slice As (refE e).f4.length cs)) (by rfl) rfl ?_ ?_
        · go_simp
          rfl
        refine hK.out _ _ ?_
        refine done_ (by kernel_rfl) ?_
        go_wp2
        refine bodyPost_ret (results_tc rfl _ _ (w.heap.size) 29 #[.int .i64 (refE e).f0, .int .i64 (refE e).f1, .string (refE e).f2, .int .i64 (refE e).f3, .slice As (refE e).f4.length cs] (0, 0) _ rfl (put5 HXG.out _ _ _ _ _) Tryd.underlying29 rfl (by kernel_rfl)) rfl ?_
        rw [← HTK.out]
        refine ⟨⟨_, .slice As (refE e).f4.length cs, rfl, EV.set HXG.out _ _ _ _ _ _ (HEV.out.on HW.out), HRV.out _ (fun j hj hj2 => (set5_other (by omega) _ _ _ _ _).trans (HW.out.block j hj2)), As, cs, rfl⟩, set5_below (HB.out.trans (HW.out.mono HB.out.size)) (Nat.le_refl _) _ _ _ _ _⟩
end Go.Proofs.YtcklemjmenifpaaDoor.Fn
