/- The page's example: expr.Text at (add off 5), by its walk. -/
import Derived.Test.YtaebjcldopoccaaDoorEnQuote
import Derived.Test.YtaebjcldopoccaaDoorEnx1
import Derived.Handy
set_option linter.unusedVariables false
set_option linter.unusedSimpArgs false
namespace Go.Proofs.YtaebjcldopoccaaDoor.En
open Go.RowKit Go.Shelf Go.Proofs.YtaebjcldopoccaaDoorW.PrintWords

theorem show_small (i : Nat) (hi : i < 100) (t : ByteArray) (w : World) :
    Calls Tryd.prog 36 #[.agg #[.int .u8 0, .int .i64 i, .string t]] w fun e w' => e = .returned (.string ⟨(Lib.decDigits i).toArray⟩) ∧ Below w.heap.size w w' := by
  have HB := Aside0.mk (show Below w.heap.size w (w.alloc (.cells #[.int .u8 0, .int .i64 i, .string t] 32)) from (Below.refl _ w).alloc (Nat.le_refl _) _)
  go_enter Tryd.func36, Tryd.ntmps36
  go_wp2_with (go_at_call 44; refine (Tryd.strconv_Itoa_small i hi _).mono ?_; rintro e w1 ⟨rfl, rfl⟩)
  go_ret
  exact ⟨rfl, HB.out⟩
theorem text_five (w : World) :
    Calls Tryd.prog 17 #[.agg #[.int .i64 0, .int .u8 0, .int .i64 5, .string ⟨#[]⟩, .slice none 0 0]] w fun e w' => e = .returned (.string ⟨#[53]⟩) ∧ Below w.heap.size w w' := by
  have HB := Aside0.mk (show Below w.heap.size w (w.alloc (.cells #[.int .i64 0, .int .u8 0, .int .i64 5, .string ⟨#[]⟩, .slice none 0 0] 35)) from (Below.refl _ w).alloc (Nat.le_refl _) _)
  go_enter Tryd.func17, Tryd.ntmps17
  go_wp2_with (go_at_call 36; refine (show_small 5 (by decide) _ _).mono ?_; rintro e w1 ⟨rfl, hb⟩; have HB1 := Aside0.mk (HB.out.trans (hb.mono HB.out.size)); clear hb)
  go_ret
  refine ⟨?_, HB1.out⟩
  have h5 : Lib.decDigits 5 = [53] := by decide +kernel
  rw [h5]
  rfl
theorem name_at (op : Int) (s : ByteArray) (h : expr_Name.f op = some s) (w : World) : Calls Tryd.prog 9 #[.int .i64 op] w fun e w' => e = .returned (.string s) ∧ Below w.heap.size w w' := expr_Name.calls op s w h
theorem text_off (w : World) :
    Calls Tryd.prog 17 #[.agg #[.int .i64 2, .int .u8 0, .int .i64 0, .string ⟨#[]⟩, .slice none 0 0]] w fun e w' => e = .returned (.string ⟨#[111, 102, 102]⟩) ∧ Below w.heap.size w w' := by
  have HB := Aside0.mk (show Below w.heap.size w (w.alloc (.cells #[.int .i64 2, .int .u8 0, .int .i64 0, .string ⟨#[]⟩, .slice none 0 0] 35)) from (Below.refl _ w).alloc (Nat.le_refl _) _)
  go_enter Tryd.func17, Tryd.ntmps17
  go_wp2_with (go_at_call 9; refine (name_at 2 ⟨#[111, 102, 102]⟩ rfl _).mono ?_; rintro e w1 ⟨rfl, hb⟩; have HB1 := Aside0.mk (HB.out.trans (hb.mono HB.out.size)); clear hb)
  go_ret
  exact ⟨rfl, HB1.out⟩
def rowS (n : Nat) : List Value := (([⟨#[97, 100, 100]⟩, ⟨#[111, 102, 102]⟩, ⟨#[53]⟩] : List ByteArray).take n).map Value.string
theorem own_made (W : World) (B : Nat) (hB : B ≤ W.heap.size) : (W.alloc (.cells #[.string ⟨#[97, 100, 100]⟩] 9)).ownsRow B 9 1 (.slice (some ⟨W.heap.size, 0, none⟩) 1 1) 1 (rowS 1) := by
  refine ⟨rfl, .inr ⟨W.heap.size, 1, #[.string ⟨#[97, 100, 100]⟩], rfl, hB, World.alloc_heap_new W _, Nat.le_refl _, by unfold maxLen; omega, rfl, rfl⟩⟩
theorem own_bel {W W' : World} {B e size n : Nat} {v : Value} {xs : List Value} (h : W.ownsRow B e size v n xs) (hb : Below W.heap.size W W') : W'.ownsRow B e size v n xs := by
  obtain ⟨h1, h2⟩ := h
  refine ⟨h1, ?_⟩
  rcases h2 with h2 | ⟨g, cap, cur, h3, h4, h5, h6⟩
  · exact .inl h2
  · exact .inr ⟨g, cap, cur, h3, h4, (hb.block g (Array.getElem?_eq_some_iff.1 h5).1).trans h5, h6⟩
theorem below_grow {w wr w2 w3 : World} {o : Obj} {v : Value} {n e size : Nat} {xs : List Value} (h : Below w.heap.size w wr) (h2 : Below wr.heap.size wr w2) (hg : (w2.alloc o).grownBy w3 v.ownBlock) (ho : w2.ownsRow w.heap.size e size v n xs) : Below w.heap.size w w3 :=
  ((h.trans (h2.mono h.size)).alloc (Nat.le_trans h.size h2.size) o).grown hg (by have := h.size; have := h2.size; rw [World.size_alloc]; omega) (fun k hk => (ho.lt k hk).1)
theorem own_cells {W : World} {B : Nat} {v : Value} {k : Nat} (h : W.ownsRow B 9 1 v (k + 1) (rowS (k + 1))) : ∃ b cap, v = .slice (some ⟨b, 0, none⟩) (k + 1) cap ∧ b < W.heap.size ∧ (∀ (j : Nat) (x : ByteArray), (([⟨#[97, 100, 100]⟩, ⟨#[111, 102, 102]⟩, ⟨#[53]⟩] : List ByteArray).take (k + 1))[j]? = some x → W.cell? ⟨b, j, none⟩ = some (.string x)) ∧ k + 1 ≤ cap := by
  obtain ⟨_, h2⟩ := h
  rcases h2 with ⟨_, h0⟩ | ⟨g, cap, cur, hv, _, hg, hn, _, hc, ht⟩
  · omega
  · refine ⟨g, cap, hv, (Array.getElem?_eq_some_iff.1 hg).1, fun j x hj => ?_, hn⟩
    have h3 : (rowS (k + 1))[j]? = some (.string x) := by unfold rowS; rw [List.getElem?_map, hj]; rfl
    rw [← ht] at h3
    rw [List.getElem?_take] at h3
    split at h3
    · rw [Lib.cell_of_heap hg]
      simpa using h3
    · cases h3
theorem join_at : ((⟨#[40]⟩ : ByteArray) ++ ⟨(Lib.join [[97, 100, 100], [111, 102, 102], [53]] [32]).toArray⟩ ++ ⟨#[41]⟩ : ByteArray) = ⟨#[40, 97, 100, 100, 32, 111, 102, 102, 32, 53, 41]⟩ := by decide +kernel
set_option maxRecDepth 100000 in
set_option maxHeartbeats 4000000 in
theorem text_add (g : Nat) (w : World) (hg : w.heap[g]? = some (.cells #[.int .i64 2, .int .u8 0, .int .i64 0, .string ⟨#[]⟩, .slice none 0 0, .int .i64 0, .int .u8 0, .int .i64 5, .string ⟨#[]⟩, .slice none 0 0] 35 (0, 0))) :
    Calls Tryd.prog 17 #[.agg #[.int .i64 8, .int .u8 0, .int .i64 0, .string ⟨#[]⟩, .slice (some ⟨g, 0, none⟩) 2 2]] w fun e w' => e = .returned (.string ⟨#[40, 97, 100, 100, 32, 111, 102, 102, 32, 53, 41]⟩) ∧ Below w.heap.size w w' := by
  have HB := Aside0.mk (show Below w.heap.size w (w.alloc (.cells #[.int .i64 8, .int .u8 0, .int .i64 0, .string ⟨#[]⟩, .slice (some ⟨g, 0, none⟩) 2 2] 35)) from (Below.refl _ w).alloc (Nat.le_refl _) _)
  have HX := Aside0.mk (show (w.alloc (.cells #[.int .i64 8, .int .u8 0, .int .i64 0, .string ⟨#[]⟩, .slice (some ⟨g, 0, none⟩) 2 2] 35)).heap[w.heap.size]? = some (.cells #[.int .i64 8, .int .u8 0, .int .i64 0, .string ⟨#[]⟩, .slice (some ⟨g, 0, none⟩) 2 2] 35 (0, 0)) from World.alloc_heap_new w _)
  have HG := Aside0.mk hg
  clear hg
  go_enter Tryd.func17, Tryd.ntmps17
  go_wp2_with (go_at_call 9; refine (name_at 8 ⟨#[97, 100, 100]⟩ rfl _).mono ?_; rintro e w1 ⟨rfl, hb⟩; have HB1 := Aside0.mk (HB.out.trans (hb.mono HB.out.size)); have HX1 := Aside0.mk ((hb.block _ (by rw [World.size_alloc]; omega)).trans HX.out); have j0 := (by rw [Lib.cell_of_heap HX1.out]; rfl : w1.cell? ⟨w.heap.size, 0, none⟩ = some (.int .i64 8)); have j4 := (by rw [Lib.cell_of_heap HX1.out]; rfl : w1.cell? ⟨w.heap.size, 4, none⟩ = some (.slice (some ⟨g, 0, none⟩) 2 2)); have HX2 := Aside0.mk (by rw [Lib.alloc_old w1 _ _ (Array.getElem?_eq_some_iff.1 HX1.out).1]; exact HX1.out : (w1.alloc (.cells #[.string ⟨#[97, 100, 100]⟩] 9)).heap[w.heap.size]? = some (.cells #[.int .i64 8, .int .u8 0, .int .i64 0, .string ⟨#[]⟩, .slice (some ⟨g, 0, none⟩) 2 2] 35 (0, 0))); have j4a := (by rw [Lib.cell_of_heap HX2.out]; rfl : (w1.alloc (.cells #[.string ⟨#[97, 100, 100]⟩] 9)).cell? ⟨w.heap.size, 4, none⟩ = some (.slice (some ⟨g, 0, none⟩) 2 2)); clear hb)
  have HO := Aside0.mk (own_made w1 w.heap.size HB1.out.size)
  have HB2 := Aside0.mk (HB1.out.alloc HB1.out.size (.cells #[.string ⟨#[97, 100, 100]⟩] 9))
  clear HB HX HB1 HX1 HX2 j0 j4 j4a
  go_loopw [3, 42] (fun l i wr => ∃ k : Nat, k ≤ 2 ∧ i = .int .i64 k ∧ wr.ownsRow w.heap.size 9 1 l (k + 1) (rowS (k + 1)) ∧ Below w.heap.size w wr)
    (fun _ i _ => 2 - (intOf i).toNat)
  case atStart => exact ⟨0, by omega, rfl, HO.out, HB2.out⟩
  case round =>
    clear HO HB2
    obtain ⟨k, hk, rfl, ho, hb⟩ := hrel
    have hg : wr.heap[g]? = some (.cells #[.int .i64 2, .int .u8 0, .int .i64 0, .string ⟨#[]⟩, .slice none 0 0, .int .i64 0, .int .u8 0, .int .i64 5, .string ⟨#[]⟩, .slice none 0 0] 35 (0, 0)) := (hb.block g (Array.getElem?_eq_some_iff.1 HG.out).1).trans HG.out
    have HO := Aside0.mk ho
    have HB := Aside0.mk hb
    have HGR := Aside0.mk hg
    have g0 := (by rw [Lib.cell_of_heap hg]; rfl : wr.cell? ⟨g, 0, none⟩ = some (.int .i64 2))
    have g1 := (by rw [Lib.cell_of_heap hg]; rfl : wr.cell? ⟨g, 1, none⟩ = some (.int .u8 0))
    have g2 := (by rw [Lib.cell_of_heap hg]; rfl : wr.cell? ⟨g, 2, none⟩ = some (.int .i64 0))
    have g3 := (by rw [Lib.cell_of_heap hg]; rfl : wr.cell? ⟨g, 3, none⟩ = some (.string ⟨#[]⟩))
    have g4 := (by rw [Lib.cell_of_heap hg]; rfl : wr.cell? ⟨g, 4, none⟩ = some (.slice none 0 0))
    have g5 := (by rw [Lib.cell_of_heap hg]; rfl : wr.cell? ⟨g, 5, none⟩ = some (.int .i64 0))
    have g6 := (by rw [Lib.cell_of_heap hg]; rfl : wr.cell? ⟨g, 6, none⟩ = some (.int .u8 0))
    have g7 := (by rw [Lib.cell_of_heap hg]; rfl : wr.cell? ⟨g, 7, none⟩ = some (.int .i64 5))
    have g8 := (by rw [Lib.cell_of_heap hg]; rfl : wr.cell? ⟨g, 8, none⟩ = some (.string ⟨#[]⟩))
    have g9 := (by rw [Lib.cell_of_heap hg]; rfl : wr.cell? ⟨g, 9, none⟩ = some (.slice none 0 0))
    clear ho hb hg
    have hk3 : k = 0 ∨ k = 1 ∨ k = 2 := by omega
    rcases hk3 with rfl | rfl | rfl
    · obtain ⟨i0, hi, hz0, hz1, hz2⟩ := info_parts info9
      go_wp2_with (first | (go_at_call 17; refine (text_off _).mono ?_; rintro e w2 ⟨rfl, hb⟩; have hb2 := ((Below.refl _ wr).alloc (Nat.le_refl _) (.cells #[.int .i64 2, .int .u8 0, .int .i64 0, .string ⟨#[]⟩, .slice none 0 0] 35)).trans (hb.mono (by rw [World.size_alloc]; omega)); have HBW := Aside0.mk hb2; clear hb hb2) | (at_builtin; refine wpList_append_own _ rfl _ _ 23 rfl w.heap.size 9 i0 (.string ⟨#[]⟩) 1 16 Tryd.underlying23 hi hz0 hz1 hz2 rfl (by decide) _ _ _ rfl ((own_bel HO.out HBW.out).alloc _) ⟨w2.heap.size, 0, none⟩ 1 1 [.string ⟨#[111, 102, 102]⟩] rfl rfl ?c1 ?c2 ?c3 ?c4 ?c5 ?_; (case c1 => intro j u hj; match j, hj with | 0, hj => (simp at hj; subst hj; simp [Addr.add])); (case c2 => intro u hu; simp at hu; subst hu; rfl); (case c3 => unfold maxLen; omega); (case c4 => omega); (case c5 => have h1 := HB.out.size; have h2 := HBW.out.size; rw [World.size_alloc]; omega); intro v' w3 hown' hgrow _; have HO3 := Aside0.mk hown'; have HB3 := Aside0.mk (below_grow HB.out HBW.out hgrow (own_bel HO.out HBW.out)); clear hown' hgrow))
      go_roundw
      case rel => exact ⟨1, by omega, rfl, HO3.out, HB3.out⟩
      case measure => simp [intOf]
    · obtain ⟨i0, hi, hz0, hz1, hz2⟩ := info_parts info9
      go_wp2_with (first | (go_at_call 17; refine (text_five _).mono ?_; rintro e w2 ⟨rfl, hb⟩; have hb2 := ((Below.refl _ wr).alloc (Nat.le_refl _) (.cells #[.int .i64 0, .int .u8 0, .int .i64 5, .string ⟨#[]⟩, .slice none 0 0] 35)).trans (hb.mono (by rw [World.size_alloc]; omega)); have HBW := Aside0.mk hb2; clear hb hb2) | (at_builtin; refine wpList_append_own _ rfl _ _ 23 rfl w.heap.size 9 i0 (.string ⟨#[]⟩) 1 16 Tryd.underlying23 hi hz0 hz1 hz2 rfl (by decide) _ _ _ rfl ((own_bel HO.out HBW.out).alloc _) ⟨w2.heap.size, 0, none⟩ 1 1 [.string ⟨#[53]⟩] rfl rfl ?c1 ?c2 ?c3 ?c4 ?c5 ?_; (case c1 => intro j u hj; match j, hj with | 0, hj => (simp at hj; subst hj; simp [Addr.add])); (case c2 => intro u hu; simp at hu; subst hu; rfl); (case c3 => unfold maxLen; omega); (case c4 => omega); (case c5 => have h1 := HB.out.size; have h2 := HBW.out.size; rw [World.size_alloc]; omega); intro v' w3 hown' hgrow _; have HO3 := Aside0.mk hown'; have HB3 := Aside0.mk (below_grow HB.out HBW.out hgrow (own_bel HO.out HBW.out)); clear hown' hgrow))
      go_roundw
      case rel => exact ⟨2, by omega, rfl, HO3.out, HB3.out⟩
      case measure => simp [intOf]
    · obtain ⟨b, cap, rfl, hbs, hcells, hcap⟩ := own_cells HO.out
      have HCE := Aside0.mk hcells
      clear hcells
      go_wp2_with (go_at_call 37; refine (Tryd.strings_Join b 0 cap [⟨#[97, 100, 100]⟩, ⟨#[111, 102, 102]⟩, ⟨#[53]⟩] ⟨#[32]⟩ _ ?j1 ?j2 ?j3 ?j4 ?j5).mono ?_; (case j1 => intro j x hj; rw [Nat.zero_add]; exact HCE.out j x hj); (case j2 => exact hbs); (case j3 => decide); (case j4 => exact hcap); (case j5 => decide +kernel); rintro e w2 ⟨rfl, hb⟩; have HB2 := Aside0.mk (HB.out.trans (hb.mono HB.out.size)); clear hb)
      go_ret
      refine ⟨?_, HB2.out⟩
      exact congrArg (fun t : ByteArray => Ending.returned (.string t)) join_at
set_option maxRecDepth 100000 in
set_option maxHeartbeats 4000000 in
theorem live_calls (w : World) : Calls Tryd.prog 6 #[] w fun e w' => e = .returned (.bool true) ∧ Below w.heap.size w w' := by
  have HB := Aside0.mk (Below.refl w.heap.size w)
  go_enter Tryd.func6, Tryd.ntmps6
  go_wp2_with (go_at_call 17; refine (text_add _ _ (World.alloc_heap_new _ _)).mono ?_; rintro e w2 ⟨rfl, hb⟩; have HB2 := Aside0.mk ((HB.out.alloc HB.out.size _).trans (hb.mono (by rw [World.size_alloc]; omega))); clear hb)
  go_ret
  exact ⟨rfl, HB2.out⟩
end Go.Proofs.YtaebjcldopoccaaDoor.En
