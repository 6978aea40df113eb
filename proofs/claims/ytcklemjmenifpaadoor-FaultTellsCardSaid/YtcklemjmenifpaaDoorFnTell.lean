/- What fault.Tell answers at any error that is a tree: its text. By its walk. -/
import Derived.Test.YtcklemjmenifpaaDoorFnIs
import Derived.Lib.ItoaLen
import Derived.Lib.AppendIntMem
set_option linter.unusedVariables false
set_option linter.unusedSimpArgs false
namespace Go.Proofs.YtcklemjmenifpaaDoor.Fn
open Go.RowKit Go.Shelf Go.Extern.Stop Go.Stop Go.Extern Go.Proofs.YtcklemjmenifpaaDoorW.PrintWords Go.Proofs.YtcklemjmenifpaaDoorW.PrintLast

theorem ev_cases {W : World} {e : Er} {v : Value} (h : EV W e v) : v = .nilIface ∨ ∃ t u, v = .iface t u := by
  by_cases he : e = .nil
  · subst he
    exact .inl h
  · exact .inr (ev_some h he)
def i64 (n : Int) : Prop := -9223372036854775808 ≤ n ∧ n ≤ 9223372036854775807
/-- What is told of an error. -/
def tellE : Er → List UInt8
  | .nil => [111, 107]
  | .num n => [101, 114, 114, 111, 114, 32] ++ Lib.itoa n
  | .slip s no e => s.data.toList ++ [32] ++ Lib.itoa no ++ [58, 32] ++ tellE e
  | .two a b => [40] ++ (tellE a ++ [59, 32] ++ tellE b) ++ [41]
/-- Numbers are int's. -/
def fitE : Er → Prop
  | .nil => True
  | .num n => i64 n
  | .slip _ no e => i64 no ∧ fitE e
  | .two a b => fitE a ∧ fitE b
abbrev Tab (w : World) : Prop := Lib.TabIs Tryd.prog w "internal/strconv.uint64pow10" .u64 Lib.pow10Tab
theorem tab_on {w w' : World} (h : Tab w) (hb : Below w.heap.size w w') : Tab w' := Lib.tabBelow_of_tabIs h w' hb
def bs (l : List UInt8) : ByteArray := ⟨l.toArray⟩
theorem bs_app (a b : List UInt8) : bs a ++ bs b = bs (a ++ b) := by
  apply ByteArray.ext
  simp [bs, ByteArray.data_append]
theorem bs_size (a : List UInt8) : (bs a).size = a.length := by simp [bs, ByteArray.size]
theorem bs_list (s : ByteArray) : bs s.data.toList = s := by
  apply ByteArray.ext
  simp [bs]
theorem itoa_calls (n : Int) (h : i64 n) (w : World) (ht : Tab w) : Calls Tryd.prog 31 #[.int .i64 n] w fun e w' => e = .returned (.string (bs (Lib.itoa n))) ∧ Below w.heap.size w w' := by
  refine (Tryd.strconv_Itoa n h.1 h.2 w ht).mono ?_
  rintro e w' ⟨he, k, os, rfl⟩
  exact ⟨he, Lib.below_grow _ _ (Nat.le_refl _) k os⟩
theorem lacksUs26 (t : TypeId) (h : t = 39 ∨ t = 37) (v : Value) (w : World) : (Instr.typeAssert (.iface t v) 26 92 true).run Tryd.prog w = .ok (.tuple #[.nilIface, .bool false]) w := lacksUs t h v 26 w
theorem parts_calls (j : Nat) (r : Value) (w : World) (h : w.heap[j]? = some (.cells #[r] 83 (0, 0))) : Calls Tryd.prog 30 #[.iface 81 (.pointer (some ⟨j, 0, none⟩))] w fun e w' => e = .returned r ∧ Below w.heap.size w w' := by
  have HB := Aside0.mk (Below.refl w.heap.size w)
  have j0 := (blk_cell h 0).trans (by rfl : _ = some r)
  have s81 := hasUs
  clear h
  go_enter Tryd.func30, Tryd.ntmps30
  go_wp2
  go_ret
  exact ⟨rfl, HB.out⟩
theorem info9 : (Tryd.prog.info? 9).map (fun i => (i.zero, i.size, i.bytes)) = some (some (.string ⟨#[]⟩), 1, 16) := by kernel_rfl
theorem own_bel {W W' : World} {B e size n : Nat} {v : Value} {xs : List Value} (h : W.ownsRow B e size v n xs) (hb : Below W.heap.size W W') : W'.ownsRow B e size v n xs := by
  obtain ⟨h1, h2⟩ := h
  refine ⟨h1, ?_⟩
  rcases h2 with h2 | ⟨g, cap, cur, h3, h4, h5, h6⟩
  · exact .inl h2
  · exact .inr ⟨g, cap, cur, h3, h4, (hb.block g (Array.getElem?_eq_some_iff.1 h5).1).trans h5, h6⟩
theorem below_grow {w wr w2 w3 : World} {o : Obj} {v : Value} {n e size : Nat} {xs : List Value} (h : Below w.heap.size w wr) (h2 : Below wr.heap.size wr w2) (hg : (w2.alloc o).grownBy w3 v.ownBlock) (ho : w2.ownsRow w.heap.size e size v n xs) : Below w.heap.size w w3 :=
  ((h.trans (h2.mono h.size)).alloc (Nat.le_trans h.size h2.size) o).grown hg (by have := h.size; have := h2.size; rw [World.size_alloc]; omega) (fun k hk => (ho.lt k hk).1)
/-- A row of strings that is the call's own: where its cells lie. -/
theorem own_cells {W : World} {B : Nat} {v : Value} {xs : List ByteArray} {n : Nat} (hn : n = xs.length) (h0 : xs.length ≠ 0) (h : W.ownsRow B 9 1 v n (xs.map Value.string)) : ∃ b cap, v = .slice (some ⟨b, 0, none⟩) n cap ∧ b < W.heap.size ∧ (∀ (j : Nat) (x : ByteArray), xs[j]? = some x → W.cell? ⟨b, j, none⟩ = some (.string x)) ∧ n ≤ cap := by
  obtain ⟨_, h2⟩ := h
  rcases h2 with ⟨_, h3⟩ | ⟨g, cap, cur, hv, _, hg, hn, _, hc, ht⟩
  · omega
  · refine ⟨g, cap, hv, (Array.getElem?_eq_some_iff.1 hg).1, fun j x hj => ?_, hn⟩
    have h3 : (xs.map Value.string)[j]? = some (.string x) := by rw [List.getElem?_map, hj]; rfl
    rw [← ht] at h3
    rw [List.getElem?_take] at h3
    split at h3
    · rw [Lib.cell_of_heap hg]
      simpa using h3
    · cases h3
theorem ta_39_39 (v : Value) (w : World) : (Instr.typeAssert (.iface 39 v) 26 39 true).run Tryd.prog w = .ok (.tuple #[v, .bool true]) w := by kernel_rfl
theorem ta_37_39 (v : Value) (w : World) : (Instr.typeAssert (.iface 37 v) 26 39 true).run Tryd.prog w = .ok (.tuple #[.int .i64 0, .bool false]) w := by kernel_rfl
theorem ta_37_37 (v : Value) (w : World) : (Instr.typeAssert (.iface 37 v) 26 37 true).run Tryd.prog w = .ok (.tuple #[v, .bool true]) w := by kernel_rfl
theorem ta_81_39 (v : Value) (w : World) : (Instr.typeAssert (.iface 81 v) 26 39 true).run Tryd.prog w = .ok (.tuple #[.int .i64 0, .bool false]) w := by kernel_rfl
theorem ta_81_37 (v : Value) (w : World) : (Instr.typeAssert (.iface 81 v) 26 37 true).run Tryd.prog w = .ok (.tuple #[.agg #[.string ⟨#[]⟩, .int .i64 0, .nilIface], .bool false]) w := by kernel_rfl
set_option maxRecDepth 100000 in
set_option maxHeartbeats 4000000 in
theorem tell_calls (e : Er) : fitE e → (tellE e).length ≤ 1000000 → ∀ (v : Value) (w : World), EV w e v → Tab w → Calls Tryd.prog 19 #[v] w fun ev w' => ev = .returned (.string (bs (tellE e))) ∧ Below w.heap.size w w' := by
  induction e with
  | nil =>
    intro _ _ v w hv ht
    obtain rfl := hv
    have HB := Aside0.mk (Below.refl w.heap.size w)
    have t1 := ta_39_39
    have t2 := ta_37_39
    have t3 := ta_37_37
    have t4 := ta_81_39
    have t5 := ta_81_37
    go_enter Tryd.func19, Tryd.ntmps19
    go_wp2
    go_ret
    exact ⟨rfl, HB.out⟩
  | num n =>
    intro hf hl v w hv ht
    obtain rfl := hv
    have HB := Aside0.mk (Below.refl w.heap.size w)
    have HT := Aside0.mk ht
    have HF := Aside0.mk hf
    have z1 : (9223372036854775807 < 6 + (bs (Lib.itoa n)).size) = False := by rw [bs_size]; have := Lib.itoa_length_le n hf.1 hf.2; exact eq_false (by omega)
    clear hf hl ht
    have t1 := ta_39_39
    have t2 := ta_37_39
    have t3 := ta_37_37
    have t4 := ta_81_39
    have t5 := ta_81_37
    go_enter Tryd.func19, Tryd.ntmps19
    go_wp2_with (go_at_call 31; refine (itoa_calls n HF.out _ HT.out).mono ?_; rintro ev w1 ⟨rfl, hb⟩; (have HB1 := Aside0.mk (HB.out.trans hb)); clear hb)
    go_ret
    refine ⟨?_, HB1.out⟩
    have et : bs (tellE (.num n)) = ⟨#[101, 114, 114, 111, 114, 32]⟩ ++ bs (Lib.itoa n) := by simp only [tellE]; rw [← bs_app]; rfl
    rw [et]
    rfl
  | slip s no e ih =>
    intro hf hl v w hv ht
    obtain ⟨u, rfl, hu⟩ := hv
    have HB := Aside0.mk (Below.refl w.heap.size w)
    have HT := Aside0.mk ht
    have HF := Aside0.mk hf
    have HU := Aside0.mk hu
    simp only [tellE, List.length_append, List.length_cons, List.length_nil] at hl
    have hl0 : s.data.toList.length = s.size := by simp
    have HI := Aside0.mk (fun W (hW : Below w.heap.size w W) => ih hf.2 (by omega) u W (hu.on hW) (tab_on ht hW))
    have hsz := Lib.itoa_length_le no hf.1.1 hf.1.2
    have z1 : (9223372036854775807 < s.size + 1) = False := eq_false (by omega)
    have z2 : (9223372036854775807 < s.size + 1 + (bs (Lib.itoa no)).size) = False := by rw [bs_size]; exact eq_false (by omega)
    have z3 : (9223372036854775807 < s.size + 1 + (bs (Lib.itoa no)).size + 2) = False := by rw [bs_size]; exact eq_false (by omega)
    have z4 : (9223372036854775807 < s.size + 1 + (bs (Lib.itoa no)).size + 2 + (bs (tellE e)).size) = False := by rw [bs_size, bs_size]; exact eq_false (by omega)
    have et : bs (tellE (.slip s no e)) = s ++ ⟨#[32]⟩ ++ bs (Lib.itoa no) ++ ⟨#[58, 32]⟩ ++ bs (tellE e) := by
      simp only [tellE]
      rw [← bs_app, ← bs_app, ← bs_app, ← bs_app, bs_list]
      rfl
    have HE := Aside0.mk et
    have hor := ev_cases hu
    clear hf ht hu ih hl hl0 hsz et HU
    have t1 := ta_39_39
    have t2 := ta_37_39
    have t3 := ta_37_37
    have t4 := ta_81_39
    have t5 := ta_81_37
    rcases hor with rfl | ⟨t, x, rfl⟩
    · have HBX := Aside0.mk (below_drew1 (HB.out.alloc HB.out.size (.cells #[.string s, .int .i64 no, .nilIface] 37)))
      have HX := Aside0.mk (blk_drew (blk_new w (.cells #[.string s, .int .i64 no, .nilIface] 37)))
      go_enter Tryd.func19, Tryd.ntmps19
      go_wp2
      refine start_ (n := 13) (S := fun w' => w'.cell? ⟨w.heap.size, 0, none⟩ = some (.string s) ∧ w'.cell? ⟨w.heap.size, 1, none⟩ = some (.int .i64 no) ∧ w'.cell? ⟨w.heap.size, 2, none⟩ = some (.nilIface)) (ds := []) #[false, false, false, false, false, false, false, false, false, false, false, false, false] (by kernel_rfl) rfl rfl ⟨(blk_cell HX.out 0).trans rfl, (blk_cell HX.out 1).trans rfl, (blk_cell HX.out 2).trans rfl⟩ (fun hHeld => ?_)
      generalize (w.alloc (.cells #[.string s, .int .i64 no, .nilIface] 37)).drew = wA at HBX HX hHeld ⊢
      refine pure_ (i := 0) (N := some 20) (v := ?_) (a' := ?_) #[true, false, false, false, false, false, false, false, false, false, false, false, false] rfl rfl (by kernel_rfl) (fun _ _ _ h => h) (Or.inl ⟨by rfl, ?_⟩) ?_ ?_
      rotate_left
      · intro w'
        go_simp
        with_reducible rfl
      rotate_left
      · simp only [Act.put, List.setIfInBounds_toArray, List.set_cons_zero, List.set_cons_succ, i64_w, i32_w]
        rfl
      refine take_ (i := 1) (N := some 21) (v := ?_) (a' := ?_) #[true, true, false, false, false, false, false, false, false, false, false, false, false] rfl rfl (by kernel_rfl) (fun _ _ _ h => h) (Or.inl ⟨by rfl, ?_⟩) hHeld ?_ ?_
      rotate_left
      · rintro w' ⟨s0, s1, s2⟩
        go_simp
        with_reducible rfl
      rotate_left
      · simp only [Act.put, List.setIfInBounds_toArray, List.set_cons_zero, List.set_cons_succ, i64_w, i32_w]
        rfl
      refine pure_ (i := 2) (N := some 22) (v := ?_) (a' := ?_) #[true, true, true, false, false, false, false, false, false, false, false, false, false] rfl rfl (by kernel_rfl) (fun _ _ _ h => h) (Or.inl ⟨by rfl, ?_⟩) ?_ ?_
      rotate_left
      · intro w'
        go_simp
        with_reducible rfl
      rotate_left
      · simp only [Act.put, List.setIfInBounds_toArray, List.set_cons_zero, List.set_cons_succ, i64_w, i32_w]
        rfl
      refine pure_ (i := 3) (N := some 23) (v := ?_) (a' := ?_) #[true, true, true, true, false, false, false, false, false, false, false, false, false] rfl rfl (by kernel_rfl) (fun _ _ _ h => h) (Or.inl ⟨by rfl, ?_⟩) ?_ ?_
      rotate_left
      · intro w'
        go_simp
        with_reducible rfl
      rotate_left
      · simp only [Act.put, List.setIfInBounds_toArray, List.set_cons_zero, List.set_cons_succ, i64_w, i32_w]
        rfl
      refine take_ (i := 4) (N := some 24) (v := ?_) (a' := ?_) #[true, true, true, true, true, false, false, false, false, false, false, false, false] rfl rfl (by kernel_rfl) (fun _ _ _ h => h) (Or.inl ⟨by rfl, ?_⟩) hHeld ?_ ?_
      rotate_left
      · rintro w' ⟨s0, s1, s2⟩
        go_simp
        with_reducible rfl
      rotate_left
      · simp only [Act.put, List.setIfInBounds_toArray, List.set_cons_zero, List.set_cons_succ, i64_w, i32_w]
        rfl
      refine pure_ (i := 8) (N := some 28) (v := ?_) (a' := ?_) #[true, true, true, true, true, false, false, false, true, false, false, false, false] rfl rfl (by kernel_rfl) (fun _ _ _ h => h) (Or.inl ⟨by rfl, ?_⟩) ?_ ?_
      rotate_left
      · intro w'
        go_simp
        with_reducible rfl
      rotate_left
      · simp only [Act.put, List.setIfInBounds_toArray, List.set_cons_zero, List.set_cons_succ, i64_w, i32_w]
        rfl
      refine take_ (i := 9) (N := some 29) (v := ?_) (a' := ?_) #[true, true, true, true, true, false, false, false, true, true, false, false, false] rfl rfl (by kernel_rfl) (fun _ _ _ h => h) (Or.inl ⟨by rfl, ?_⟩) hHeld ?_ ?_
      rotate_left
      · rintro w' ⟨s0, s1, s2⟩
        go_simp
        with_reducible rfl
      rotate_left
      · simp only [Act.put, List.setIfInBounds_toArray, List.set_cons_zero, List.set_cons_succ, i64_w, i32_w]
        rfl
      refine one_ (i := 5) (N := some 25) #[true, true, true, true, true, true, false, false, true, true, false, false, false] rfl rfl (by kernel_rfl) (by decide) (fun K hK => ?_)
      refine goes_ Tryd.func31 (by kernel_rfl) rfl #[.int .i64 no] (by rfl) rfl rfl (by (try simp only [List.map_toArray, List.map_cons, List.map_nil]); first | done | rfl | (simp only [List.length_drop, List.length_take]; rfl)) ?_
      refine (itoa_calls no HF.out.1 _ (tab_on HT.out HBX.out)).mono ?_
      rintro ev w1 ⟨rfl, hb⟩
      have n0_ := Aside0.mk (HBX.out.trans (hb.mono HBX.out.size))
      have n1_ := Aside0.mk (blk_below HX.out hb)
      clear HBX HX hb
      have HBX := n0_
      have HX := n1_
      clear n0_ n1_
      refine ⟨_, rfl, ?_⟩
      refine hK.out _ _ ⟨(blk_cell HX.out 0).trans rfl, (blk_cell HX.out 1).trans rfl, (blk_cell HX.out 2).trans rfl⟩ (fun hHeld => ?_)
      clear hK K
      refine norm_ (a' := ?_) ?_ ?_
      rotate_left
      · show Act.put _ (some 25) _ = _
        simp only [Act.put, List.setIfInBounds_toArray, List.set_cons_zero, List.set_cons_succ, i64_w, i32_w]
        rfl
      refine pure_ (i := 6) (N := some 26) (v := ?_) (a' := ?_) #[true, true, true, true, true, true, true, false, true, true, false, false, false] rfl rfl (by kernel_rfl) (fun _ _ _ h => h) (Or.inl ⟨by rfl, ?_⟩) ?_ ?_
      rotate_left
      · intro w'
        go_simp
        with_reducible rfl
      rotate_left
      · simp only [Act.put, List.setIfInBounds_toArray, List.set_cons_zero, List.set_cons_succ, i64_w, i32_w]
        rfl
      refine pure_ (i := 7) (N := some 27) (v := ?_) (a' := ?_) #[true, true, true, true, true, true, true, true, true, true, false, false, false] rfl rfl (by kernel_rfl) (fun _ _ _ h => h) (Or.inl ⟨by rfl, ?_⟩) ?_ ?_
      rotate_left
      · intro w'
        go_simp
        with_reducible rfl
      rotate_left
      · simp only [Act.put, List.setIfInBounds_toArray, List.set_cons_zero, List.set_cons_succ, i64_w, i32_w]
        rfl
      refine one_ (i := 10) (N := some 30) #[true, true, true, true, true, true, true, true, true, true, true, false, false] rfl rfl (by kernel_rfl) (by decide) (fun K hK => ?_)
      refine goes_ Tryd.func19 (by kernel_rfl) rfl #[.nilIface] (by rfl) rfl rfl (by (try simp only [List.map_toArray, List.map_cons, List.map_nil]); first | done | rfl | (simp only [List.length_drop, List.length_take]; rfl)) ?_
      refine (HI.out _ HBX.out).mono ?_
      rintro ev w2 ⟨rfl, hb⟩
      have n0_ := Aside0.mk (HBX.out.trans (hb.mono HBX.out.size))
      have n1_ := Aside0.mk (blk_below HX.out hb)
      clear HBX HX hb
      have HBX := n0_
      have HX := n1_
      clear n0_ n1_
      refine ⟨_, rfl, ?_⟩
      refine hK.out _ _ ⟨(blk_cell HX.out 0).trans rfl, (blk_cell HX.out 1).trans rfl, (blk_cell HX.out 2).trans rfl⟩ (fun hHeld => ?_)
      clear hK K
      refine norm_ (a' := ?_) ?_ ?_
      rotate_left
      · show Act.put _ (some 30) _ = _
        simp only [Act.put, List.setIfInBounds_toArray, List.set_cons_zero, List.set_cons_succ, i64_w, i32_w]
        rfl
      refine pure_ (i := 11) (N := some 31) (v := ?_) (a' := ?_) #[true, true, true, true, true, true, true, true, true, true, true, true, false] rfl rfl (by kernel_rfl) (fun _ _ _ h => h) (Or.inl ⟨by rfl, ?_⟩) ?_ ?_
      rotate_left
      · intro w'
        go_simp
        with_reducible rfl
      rotate_left
      · simp only [Act.put, List.setIfInBounds_toArray, List.set_cons_zero, List.set_cons_succ, i64_w, i32_w]
        rfl
      refine pure_ (i := 12) (N := some 2) (v := ?_) (a' := ?_) #[true, true, true, true, true, true, true, true, true, true, true, true, true] rfl rfl (by kernel_rfl) (fun _ _ _ h => h) (Or.inl ⟨by rfl, ?_⟩) ?_ ?_
      rotate_left
      · intro w'
        go_simp
        with_reducible rfl
      rotate_left
      · simp only [Act.put, List.setIfInBounds_toArray, List.set_cons_zero, List.set_cons_succ, i64_w, i32_w]
        rfl
      refine done_ (by kernel_rfl) ?_
      go_wp2
      go_ret
      refine ⟨?_, HBX.out⟩
      rw [HE.out]
      rfl
    · have HBX := Aside0.mk (below_drew1 (HB.out.alloc HB.out.size (.cells #[.string s, .int .i64 no, (.iface t x)] 37)))
      have HX := Aside0.mk (blk_drew (blk_new w (.cells #[.string s, .int .i64 no, (.iface t x)] 37)))
      go_enter Tryd.func19, Tryd.ntmps19
      go_wp2
      refine start_ (n := 13) (S := fun w' => w'.cell? ⟨w.heap.size, 0, none⟩ = some (.string s) ∧ w'.cell? ⟨w.heap.size, 1, none⟩ = some (.int .i64 no) ∧ w'.cell? ⟨w.heap.size, 2, none⟩ = some ((.iface t x))) (ds := []) #[false, false, false, false, false, false, false, false, false, false, false, false, false] (by kernel_rfl) rfl rfl ⟨(blk_cell HX.out 0).trans rfl, (blk_cell HX.out 1).trans rfl, (blk_cell HX.out 2).trans rfl⟩ (fun hHeld => ?_)
      generalize (w.alloc (.cells #[.string s, .int .i64 no, (.iface t x)] 37)).drew = wA at HBX HX hHeld ⊢
      refine pure_ (i := 0) (N := some 20) (v := ?_) (a' := ?_) #[true, false, false, false, false, false, false, false, false, false, false, false, false] rfl rfl (by kernel_rfl) (fun _ _ _ h => h) (Or.inl ⟨by rfl, ?_⟩) ?_ ?_
      rotate_left
      · intro w'
        go_simp
        with_reducible rfl
      rotate_left
      · simp only [Act.put, List.setIfInBounds_toArray, List.set_cons_zero, List.set_cons_succ, i64_w, i32_w]
        rfl
      refine take_ (i := 1) (N := some 21) (v := ?_) (a' := ?_) #[true, true, false, false, false, false, false, false, false, false, false, false, false] rfl rfl (by kernel_rfl) (fun _ _ _ h => h) (Or.inl ⟨by rfl, ?_⟩) hHeld ?_ ?_
      rotate_left
      · rintro w' ⟨s0, s1, s2⟩
        go_simp
        with_reducible rfl
      rotate_left
      · simp only [Act.put, List.setIfInBounds_toArray, List.set_cons_zero, List.set_cons_succ, i64_w, i32_w]
        rfl
      refine pure_ (i := 2) (N := some 22) (v := ?_) (a' := ?_) #[true, true, true, false, false, false, false, false, false, false, false, false, false] rfl rfl (by kernel_rfl) (fun _ _ _ h => h) (Or.inl ⟨by rfl, ?_⟩) ?_ ?_
      rotate_left
      · intro w'
        go_simp
        with_reducible rfl
      rotate_left
      · simp only [Act.put, List.setIfInBounds_toArray, List.set_cons_zero, List.set_cons_succ, i64_w, i32_w]
        rfl
      refine pure_ (i := 3) (N := some 23) (v := ?_) (a' := ?_) #[true, true, true, true, false, false, false, false, false, false, false, false, false] rfl rfl (by kernel_rfl) (fun _ _ _ h => h) (Or.inl ⟨by rfl, ?_⟩) ?_ ?_
      rotate_left
      · intro w'
        go_simp
        with_reducible rfl
      rotate_left
      · simp only [Act.put, List.setIfInBounds_toArray, List.set_cons_zero, List.set_cons_succ, i64_w, i32_w]
        rfl
      refine take_ (i := 4) (N := some 24) (v := ?_) (a' := ?_) #[true, true, true, true, true, false, false, false, false, false, false, false, false] rfl rfl (by kernel_rfl) (fun _ _ _ h => h) (Or.inl ⟨by rfl, ?_⟩) hHeld ?_ ?_
      rotate_left
      · rintro w' ⟨s0, s1, s2⟩
        go_simp
        with_reducible rfl
      rotate_left
      · simp only [Act.put, List.setIfInBounds_toArray, List.set_cons_zero, List.set_cons_succ, i64_w, i32_w]
        rfl
      refine pure_ (i := 8) (N := some 28) (v := ?_) (a' := ?_) #[true, true, true, true, true, false, false, false, true, false, false, false, false] rfl rfl (by kernel_rfl) (fun _ _ _ h => h) (Or.inl ⟨by rfl, ?_⟩) ?_ ?_
      rotate_left
      · intro w'
        go_simp
        with_reducible rfl
      rotate_left
      · simp only [Act.put, List.setIfInBounds_toArray, List.set_cons_zero, List.set_cons_succ, i64_w, i32_w]
        rfl
      refine take_ (i := 9) (N := some 29) (v := ?_) (a' := ?_) #[true, true, true, true, true, false, false, false, true, true, false, false, false] rfl rfl (by kernel_rfl) (fun _ _ _ h => h) (Or.inl ⟨by rfl, ?_⟩) hHeld ?_ ?_
      rotate_left
      · rintro w' ⟨s0, s1, s2⟩
        go_simp
        with_reducible rfl
      rotate_left
      · simp only [Act.put, List.setIfInBounds_toArray, List.set_cons_zero, List.set_cons_succ, i64_w, i32_w]
        rfl
      refine one_ (i := 5) (N := some 25) #[true, true, true, true, true, true, false, false, true, true, false, false, false] rfl rfl (by kernel_rfl) (by decide) (fun K hK => ?_)
      refine goes_ Tryd.func31 (by kernel_rfl) rfl #[.int .i64 no] (by rfl) rfl rfl (by (try simp only [List.map_toArray, List.map_cons, List.map_nil]); first | done | rfl | (simp only [List.length_drop, List.length_take]; rfl)) ?_
      refine (itoa_calls no HF.out.1 _ (tab_on HT.out HBX.out)).mono ?_
      rintro ev w1 ⟨rfl, hb⟩
      have n0_ := Aside0.mk (HBX.out.trans (hb.mono HBX.out.size))
      have n1_ := Aside0.mk (blk_below HX.out hb)
      clear HBX HX hb
      have HBX := n0_
      have HX := n1_
      clear n0_ n1_
      refine ⟨_, rfl, ?_⟩
      refine hK.out _ _ ⟨(blk_cell HX.out 0).trans rfl, (blk_cell HX.out 1).trans rfl, (blk_cell HX.out 2).trans rfl⟩ (fun hHeld => ?_)
      clear hK K
      refine norm_ (a' := ?_) ?_ ?_
      rotate_left
      · show Act.put _ (some 25) _ = _
        simp only [Act.put, List.setIfInBounds_toArray, List.set_cons_zero, List.set_cons_succ, i64_w, i32_w]
        rfl
      refine pure_ (i := 6) (N := some 26) (v := ?_) (a' := ?_) #[true, true, true, true, true, true, true, false, true, true, false, false, false] rfl rfl (by kernel_rfl) (fun _ _ _ h => h) (Or.inl ⟨by rfl, ?_⟩) ?_ ?_
      rotate_left
      · intro w'
        go_simp
        with_reducible rfl
      rotate_left
      · simp only [Act.put, List.setIfInBounds_toArray, List.set_cons_zero, List.set_cons_succ, i64_w, i32_w]
        rfl
      refine pure_ (i := 7) (N := some 27) (v := ?_) (a' := ?_) #[true, true, true, true, true, true, true, true, true, true, false, false, false] rfl rfl (by kernel_rfl) (fun _ _ _ h => h) (Or.inl ⟨by rfl, ?_⟩) ?_ ?_
      rotate_left
      · intro w'
        go_simp
        with_reducible rfl
      rotate_left
      · simp only [Act.put, List.setIfInBounds_toArray, List.set_cons_zero, List.set_cons_succ, i64_w, i32_w]
        rfl
      refine one_ (i := 10) (N := some 30) #[true, true, true, true, true, true, true, true, true, true, true, false, false] rfl rfl (by kernel_rfl) (by decide) (fun K hK => ?_)
      refine goes_ Tryd.func19 (by kernel_rfl) rfl #[.iface t x] (by rfl) rfl rfl (by (try simp only [List.map_toArray, List.map_cons, List.map_nil]); first | done | rfl | (simp only [List.length_drop, List.length_take]; rfl)) ?_
      refine (HI.out _ HBX.out).mono ?_
      rintro ev w2 ⟨rfl, hb⟩
      have n0_ := Aside0.mk (HBX.out.trans (hb.mono HBX.out.size))
      have n1_ := Aside0.mk (blk_below HX.out hb)
      clear HBX HX hb
      have HBX := n0_
      have HX := n1_
      clear n0_ n1_
      refine ⟨_, rfl, ?_⟩
      refine hK.out _ _ ⟨(blk_cell HX.out 0).trans rfl, (blk_cell HX.out 1).trans rfl, (blk_cell HX.out 2).trans rfl⟩ (fun hHeld => ?_)
      clear hK K
      refine norm_ (a' := ?_) ?_ ?_
      rotate_left
      · show Act.put _ (some 30) _ = _
        simp only [Act.put, List.setIfInBounds_toArray, List.set_cons_zero, List.set_cons_succ, i64_w, i32_w]
        rfl
      refine pure_ (i := 11) (N := some 31) (v := ?_) (a' := ?_) #[true, true, true, true, true, true, true, true, true, true, true, true, false] rfl rfl (by kernel_rfl) (fun _ _ _ h => h) (Or.inl ⟨by rfl, ?_⟩) ?_ ?_
      rotate_left
      · intro w'
        go_simp
        with_reducible rfl
      rotate_left
      · simp only [Act.put, List.setIfInBounds_toArray, List.set_cons_zero, List.set_cons_succ, i64_w, i32_w]
        rfl
      refine pure_ (i := 12) (N := some 2) (v := ?_) (a' := ?_) #[true, true, true, true, true, true, true, true, true, true, true, true, true] rfl rfl (by kernel_rfl) (fun _ _ _ h => h) (Or.inl ⟨by rfl, ?_⟩) ?_ ?_
      rotate_left
      · intro w'
        go_simp
        with_reducible rfl
      rotate_left
      · simp only [Act.put, List.setIfInBounds_toArray, List.set_cons_zero, List.set_cons_succ, i64_w, i32_w]
        rfl
      refine done_ (by kernel_rfl) ?_
      go_wp2
      go_ret
      refine ⟨?_, HBX.out⟩
      rw [HE.out]
      rfl
  | two a b iha ihb =>
    intro hf hl v w hv ht
    obtain ⟨j, g, c, cur, va, vb, rfl, hj, hc, hg, hc0, hc1, ha, hb'⟩ := hv
    simp only [tellE, List.length_append, List.length_cons, List.length_nil] at hl
    have HXA := Aside0.mk (fun W (hW : Below w.heap.size w W) => iha hf.1 (by omega) va W (ha.on hW) (tab_on ht hW))
    have HXB := Aside0.mk (fun W (hW : Below w.heap.size w W) => ihb hf.2 (by omega) vb W (hb'.on hW) (tab_on ht hW))
    have HB := Aside0.mk (Below.refl w.heap.size w)
    have HJ := Aside0.mk hj
    have HG := Aside0.mk hg
    have HC0 := Aside0.mk hc0
    have HC1 := Aside0.mk hc1
    have HL := Aside0.mk hl
    obtain ⟨J, hJ⟩ : ∃ J, J = tellE a ++ [59, 32] ++ tellE b := ⟨_, rfl⟩
    have z1 : (9223372036854775807 < 1 + (bs J).size) = False := by rw [bs_size, hJ]; simp only [List.length_append, List.length_cons, List.length_nil]; exact eq_false (by omega)
    have z2 : (9223372036854775807 < 1 + (bs J).size + 1) = False := by rw [bs_size, hJ]; simp only [List.length_append, List.length_cons, List.length_nil]; exact eq_false (by omega)
    have HJJ := Aside0.mk hJ
    clear hf hl ha hb' ht iha ihb hj hg hc0 hc1 hJ
    obtain ⟨i0, hi, hz0, hz1, hz2⟩ := info_parts info9
    have t4 := ta_81_39
    have t5 := ta_81_37
    go_enter Tryd.func19, Tryd.ntmps19
    go_wp2_with (go_at_call 30; refine (parts_calls j _ _ HJ.out).mono ?_; rintro ev w1 ⟨rfl, hb⟩; (have HB1 := Aside0.mk (HB.out.trans hb)); (have g0 := (blk_cell (blk_below HG.out HB1.out) 0).trans HC0.out); (have g1 := (blk_cell (blk_below HG.out HB1.out) 1).trans HC1.out); clear hb)
    refine wp_loop_rounds 3 ?_
    rw [rounds_succ]
    go_wp2_with (first | (go_at_call 19; refine (HXA.out _ HB1.out).mono ?_; rintro ev w2 ⟨rfl, hb⟩; (have HR2 := Aside0.mk hb); (have HB2 := Aside0.mk (HB1.out.trans (hb.mono HB1.out.size))); (have HO2 := Aside0.mk (own_nil w2 w.heap.size 9 1)); clear hb) | (at_builtin; refine wpList_append_own _ rfl _ _ 77 rfl w.heap.size 9 i0 (.string ⟨#[]⟩) 1 16 Tryd.underlying77 hi hz0 hz1 hz2 rfl (by decide) _ _ _ rfl ((HO2.out).alloc _) ⟨w2.heap.size, 0, none⟩ 1 1 [.string (bs (tellE a))] rfl rfl ?c1 ?c2 ?c3 ?c4 ?c5 ?_; (case c1 => intro j u hj; match j, hj with | 0, hj => (simp at hj; subst hj; simp [Addr.add])); (case c2 => intro u hu; simp at hu; subst hu; rfl); (case c3 => unfold maxLen; omega); (case c4 => omega); (case c5 => have h1 := HB2.out.size; rw [World.size_alloc]; omega); intro l1 w3 hown' hgrow _; have HO3 := Aside0.mk hown'; have HB3 := Aside0.mk (below_grow HB1.out HR2.out hgrow HO2.out); clear hown' hgrow))
    have k1 := (blk_cell (blk_below HG.out HB3.out) 1).trans HC1.out
    rw [rounds_succ]
    go_wp2_with (first | (go_at_call 19; refine (HXB.out _ HB3.out).mono ?_; rintro ev w4 ⟨rfl, hb⟩; (have HR4 := Aside0.mk hb); (have HB4 := Aside0.mk (HB3.out.trans (hb.mono HB3.out.size))); clear hb) | (at_builtin; refine wpList_append_own _ rfl _ _ 77 rfl w.heap.size 9 i0 (.string ⟨#[]⟩) 1 16 Tryd.underlying77 hi hz0 hz1 hz2 rfl (by decide) _ _ _ rfl ((own_bel HO3.out HR4.out).alloc _) ⟨w4.heap.size, 0, none⟩ 1 1 [.string (bs (tellE b))] rfl rfl ?c1 ?c2 ?c3 ?c4 ?c5 ?_; (case c1 => intro j u hj; match j, hj with | 0, hj => (simp at hj; subst hj; simp [Addr.add])); (case c2 => intro u hu; simp at hu; subst hu; rfl); (case c3 => unfold maxLen; omega); (case c4 => omega); (case c5 => have h1 := HB4.out.size; rw [World.size_alloc]; omega); intro l2 w5 hown' hgrow _; have HO5 := Aside0.mk hown'; have HB5 := Aside0.mk (below_grow HB3.out HR4.out hgrow (own_bel HO3.out HR4.out)); clear hown' hgrow))
    have HROW : Aside0 (w5.ownsRow w.heap.size 9 1 l2 2 ([bs (tellE a), bs (tellE b)].map Value.string)) := HO5
    obtain ⟨bk, cap, rfl, hbs, hcells, hcap⟩ := own_cells (by rfl) (by simp) HROW.out
    have HCE := Aside0.mk hcells
    have HCAP := Aside0.mk hcap
    have hjoin : Lib.join ([bs (tellE a), bs (tellE b)].map (·.data.toList)) (bs [59, 32]).data.toList = J := by
      rw [HJJ.out]
      simp [Lib.join, bs]
    have HJN := Aside0.mk hjoin
    clear hcells hcap hjoin HO5 HROW
    rw [rounds_succ]
    go_wp2_with (go_at_call 32; have hj := Tryd.strings_Join bk 0 cap [bs (tellE a), bs (tellE b)] (bs [59, 32]) w5 (fun j x hj => by rw [Nat.zero_add]; exact HCE.out j x hj) hbs (by simp) (by exact HCAP.out) (by rw [HJN.out, HJJ.out]; have := HL.out; simp only [List.length_append, List.length_cons, List.length_nil]; omega); rw [HJN.out] at hj; refine (show Calls Tryd.prog 32 _ w5 (fun ev w' => ev = .returned (.string (bs J)) ∧ Below w5.heap.size w5 w') from hj).mono ?_; clear hj; rintro ev w6 ⟨rfl, hb⟩; (have HB6 := Aside0.mk (HB5.out.trans (hb.mono HB5.out.size))); clear hb)
    go_ret
    refine ⟨?_, HB6.out⟩
    have et : bs (tellE (.two a b)) = ⟨#[40]⟩ ++ bs J ++ ⟨#[41]⟩ := by
      rw [HJJ.out]
      simp only [tellE]
      rw [← bs_app, ← bs_app]
      rfl
    rw [et]
    rfl
end Go.Proofs.YtcklemjmenifpaaDoor.Fn
