/- errors.Is over an error that is a tree, with a number as its target: is the number in it? -/
import Derived.Test.YtcklemjmenifpaaDoorFnErr
import Derived.Lib.IfaceEq
set_option linter.unusedVariables false
set_option linter.unusedSimpArgs false
namespace Go.Proofs.YtcklemjmenifpaaDoor.Fn
open Go.RowKit Go.Shelf Go.Extern.Stop Go.Stop Go.Extern Go.Proofs.YtcklemjmenifpaaDoorW.PrintWords Go.Proofs.YtcklemjmenifpaaDoorW.PrintLast

/-! ### Both -/
def bothE : Er → Er → Er
  | .nil, b => b
  | a, .nil => a
  | a, b => .two a b
theorem ev_nil {W : World} {e : Er} {v : Value} (h : EV W e v) (hv : v = .nilIface) : e = .nil := by
  cases e with
  | nil => rfl
  | num n => subst hv; cases h
  | slip s no e => obtain ⟨u, h1, _⟩ := h; rw [hv] at h1; cases h1
  | two a b => obtain ⟨j, g, c, cur, va, vb, h1, _⟩ := h; rw [hv] at h1; cases h1
theorem ev_some {W : World} {e : Er} {v : Value} (h : EV W e v) (he : e ≠ .nil) : ∃ t u, v = .iface t u := by
  cases e with
  | nil => exact absurd rfl he
  | num n => exact ⟨_, _, h⟩
  | slip s no e => obtain ⟨u, h1, _⟩ := h; exact ⟨_, _, h1⟩
  | two a b => obtain ⟨j, g, c, cur, va, vb, h1, _⟩ := h; exact ⟨_, _, h1⟩
theorem both_some {a b : Er} (ha : a ≠ .nil) (hb : b ≠ .nil) : bothE a b = .two a b := by
  cases a <;> cases b <;> first | rfl | exact absurd rfl ha | exact absurd rfl hb
theorem both_calls (a b : Er) (va vb : Value) (w : World) (ha : EV w a va) (hb : EV w b vb) : Calls Tryd.prog 13 #[va, vb] w fun e w' => (∃ v, e = .returned v ∧ EV w' (bothE a b) v) ∧ Below w.heap.size w w' := by
  have HB := Aside0.mk (Below.refl w.heap.size w)
  by_cases h0 : a = .nil
  · subst h0
    have H := Aside0.mk hb
    obtain rfl : va = .nilIface := ha
    clear hb
    go_enter Tryd.func13, Tryd.ntmps13
    go_wp2
    go_ret
    exact ⟨⟨_, rfl, H.out⟩, HB.out⟩
  · obtain ⟨t, u, rfl⟩ := ev_some ha h0
    by_cases h1 : b = .nil
    · subst h1
      obtain rfl : vb = .nilIface := hb
      have H := Aside0.mk (show EV w (bothE a .nil) (.iface t u) by cases a <;> first | exact absurd rfl h0 | exact ha)
      clear ha
      go_enter Tryd.func13, Tryd.ntmps13
      go_wp2
      go_ret
      exact ⟨⟨_, rfl, H.out⟩, HB.out⟩
    · obtain ⟨t', u', rfl⟩ := ev_some hb h1
      have HA := Aside0.mk ha
      have HBB := Aside0.mk hb
      have H2 := Aside0.mk (both_some h0 h1)
      clear ha hb
      go_enter Tryd.func13, Tryd.ntmps13
      go_wp2_with (go_at_call 23; refine (join_calls t t' u u' _ _ (blk_new _ _)).mono ?_; rintro e w1 ⟨⟨j, g', c, cur, rfl, hj, hc, hg, hc0, hc1⟩, hb⟩; (have HB1 := Aside0.mk ((HB.out.alloc HB.out.size _).trans (hb.mono (by rw [World.size_alloc]; omega)))); (have HJ := Aside0.mk (And.intro hj (And.intro hc (And.intro hg (And.intro hc0 hc1))))); clear hb hj hc hg hc0 hc1)
      go_ret
      refine ⟨⟨_, rfl, ?_⟩, HB1.out⟩
      rw [H2.out]
      obtain ⟨hj, hc, hg, hc0, hc1⟩ := HJ.out
      exact ⟨j, g', c, cur, _, _, rfl, hj, hc, hg, hc0, hc1, HA.out.on HB1.out, HBB.out.on HB1.out⟩

/-! ### errors.is -/
def hasE (n : Int) : Er → Bool
  | .nil => false
  | .num m => decide (m = n)
  | .slip _ _ e => hasE n e
  | .two a b => hasE n a || hasE n b
def szE : Er → Nat
  | .nil => 0
  | .num _ => 1
  | .slip _ _ e => szE e + 1
  | .two a b => szE a + szE b + 1
theorem lacksIs (t : TypeId) (h : t = 39 ∨ t = 37 ∨ t = 81) (v : Value) (xT : TypeId) (w : World) : (Instr.typeAssert (.iface t v) xT 87 true).run Tryd.prog w = .ok (.tuple #[.nilIface, .bool false]) w := by
  rcases h with rfl | rfl | rfl <;> exact run_typeAssert_lacksB Tryd.underlying87 (by kernel_rfl) (by kernel_rfl) v xT w
theorem lacksU (t : TypeId) (h : t = 39 ∨ t = 81) (v : Value) (xT : TypeId) (w : World) : (Instr.typeAssert (.iface t v) xT 90 true).run Tryd.prog w = .ok (.tuple #[.nilIface, .bool false]) w := by
  rcases h with rfl | rfl <;> exact run_typeAssert_lacksB Tryd.underlying90 (by kernel_rfl) (by kernel_rfl) v xT w
theorem hasU (v : Value) (xT : TypeId) (w : World) : (Instr.typeAssert (.iface 37 v) xT 90 true).run Tryd.prog w = .ok (.tuple #[.iface 37 v, .bool true]) w := run_typeAssert_hasB Tryd.underlying90 (by kernel_rfl) v xT w
theorem lacksUs (t : TypeId) (h : t = 39 ∨ t = 37) (v : Value) (xT : TypeId) (w : World) : (Instr.typeAssert (.iface t v) xT 92 true).run Tryd.prog w = .ok (.tuple #[.nilIface, .bool false]) w := by
  rcases h with rfl | rfl <;> exact run_typeAssert_lacksB Tryd.underlying92 (by kernel_rfl) (by kernel_rfl) v xT w
theorem hasUs (v : Value) (xT : TypeId) (w : World) : (Instr.typeAssert (.iface 81 v) xT 92 true).run Tryd.prog w = .ok (.tuple #[.iface 81 v, .bool true]) w := run_typeAssert_hasB Tryd.underlying92 (by kernel_rfl) v xT w
theorem slip_unwrap (s : ByteArray) (no : Int) (u : Value) (w : World) : Calls Tryd.prog 76 #[.agg #[.string s, .int .i64 no, u]] w fun e w' => e = .returned u ∧ Below w.heap.size w w' := by
  have HB := Aside0.mk (show Below w.heap.size w (w.alloc (.cells #[.string s, .int .i64 no, u] 37)) from (Below.refl _ w).alloc (Nat.le_refl _) _)
  have HB0 := Aside0.mk (Below.refl w.heap.size w)
  go_enter Tryd.func76, Tryd.ntmps76
  go_wp2
  go_ret
  exact ⟨rfl, by first | exact HB.out | exact HB0.out⟩
theorem join_unwrap (j : Nat) (r : Value) (w : World) (h : w.heap[j]? = some (.cells #[r] 83 (0, 0))) : Calls Tryd.prog 82 #[.pointer (some ⟨j, 0, none⟩)] w fun e w' => e = .returned r ∧ Below w.heap.size w w' := by
  have HB0 := Aside0.mk (Below.refl w.heap.size w)
  have j0 := (blk_cell h 0).trans (by rfl : _ = some r)
  clear h
  go_enter Tryd.func82, Tryd.ntmps82
  go_wp2
  go_ret
  exact ⟨rfl, HB0.out⟩
set_option maxRecDepth 100000 in
set_option maxHeartbeats 4000000 in
theorem is_calls (n : Int) (e : Er) : ∀ (v : Value) (w : World), EV w e v → Calls Tryd.prog 25 #[v, .iface 39 (.int .i64 n), .bool true] w fun ev w' => ev = .returned (.bool (hasE n e)) ∧ Below w.heap.size w w' := by
  induction hs : szE e using Nat.strongRecOn generalizing e with
  | _ k ih =>
  subst hs
  intro v w hv
  have HV := Aside0.mk hv
  have HB := Aside0.mk (Below.refl w.heap.size w)
  have HI := Aside0.mk ih
  clear ih hv
  go_enter Tryd.func25, Tryd.ntmps25
  go_wp2
  go_loopw [0] (fun v wr => ∃ e', EV wr e' v ∧ hasE n e' = hasE n e ∧ szE e' ≤ szE e ∧ Below w.heap.size w wr)
    (fun v _ => SizeOf.sizeOf v)
  case atStart => exact ⟨e, HV.out, rfl, Nat.le_refl _, HB.out⟩
  case round =>
    clear HV HB
    obtain ⟨e', hv, hh, hz, hb⟩ := hrel
    have HB := Aside0.mk hb
    have HH := Aside0.mk hh
    have HZ := Aside0.mk hz
    clear hb hh hz
    have i39 := lacksIs 39 (.inl rfl)
    have i37 := lacksIs 37 (.inr (.inl rfl))
    have i81 := lacksIs 81 (.inr (.inr rfl))
    have u39 := lacksU 39 (.inl rfl)
    have u81 := lacksU 81 (.inr rfl)
    have u37 := hasU
    have s39 := lacksUs 39 (.inl rfl)
    have s81 := hasUs
    cases e' with
    | nil =>
      obtain rfl := hv
      have hn := fun w => run_eql_iface_nil_left (P := Tryd.prog) w 39 (.int .i64 n) Tryd.underlying26
      have a1 : ∀ w, (Instr.typeAssert .nilIface 26 87 true).run Tryd.prog w = .ok (.tuple #[.nilIface, .bool false]) w := fun _ => by kernel_rfl
      have a2 : ∀ w, (Instr.typeAssert .nilIface 26 90 true).run Tryd.prog w = .ok (.tuple #[.nilIface, .bool false]) w := fun _ => by kernel_rfl
      have a3 : ∀ w, (Instr.typeAssert .nilIface 26 92 true).run Tryd.prog w = .ok (.tuple #[.nilIface, .bool false]) w := fun _ => by kernel_rfl
      go_wp2
      go_ret
      exact ⟨by rw [← HH.out]; rfl, HB.out⟩
    | num m =>
      obtain rfl := hv
      have he := fun w => Lib.run_eql_iface_int (P := Tryd.prog) (k := .i64) w m n Tryd.underlying26 (by kernel_rfl : (Tryd.prog.info? 39).map (·.comparable) = some true) Tryd.underlying39
      by_cases hm : m = n
      · have e0 : (m == n) = true := beq_iff_eq.2 hm
        have HM := Aside0.mk hm
        clear hm
        go_wp2
        go_ret
        exact ⟨by rw [← HH.out]; simp only [hasE]; rw [decide_eq_true HM.out]; rfl, HB.out⟩
      · have e0 : (m == n) = false := beq_eq_false_iff_ne.2 hm
        have HM := Aside0.mk hm
        clear hm
        go_wp2
        go_ret
        exact ⟨by rw [← HH.out]; simp only [hasE]; rw [decide_eq_false HM.out]; rfl, HB.out⟩
    | slip s no e1 =>
      obtain ⟨u, rfl, hu⟩ := hv
      have hty := fun w => run_eql_iface_types (P := Tryd.prog) 37 39 (.agg #[.string s, .int .i64 no, u]) (.int .i64 n) Tryd.underlying26 (by decide) w
      by_cases h1 : e1 = .nil
      · subst h1
        obtain rfl := hu
        go_wp2
        go_ret
        exact ⟨by rw [← HH.out]; rfl, HB.out.alloc HB.out.size _⟩
      · obtain ⟨t, x, rfl⟩ := ev_some hu h1
        have HU := Aside0.mk hu
        have HN := Aside0.mk h1
        clear hu h1
        go_wp2
        go_roundw
        case rel => exact ⟨e1, HU.out.on ((Below.refl _ wr).alloc (Nat.le_refl _) _), HH.out, by have := HZ.out; simp only [szE] at this; omega, HB.out.alloc HB.out.size _⟩
        case measure => simp; omega
    | two a b =>
      obtain ⟨j, g, c, cur, va, vb, rfl, hj, hc, hg, hc0, hc1, ha, hb'⟩ := hv
      have hty := fun w => run_eql_iface_types (P := Tryd.prog) 81 39 (.pointer (some ⟨j, 0, none⟩)) (.int .i64 n) Tryd.underlying26 (by decide) w
      have j0 := (blk_cell hj 0).trans (by rfl : _ = some (.slice (some ⟨g, 0, none⟩) 2 c))
      have g0 := (blk_cell hg 0).trans hc0
      have g1 := (blk_cell hg 1).trans hc1
      have hza : szE a < szE e := by have := HZ.out; simp only [szE] at this; omega
      have hzb : szE b < szE e := by have := HZ.out; simp only [szE] at this; omega
      have HXA := Aside0.mk (fun (W : World) (hW : Below w.heap.size w W) (hK : Below wr.heap.size wr W) => HI.out _ hza a rfl va W (ha.on hK))
      have HXB := Aside0.mk (fun (W : World) (hW : Below w.heap.size w W) (hK : Below wr.heap.size wr W) => HI.out _ hzb b rfl vb W (hb'.on hK))
      have HG := Aside0.mk hg
      have HC0 := Aside0.mk hc0
      have HC1 := Aside0.mk hc1
      have HR := Aside0.mk (Below.refl wr.heap.size wr)
      clear hj hc hg hc0 hc1 ha hb' hza hzb HZ
      cases hA : hasE n a
      · rw [hA] at HXA
        cases hB : hasE n b
        · rw [hB] at HXB
          have HE := Aside0.mk (show hasE n e = false by rw [← HH.out]; simp only [hasE, hA, hB, Bool.or_self])
          clear hA hB HH
          go_wp2
          refine wp_loop_rounds 3 ?_
          rw [rounds_succ]
          go_wp2_with (first | (go_at_call 25; refine (HXA.out _ HB.out HR.out).mono ?_; rintro ev w1 ⟨rfl, hb⟩; (have HB1 := Aside0.mk (HB.out.trans (hb.mono HB.out.size))); (have HR1 := Aside0.mk (HR.out.trans (hb.mono HR.out.size))); (have k1 := (blk_cell (blk_below HG.out HR1.out) 1).trans HC1.out); clear hb))
          rw [rounds_succ]
          go_wp2_with (first | (go_at_call 25; refine (HXB.out _ HB1.out HR1.out).mono ?_; rintro ev w2 ⟨rfl, hb⟩; (have HB2 := Aside0.mk (HB1.out.trans (hb.mono HB1.out.size))); clear hb))
          rw [rounds_succ]
          go_wp2
          go_ret
          exact ⟨by rw [HE.out]; rfl, HB2.out⟩
        · rw [hB] at HXB
          have HE := Aside0.mk (show hasE n e = true by rw [← HH.out]; simp only [hasE, hA, hB, Bool.or_true])
          clear hA hB HH
          go_wp2
          refine wp_loop_rounds 3 ?_
          rw [rounds_succ]
          go_wp2_with (first | (go_at_call 25; refine (HXA.out _ HB.out HR.out).mono ?_; rintro ev w1 ⟨rfl, hb⟩; (have HB1 := Aside0.mk (HB.out.trans (hb.mono HB.out.size))); (have HR1 := Aside0.mk (HR.out.trans (hb.mono HR.out.size))); (have k1 := (blk_cell (blk_below HG.out HR1.out) 1).trans HC1.out); clear hb))
          rw [rounds_succ]
          go_wp2_with (first | (go_at_call 25; refine (HXB.out _ HB1.out HR1.out).mono ?_; rintro ev w2 ⟨rfl, hb⟩; (have HB2 := Aside0.mk (HB1.out.trans (hb.mono HB1.out.size))); clear hb))
          go_ret
          exact ⟨by rw [HE.out]; rfl, HB2.out⟩
      · rw [hA] at HXA
        have HE := Aside0.mk (show hasE n e = true by rw [← HH.out]; simp only [hasE, hA, Bool.true_or])
        clear hA HH
        go_wp2
        refine wp_loop_rounds 3 ?_
        rw [rounds_succ]
        go_wp2_with (first | (go_at_call 25; refine (HXA.out _ HB.out HR.out).mono ?_; rintro ev w1 ⟨rfl, hb⟩; (have HB1 := Aside0.mk (HB.out.trans (hb.mono HB.out.size))); (have HR1 := Aside0.mk (HR.out.trans (hb.mono HR.out.size))); (have k1 := (blk_cell (blk_below HG.out HR1.out) 1).trans HC1.out); clear hb))
        go_ret
        exact ⟨by rw [HE.out]; rfl, HB1.out⟩
def cmpF : Array Value → Sem Value := Extern.ReflectliteType.method fun t => do Extern.Rtype.noPackHeld "Comparable" t; pure (.bool (← typeInfo t).comparable)
theorem typeOf39 (v : Value) (w : World) : (Extern.ReflectliteType.typeOf #[.iface 39 v]).run Tryd.prog w = .ok (.iface 85 (.agg #[.pointer (some ⟨5, 39, none⟩)])) w := by kernel_rfl
theorem comparable39 (w : World) : (cmpF #[.agg #[.pointer (some ⟨5, 39, none⟩)]]).run Tryd.prog w = .ok (.bool true) w := by kernel_rfl
set_option maxRecDepth 100000 in
set_option maxHeartbeats 4000000 in
theorem is_top (n : Int) (e : Er) (v : Value) (w : World) (hv : EV w e v) (he : e ≠ .nil) : Calls Tryd.prog 15 #[v, .iface 39 (.int .i64 n)] w fun ev w' => ev = .returned (.bool (hasE n e)) ∧ Below w.heap.size w w' := by
  have HB := Aside0.mk (Below.refl w.heap.size w)
  have HI := Aside0.mk (is_calls n e v w hv)
  obtain ⟨t, u, rfl⟩ := ev_some hv he
  clear hv he
  have h24 := @run_callFunc_extern Tryd.prog 24 _ Extern.ReflectliteType.typeOf Tryd.func24 (by kernel_rfl) (by kernel_rfl) (by kernel_rfl) (by kernel_rfl)
  have h85 := @run_callFunc_extern Tryd.prog 85 _ cmpF Tryd.func85 (by kernel_rfl) (by kernel_rfl) (by kernel_rfl) (by kernel_rfl)
  have tT := typeOf39
  have cT := comparable39
  go_enter Tryd.func15, Tryd.ntmps15
  go_wp2_with (go_at_call 25; refine HI.out.mono ?_; rintro ev w1 ⟨rfl, hb⟩; (have HB1 := Aside0.mk (HB.out.trans hb)); clear hb)
  go_ret
  exact ⟨rfl, HB1.out⟩
theorem has_calls (n : Int) (e : Er) (v : Value) (w : World) (hv : EV w e v) : Calls Tryd.prog 11 #[v, .int .i64 n] w fun ev w' => ev = .returned (.bool (hasE n e)) ∧ Below w.heap.size w w' := by
  have HB := Aside0.mk (Below.refl w.heap.size w)
  by_cases he : e = .nil
  · subst he
    obtain rfl := hv
    go_enter Tryd.func11, Tryd.ntmps11
    go_wp2
    go_ret
    exact ⟨rfl, HB.out⟩
  · have HI := Aside0.mk (is_top n e v w hv he)
    obtain ⟨t, u, rfl⟩ := ev_some hv he
    clear hv he
    go_enter Tryd.func11, Tryd.ntmps11
    go_wp2_with (go_at_call 15; refine HI.out.mono ?_; rintro ev w1 ⟨rfl, hb⟩; (have HB1 := Aside0.mk (HB.out.trans hb)); clear hb)
    go_ret
    exact ⟨rfl, HB1.out⟩
end Go.Proofs.YtcklemjmenifpaaDoor.Fn
