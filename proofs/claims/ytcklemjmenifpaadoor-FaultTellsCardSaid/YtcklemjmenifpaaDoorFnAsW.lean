/- errors.as with *api.Errno as its target, over an error that is a tree: the first number in it. -/
import Derived.Test.YtcklemjmenifpaaDoorFnAs
set_option linter.unusedVariables false
set_option linter.unusedSimpArgs false
namespace Go.Proofs.YtcklemjmenifpaaDoor.Fn
open Go.RowKit Go.Shelf Go.Extern.Stop Go.Stop Go.Extern Go.Proofs.YtcklemjmenifpaaDoorW.PrintWords Go.Proofs.YtcklemjmenifpaaDoorW.PrintLast

/-- The first number in an error. -/
def firstE : Er → Option Int
  | .nil => none
  | .num n => some n
  | .slip _ _ e => firstE e
  | .two a b => match firstE a with
    | some n => some n
    | none => firstE b
/-- Nothing in it is nil. -/
def nnE : Er → Prop
  | .nil => True
  | .num _ => True
  | .slip _ _ e => e ≠ .nil ∧ nnE e
  | .two a b => a ≠ .nil ∧ b ≠ .nil ∧ nnE a ∧ nnE b
theorem first_some : ∀ e : Er, e ≠ .nil → nnE e → ∃ n, firstE e = some n
  | .nil, h, _ => absurd rfl h
  | .num n, _, _ => ⟨n, rfl⟩
  | .slip _ _ e, _, h => first_some e h.1 h.2
  | .two a b, _, h => by
    obtain ⟨n, hn⟩ := first_some a h.1 h.2.2.1
    exact ⟨n, by simp only [firstE, hn]⟩
theorem lacksAs (t : TypeId) (h : t = 37 ∨ t = 81) (v : Value) (xT : TypeId) (w : World) : (Instr.typeAssert (.iface t v) xT 96 true).run Tryd.prog w = .ok (.tuple #[.nilIface, .bool false]) w := by
  rcases h with rfl | rfl <;> exact run_typeAssert_lacksB Tryd.underlying96 (by kernel_rfl) (by kernel_rfl) v xT w
abbrev asArgs (v : Value) (tb ab : Nat) : Array Value := #[v, .iface 47 (.pointer (some ⟨tb, 0, none⟩)), .agg #[H 47, .pointer (some ⟨ab, 0, none⟩), .int .u64 150], .iface 85 (.agg #[H 39])]
/-- errors.as at an error that is not nil: it finds the first number, and puts it where the target points. -/
def AsPost (w : World) (tb : Nat) (n : Int) (ev : Ending) (w' : World) : Prop := ev = .returned (.bool true) ∧ ∃ W1, Below w.heap.size w W1 ∧ w' = W1.setCell ⟨tb, 0, none⟩ (.int .i64 n)
set_option maxRecDepth 100000 in
set_option maxHeartbeats 8000000 in
theorem as_calls (e : Er) : e ≠ .nil → nnE e → ∀ n, firstE e = some n → ∀ (v : Value) (tb ab : Nat) (old : Int) (w : World), EV w e v → w.heap[tb]? = some (.cells #[.int .i64 old] 39 (0, 0)) → w.heap[ab]? = some (.cells #[.pointer (some ⟨tb, 0, none⟩)] 47 (0, 0)) →
    Calls Tryd.prog 29 (asArgs v tb ab) w (AsPost w tb n) := by
  induction hs : szE e using Nat.strongRecOn generalizing e with
  | _ k ih =>
  subst hs
  intro he hn n hf v tb ab old w hv ht ha
  have HV := Aside0.mk hv
  have HB := Aside0.mk (Below.refl w.heap.size w)
  have HI := Aside0.mk ih
  have HE := Aside0.mk he
  have HNN := Aside0.mk hn
  have HF := Aside0.mk hf
  have HT := Aside0.mk ht
  have HA := Aside0.mk ha
  clear ih hv he hn hf ht ha
  have HB0 := Aside0.mk (HB.out.alloc HB.out.size (.cells #[H 47, .pointer (some ⟨ab, 0, none⟩), .int .u64 150] 67))
  have h24 := @run_callFunc_extern Tryd.prog 24 _ Extern.ReflectliteType.typeOf Tryd.func24 (by kernel_rfl) (by kernel_rfl) (by kernel_rfl) (by kernel_rfl)
  have h26 := @run_callFunc_extern Tryd.prog 26 _ (fun args => ReflectliteValue.unpack (args.getD 0 (.tuple #[]))) Tryd.func26 (by kernel_rfl) (by kernel_rfl) (by kernel_rfl) (by kernel_rfl)
  have h36 := @run_callFunc_extern Tryd.prog 36 _ (ReflectliteValue.method (ReflectliteValue.valueError "reflectlite.Value.Elem" 0) ReflectliteValue.elem) Tryd.func36 (by kernel_rfl) (by kernel_rfl) (by kernel_rfl) (by kernel_rfl)
  have h37 := @run_callFunc_extern Tryd.prog 37 _ ReflectliteValue.set Tryd.func37 (by kernel_rfl) (by kernel_rfl) (by kernel_rfl) (by kernel_rfl)
  have h84 := @run_callFunc_extern Tryd.prog 84 _ (ReflectliteType.relation "AssignableTo" ReflectliteType.assignableTo) Tryd.func84 (by kernel_rfl) (by kernel_rfl) (by kernel_rfl) (by kernel_rfl)
  have tO39 := fun v w => as_typeOf 39 (.inl rfl) v w
  have tO37 := fun v w => as_typeOf 37 (.inr (.inl rfl)) v w
  have tO81 := fun v w => as_typeOf 81 (.inr (.inr rfl)) v w
  have a39 := as_asg39
  have a37 := as_asg37_39
  have a81 := as_asg81_39
  have v39 := as_valueOf39
  go_enter Tryd.func29, Tryd.ntmps29
  go_wp2
  go_loopw [0] (fun v wr => ∃ e', EV wr e' v ∧ firstE e' = some n ∧ e' ≠ .nil ∧ nnE e' ∧ szE e' ≤ szE e ∧ Below w.heap.size w wr ∧ wr.heap[w.heap.size]? = some (.cells #[H 47, .pointer (some ⟨ab, 0, none⟩), .int .u64 150] 67 (0, 0)))
    (fun v _ => SizeOf.sizeOf v)
  case atStart => exact ⟨e, HV.out.on HB0.out, HF.out, HE.out, HNN.out, Nat.le_refl _, HB0.out, blk_new w _⟩
  case round =>
    clear HV HB HB0 HE HNN HF
    obtain ⟨e', hv, hh, hne, hnn, hz, hb, hx⟩ := hrel
    have HBX := Aside0.mk hx
    have b0 := (blk_cell hx 0).trans (by rfl : _ = some (H 47))
    have b1 := (blk_cell hx 1).trans (by rfl : _ = some (.pointer (some ⟨ab, 0, none⟩)))
    have b2 := (blk_cell hx 2).trans (by rfl : _ = some (.int .u64 150))
    have HB := Aside0.mk hb
    have HH := Aside0.mk hh
    have HZ := Aside0.mk hz
    have HNN := Aside0.mk hnn
    have HTR := Aside0.mk (blk_below HT.out hb)
    have HAR := Aside0.mk (blk_below HA.out hb)
    clear hb hh hz hnn hx
    cases e' with
    | nil => exact absurd rfl hne
    | num m =>
      obtain rfl := hv
      clear hne
      have eV := as_elemV47 ⟨ab, 0, none⟩ ⟨tb, 0, none⟩ wr ((blk_cell HAR.out 0).trans rfl)
      have W1 := Aside0.mk (blk_alloc HTR.out (.cells #[.int .i64 m] 39))
      have st := as_set39 ⟨tb, 0, none⟩ ⟨wr.heap.size, 0, none⟩ m (.int .i64 old) (wr.alloc (.cells #[.int .i64 m] 39)) ((blk_cell (blk_new wr (.cells #[.int .i64 m] 39)) 0).trans rfl) ((blk_cell W1.out 0).trans rfl) (blk_frozen W1.out 0)
      go_wp2
      go_ret
      have hm : m = n := Option.some.inj HH.out
      subst hm
      exact ⟨rfl, _, HB.out.alloc HB.out.size _, rfl⟩
    | slip s no e1 =>
      obtain ⟨u, rfl, hu⟩ := hv
      obtain ⟨t, x, rfl⟩ := ev_some hu HNN.out.1
      have HU := Aside0.mk hu
      have i37 := lacksAs 37 (.inl rfl)
      have u37 := hasU
      clear hu hne
      go_wp2
      go_roundw
      case rel => exact ⟨e1, HU.out.on ((Below.refl _ wr).alloc (Nat.le_refl _) _), HH.out, HNN.out.1, HNN.out.2, by have := HZ.out; simp only [szE] at this; omega, HB.out.alloc HB.out.size _, blk_alloc HBX.out _⟩
      case measure => simp; omega
    | two a b =>
      obtain ⟨j, g, c, cur, va, vb, rfl, hj, hc, hg, hc0, hc1, ha, hb'⟩ := hv
      obtain ⟨n0, hn0⟩ := first_some a HNN.out.1 HNN.out.2.2.1
      have hnn0 : n0 = n := by
        have := HH.out
        simp only [firstE, hn0] at this
        exact Option.some.inj this
      subst hnn0
      have hza : szE a < szE e := by have := HZ.out; simp only [szE] at this; omega
      have HXA := Aside0.mk (HI.out _ hza a rfl HNN.out.1 HNN.out.2.2.1 _ hn0 va tb ab old wr ha HTR.out HAR.out)
      obtain ⟨t, x, rfl⟩ := ev_some ha HNN.out.1
      have j0 := (blk_cell hj 0).trans (by rfl : _ = some (.slice (some ⟨g, 0, none⟩) 2 c))
      have g0 := (blk_cell hg 0).trans hc0
      have i81 := lacksAs 81 (.inr rfl)
      have u81 := lacksU 81 (.inr rfl)
      have s81 := hasUs
      clear hj hc hg hc0 hc1 ha hb' hza hn0 hne
      go_wp2
      refine wp_loop_rounds 3 ?_
      rw [rounds_succ]
      go_wp2_with (first | (go_at_call 29; refine HXA.out.mono ?_; rintro ev w1 ⟨rfl, W1, hW1, rfl⟩; (have HW1 := Aside0.mk (HB.out.trans (hW1.mono HB.out.size))); clear hW1))
      go_ret
      exact ⟨rfl, W1, HW1.out, rfl⟩
/-! ### errors.As -/
theorem as_nil (t : Value) (w : World) : Calls Tryd.prog 16 #[.nilIface, t] w fun e w' => e = .returned (.bool false) ∧ Below w.heap.size w w' := by
  have HB := Aside0.mk (Below.refl w.heap.size w)
  go_enter Tryd.func16, Tryd.ntmps16
  go_wp2
  go_ret
  exact ⟨rfl, HB.out⟩
set_option maxRecDepth 100000 in
set_option maxHeartbeats 8000000 in
theorem as_top (e : Er) (he : e ≠ .nil) (hn : nnE e) (n : Int) (hf : firstE e = some n) (v : Value) (tb : Nat) (old : Int) (w : World) (hv : EV w e v) (ht : w.heap[tb]? = some (.cells #[.int .i64 old] 39 (0, 0))) (hg : w.cell? ⟨0, 0, none⟩ = some (.iface 85 (.agg #[H 26]))) :
    Calls Tryd.prog 16 #[v, .iface 47 (.pointer (some ⟨tb, 0, none⟩))] w (AsPost w tb n) := by
  have hlt : 0 < w.heap.size := by
    rcases Nat.eq_zero_or_pos w.heap.size with h0 | h
    · simp [World.cell?, h0] at hg
    · exact h
  have HB := Aside0.mk ((Below.refl w.heap.size w).alloc (Nat.le_refl _) (.cells #[.pointer (some ⟨tb, 0, none⟩)] 47))
  have HG := Aside0.mk hg
  have n8 := fun W (h : W.cell? ⟨w.heap.size, 0, none⟩ = some (.pointer (some ⟨tb, 0, none⟩))) => as_isNil47 ⟨w.heap.size, 0, none⟩ ⟨tb, 0, none⟩ W h
  have HC := Aside0.mk (fun (W : World) (hW : Below (w.alloc (.cells #[.pointer (some ⟨tb, 0, none⟩)] 47)).heap.size (w.alloc (.cells #[.pointer (some ⟨tb, 0, none⟩)] 47)) W) => as_calls e he hn n hf v tb w.heap.size old W ((hv.on HB.out).on hW) (blk_below (blk_alloc ht _) hW) (blk_below (blk_new w _) hW))
  obtain ⟨t, x, rfl⟩ := ev_some hv he
  clear he hn hf hv ht
  have h26 := @run_callFunc_extern Tryd.prog 26 _ (fun args => ReflectliteValue.unpack (args.getD 0 (.tuple #[]))) Tryd.func26 (by kernel_rfl) (by kernel_rfl) (by kernel_rfl) (by kernel_rfl)
  have h27 := @run_callFunc_extern Tryd.prog 27 _ (ReflectliteValue.methodAny (ReflectliteValue.valueError "reflectlite.Value.Type" 0) (fun t _ _ _ => ReflectliteType.toType t)) Tryd.func27 (by kernel_rfl) (by kernel_rfl) (by kernel_rfl) (by kernel_rfl)
  have h28 := @run_callFunc_extern Tryd.prog 28 _ (ReflectliteValue.method (ReflectliteValue.valueError "reflectlite.Value.IsNil" 0) ReflectliteValue.isNil) Tryd.func28 (by kernel_rfl) (by kernel_rfl) (by kernel_rfl) (by kernel_rfl)
  have h72 := @run_callFunc_extern Tryd.prog 72 _ (ReflectliteType.abiMethod fun t => do pure (.int .u8 (← Rtype.kind t))) Tryd.func72 (by kernel_rfl) (by kernel_rfl) (by kernel_rfl) (by kernel_rfl)
  have h86 := @run_callFunc_extern Tryd.prog 86 _ (ReflectliteType.method ReflectliteType.elem) Tryd.func86 (by kernel_rfl) (by kernel_rfl) (by kernel_rfl) (by kernel_rfl)
  have h87 := @run_callFunc_extern Tryd.prog 87 _ (ReflectliteType.relation "Implements" ReflectliteType.implements_) Tryd.func87 (by kernel_rfl) (by kernel_rfl) (by kernel_rfl) (by kernel_rfl)
  have f26 := as_valueOf47
  have f27 := as_type47
  have kP := as_kind47
  have kT := as_kind39
  have eP := as_elem47
  have iT := as_impl39
  go_enter Tryd.func16, Tryd.ntmps16
  go_wp2_with (go_at_call 29; refine (HC.out _ (by repeat (first | exact Below.refl _ _ | refine Below.alloc ?_ (by simp [World.size_alloc]) _))).mono ?_; rintro ev w1 ⟨rfl, W1, hW1, rfl⟩; have HW1 := Aside0.mk hW1; clear hW1)
  go_ret
  refine ⟨rfl, W1, ?_, rfl⟩
  refine Below.trans ?_ (HW1.out.mono (by simp [World.size_alloc]; omega))
  repeat (first | exact HB.out | refine Below.alloc ?_ (by simp only [World.size_alloc]; omega) _)
end Go.Proofs.YtcklemjmenifpaaDoor.Fn
