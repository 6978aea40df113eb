/- errors.As with *api.Slip as its target, at an error that is a Slip. -/
import Derived.Test.YtcklemjmenifpaaDoorFnAsW
set_option linter.unusedVariables false
set_option linter.unusedSimpArgs false
namespace Go.Proofs.YtcklemjmenifpaaDoor.Fn
open Go.RowKit Go.Shelf Go.Extern.Stop Go.Stop Go.Extern Go.Proofs.YtcklemjmenifpaaDoorW.PrintWords Go.Proofs.YtcklemjmenifpaaDoorW.PrintLast

def put3 (W : World) (tb : Nat) (s : ByteArray) (no : Int) (v : Value) : World := ((W.setCell ⟨tb, 0, none⟩ (.string s)).setCell ⟨tb, 1, none⟩ (.int .i64 no)).setCell ⟨tb, 2, none⟩ v
theorem as_set37 (tb bb : Nat) (s : ByteArray) (no : Int) (t : TypeId) (u : Value) (o0 o1 o2 : Value) (W : World) (hb : W.heap[bb]? = some (.cells #[.string s, .int .i64 no, .iface t u] 37 (0, 0))) (ht : W.heap[tb]? = some (.cells #[o0, o1, o2] 37 (0, 0))) :
    (ReflectliteValue.set #[.agg #[H 37, .pointer (some ⟨tb, 0, none⟩), .int .u64 409], .agg #[H 37, .pointer (some ⟨bb, 0, none⟩), .int .u64 153]]).run Tryd.prog W = .ok (.tuple #[]) (put3 W tb s no (.iface t u)) := by
  have l0 := (blk_cell hb 0).trans (by rfl : _ = some (.string s))
  have l1 := (blk_cell hb 1).trans (by rfl : _ = some (.int .i64 no))
  have l2 := (blk_cell hb 2).trans (by rfl : _ = some (.iface t u))
  have A0 := (blk_cell ht 0).trans (by rfl : _ = some o0)
  have F0 := blk_frozen ht 0
  have B := blk_put (cs' := #[.string s, o1, o2]) ht 0 (.string s) rfl
  have A1 := (blk_cell B 1).trans (by rfl : _ = some o1)
  have F1 := blk_frozen B 1
  have C := blk_put (cs' := #[.string s, .int .i64 no, o2]) B 1 (.int .i64 no) rfl
  have A2 := (blk_cell C 2).trans (by rfl : _ = some o2)
  have F2 := blk_frozen C 2
  have hl : (loadCells ⟨bb, 0, none⟩ 3).run Tryd.prog W = .ok #[.string s, .int .i64 no, .iface t u] W := by
    simp [loadCells, loadCellsFrom, Addr.add, l0, l1, l2, Result.andThen]
  have hs : (storeCells ⟨tb, 0, none⟩ [.string s, .int .i64 no, .iface t u]).run Tryd.prog W = .ok () (put3 W tb s no (.iface t u)) := by
    simp only [storeCells, Sem.run_bind, Addr.add]
    rw [run_store Tryd.prog W _ _ _ (by rfl)]
    simp [A0, F0, Result.andThen]
    rw [run_store Tryd.prog _ _ _ _ (by rfl)]
    simp [A1, F1, Result.andThen]
    rw [run_store Tryd.prog _ _ _ _ (by rfl)]
    simp [A2, F2, Result.andThen, put3]
  rw [rls]
  simp only [Sem.run_bind, as_parts37a, as_parts37, Result.andThen]
  simp [ReflectliteValue.flagAddr, loadVar, isAgg, underlying, Tryd.underlying37, Result.andThen, as_direct37, storeVar, Value.cells, hl, hs]
set_option maxRecDepth 100000 in
set_option maxHeartbeats 8000000 in
theorem as_slip (s : ByteArray) (no : Int) (t : TypeId) (u : Value) (tb : Nat) (o0 o1 o2 : Value) (w : World) (ht : w.heap[tb]? = some (.cells #[o0, o1, o2] 37 (0, 0))) (hg : w.cell? ⟨0, 0, none⟩ = some (.iface 85 (.agg #[H 26]))) :
    Calls Tryd.prog 16 #[.iface 37 (.agg #[.string s, .int .i64 no, .iface t u]), .iface 46 (.pointer (some ⟨tb, 0, none⟩))] w fun ev w' => ev = .returned (.bool true) ∧ ∃ W1, Below w.heap.size w W1 ∧ W1.heap[tb]? = some (.cells #[o0, o1, o2] 37 (0, 0)) ∧ w' = put3 W1 tb s no (.iface t u) := by
  have hlt : 0 < w.heap.size := by
    rcases Nat.eq_zero_or_pos w.heap.size with h0 | h
    · simp [World.cell?, h0] at hg
    · exact h
  have HB := Aside0.mk (((((Below.refl w.heap.size w).alloc (Nat.le_refl _) (.cells #[.pointer (some ⟨tb, 0, none⟩)] 46)).alloc (by simp only [World.size_alloc]; omega) (.cells #[H 46, .pointer (some ⟨w.heap.size, 0, none⟩), .int .u64 150] 67)).alloc (by simp only [World.size_alloc]; omega) (.cells #[H 46, .pointer (some ⟨w.heap.size, 0, none⟩), .int .u64 150] 67)).alloc (by simp only [World.size_alloc]; omega) (.cells #[.string s, .int .i64 no, .iface t u] 37))
  have HT := Aside0.mk (blk_below ht HB.out)
  have n8 := fun W (h : W.cell? ⟨w.heap.size, 0, none⟩ = some (.pointer (some ⟨tb, 0, none⟩))) => as_isNil46 ⟨w.heap.size, 0, none⟩ ⟨tb, 0, none⟩ W h
  have n9 := as_elemV46 ⟨w.heap.size, 0, none⟩ ⟨tb, 0, none⟩ (((w.alloc (.cells #[.pointer (some ⟨tb, 0, none⟩)] 46)).alloc (.cells #[H 46, .pointer (some ⟨w.heap.size, 0, none⟩), .int .u64 150] 67)).alloc (.cells #[H 46, .pointer (some ⟨w.heap.size, 0, none⟩), .int .u64 150] 67)) ((blk_cell (blk_alloc (blk_alloc (blk_new w (.cells #[.pointer (some ⟨tb, 0, none⟩)] 46)) _) _) 0).trans rfl)
  have st := as_set37 tb (w.heap.size + 1 + 1 + 1) s no t u o0 o1 o2 ((((w.alloc (.cells #[.pointer (some ⟨tb, 0, none⟩)] 46)).alloc (.cells #[H 46, .pointer (some ⟨w.heap.size, 0, none⟩), .int .u64 150] 67)).alloc (.cells #[H 46, .pointer (some ⟨w.heap.size, 0, none⟩), .int .u64 150] 67)).alloc (.cells #[.string s, .int .i64 no, .iface t u] 37)) (by have := blk_new (((w.alloc (.cells #[.pointer (some ⟨tb, 0, none⟩)] 46)).alloc (.cells #[H 46, .pointer (some ⟨w.heap.size, 0, none⟩), .int .u64 150] 67)).alloc (.cells #[H 46, .pointer (some ⟨w.heap.size, 0, none⟩), .int .u64 150] 67)) (.cells #[.string s, .int .i64 no, .iface t u] 37); simp only [World.size_alloc] at this; exact this) HT.out
  clear ht
  have h26 := @run_callFunc_extern Tryd.prog 26 _ (fun args => ReflectliteValue.unpack (args.getD 0 (.tuple #[]))) Tryd.func26 (by kernel_rfl) (by kernel_rfl) (by kernel_rfl) (by kernel_rfl)
  have h27 := @run_callFunc_extern Tryd.prog 27 _ (ReflectliteValue.methodAny (ReflectliteValue.valueError "reflectlite.Value.Type" 0) (fun t _ _ _ => ReflectliteType.toType t)) Tryd.func27 (by kernel_rfl) (by kernel_rfl) (by kernel_rfl) (by kernel_rfl)
  have h28 := @run_callFunc_extern Tryd.prog 28 _ (ReflectliteValue.method (ReflectliteValue.valueError "reflectlite.Value.IsNil" 0) ReflectliteValue.isNil) Tryd.func28 (by kernel_rfl) (by kernel_rfl) (by kernel_rfl) (by kernel_rfl)
  have h72 := @run_callFunc_extern Tryd.prog 72 _ (ReflectliteType.abiMethod fun t => do pure (.int .u8 (← Rtype.kind t))) Tryd.func72 (by kernel_rfl) (by kernel_rfl) (by kernel_rfl) (by kernel_rfl)
  have h86 := @run_callFunc_extern Tryd.prog 86 _ (ReflectliteType.method ReflectliteType.elem) Tryd.func86 (by kernel_rfl) (by kernel_rfl) (by kernel_rfl) (by kernel_rfl)
  have h87 := @run_callFunc_extern Tryd.prog 87 _ (ReflectliteType.relation "Implements" ReflectliteType.implements_) Tryd.func87 (by kernel_rfl) (by kernel_rfl) (by kernel_rfl) (by kernel_rfl)
  have f26 := as_valueOf46
  have f27 := as_type46
  have kP := as_kind46
  have kT := as_kind37
  have eP := as_elem46
  have iT := as_impl37
  have h24 := @run_callFunc_extern Tryd.prog 24 _ Extern.ReflectliteType.typeOf Tryd.func24 (by kernel_rfl) (by kernel_rfl) (by kernel_rfl) (by kernel_rfl)
  have h36 := @run_callFunc_extern Tryd.prog 36 _ (ReflectliteValue.method (ReflectliteValue.valueError "reflectlite.Value.Elem" 0) ReflectliteValue.elem) Tryd.func36 (by kernel_rfl) (by kernel_rfl) (by kernel_rfl) (by kernel_rfl)
  have h37 := @run_callFunc_extern Tryd.prog 37 _ ReflectliteValue.set Tryd.func37 (by kernel_rfl) (by kernel_rfl) (by kernel_rfl) (by kernel_rfl)
  have h84 := @run_callFunc_extern Tryd.prog 84 _ (ReflectliteType.relation "AssignableTo" ReflectliteType.assignableTo) Tryd.func84 (by kernel_rfl) (by kernel_rfl) (by kernel_rfl) (by kernel_rfl)
  have tO37 := fun v w => as_typeOf 37 (.inr (.inl rfl)) v w
  have a37 := as_asg37
  have v37 := as_valueOf37
  go_enter Tryd.func16, Tryd.ntmps16
  go_wp2
  refine wp_loop_rounds 1 ?_
  rw [rounds_succ]
  go_wp2
  go_ret
  exact ⟨rfl, _, HB.out, HT.out, rfl⟩
end Go.Proofs.YtcklemjmenifpaaDoor.Fn
