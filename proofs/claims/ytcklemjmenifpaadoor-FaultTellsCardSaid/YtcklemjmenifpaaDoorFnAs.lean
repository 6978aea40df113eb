/- errors.As over an error that is a tree: with *api.Errno as its target (the first number), and *api.Slip at an error that is one. -/
import Derived.Test.YtcklemjmenifpaaDoorFnTell
set_option linter.unusedVariables false
set_option linter.unusedSimpArgs false
namespace Go.Proofs.YtcklemjmenifpaaDoor.Fn
open Go.RowKit Go.Shelf Go.Extern.Stop Go.Stop Go.Extern Go.Proofs.YtcklemjmenifpaaDoorW.PrintWords Go.Proofs.YtcklemjmenifpaaDoorW.PrintLast

/-! ### closed facts on the model's entries for internal/reflectlite, at this program's types: 39 Errno, 37 Slip, 47 *Errno, 46 *Slip, 81 *joinError, 26 error, 85 rtype -/
abbrev H (t : TypeId) : Value := .pointer (some ⟨5, t, none⟩)
theorem as_valueOf47 (t : Addr) (w : World) : (ReflectliteValue.unpack (.iface 47 (.pointer (some t)))).run Tryd.prog w = .ok (.agg #[H 47, .pointer (some ⟨w.heap.size, 0, none⟩), .int .u64 150]) (w.alloc (.cells #[.pointer (some t)] 47)) := by kernel_rfl
theorem as_valueOf46 (t : Addr) (w : World) : (ReflectliteValue.unpack (.iface 46 (.pointer (some t)))).run Tryd.prog w = .ok (.agg #[H 46, .pointer (some ⟨w.heap.size, 0, none⟩), .int .u64 150]) (w.alloc (.cells #[.pointer (some t)] 46)) := by kernel_rfl
theorem as_valueOf39 (n : Int) (w : World) : (ReflectliteValue.unpack (.iface 39 (.int .i64 n))).run Tryd.prog w = .ok (.agg #[H 39, .pointer (some ⟨w.heap.size, 0, none⟩), .int .u64 130]) (w.alloc (.cells #[.int .i64 n] 39)) := by kernel_rfl
theorem as_valueOf37 (s : ByteArray) (no : Int) (t : TypeId) (u : Value) (w : World) : (ReflectliteValue.unpack (.iface 37 (.agg #[.string s, .int .i64 no, .iface t u]))).run Tryd.prog w = .ok (.agg #[H 37, .pointer (some ⟨w.heap.size, 0, none⟩), .int .u64 153]) (w.alloc (.cells #[.string s, .int .i64 no, .iface t u] 37)) := by kernel_rfl
theorem as_type47 (a : Addr) (w : World) : (ReflectliteValue.methodAny (ReflectliteValue.valueError "reflectlite.Value.Type" 0) (fun t _ _ _ => ReflectliteType.toType t) #[.agg #[H 47, .pointer (some a), .int .u64 150]]).run Tryd.prog w = .ok (.iface 85 (.agg #[H 47])) w := by kernel_rfl
theorem as_type46 (a : Addr) (w : World) : (ReflectliteValue.methodAny (ReflectliteValue.valueError "reflectlite.Value.Type" 0) (fun t _ _ _ => ReflectliteType.toType t) #[.agg #[H 46, .pointer (some a), .int .u64 150]]).run Tryd.prog w = .ok (.iface 85 (.agg #[H 46])) w := by kernel_rfl
theorem as_kind47 (w : World) : ((ReflectliteType.abiMethod fun t => (fun a : Nat => Value.int IntKind.u8 (a : Int)) <$> Rtype.kind t) #[H 47]).run Tryd.prog w = .ok (.int .u8 22) w := by kernel_rfl
theorem as_kind46 (w : World) : ((ReflectliteType.abiMethod fun t => (fun a : Nat => Value.int IntKind.u8 (a : Int)) <$> Rtype.kind t) #[H 46]).run Tryd.prog w = .ok (.int .u8 22) w := by kernel_rfl
theorem as_kind39 (w : World) : ((ReflectliteType.abiMethod fun t => (fun a : Nat => Value.int IntKind.u8 (a : Int)) <$> Rtype.kind t) #[H 39]).run Tryd.prog w = .ok (.int .u8 2) w := by kernel_rfl
theorem as_kind37 (w : World) : ((ReflectliteType.abiMethod fun t => (fun a : Nat => Value.int IntKind.u8 (a : Int)) <$> Rtype.kind t) #[H 37]).run Tryd.prog w = .ok (.int .u8 25) w := by kernel_rfl
theorem as_elem47 (w : World) : (ReflectliteType.method ReflectliteType.elem #[.agg #[H 47]]).run Tryd.prog w = .ok (.iface 85 (.agg #[H 39])) w := by kernel_rfl
theorem as_elem46 (w : World) : (ReflectliteType.method ReflectliteType.elem #[.agg #[H 46]]).run Tryd.prog w = .ok (.iface 85 (.agg #[H 37])) w := by kernel_rfl
theorem as_impl39 (w : World) : (ReflectliteType.relation "Implements" ReflectliteType.implements_ #[.agg #[H 39], .iface 85 (.agg #[H 26])]).run Tryd.prog w = .ok (.bool true) w := by kernel_rfl
theorem as_impl37 (w : World) : (ReflectliteType.relation "Implements" ReflectliteType.implements_ #[.agg #[H 37], .iface 85 (.agg #[H 26])]).run Tryd.prog w = .ok (.bool true) w := by kernel_rfl
theorem as_typeOf (t : TypeId) (ht : t = 39 ∨ t = 37 ∨ t = 81) (v : Value) (w : World) : (ReflectliteType.typeOf #[.iface t v]).run Tryd.prog w = .ok (.iface 85 (.agg #[H t])) w := by rcases ht with rfl | rfl | rfl <;> kernel_rfl
theorem as_asg39 (w : World) : (ReflectliteType.relation "AssignableTo" ReflectliteType.assignableTo #[.agg #[H 39], .iface 85 (.agg #[H 39])]).run Tryd.prog w = .ok (.bool true) w := by kernel_rfl
theorem as_asg37 (w : World) : (ReflectliteType.relation "AssignableTo" ReflectliteType.assignableTo #[.agg #[H 37], .iface 85 (.agg #[H 37])]).run Tryd.prog w = .ok (.bool true) w := by kernel_rfl
theorem as_asg37_39 (w : World) : (ReflectliteType.relation "AssignableTo" ReflectliteType.assignableTo #[.agg #[H 37], .iface 85 (.agg #[H 39])]).run Tryd.prog w = .ok (.bool false) w := by kernel_rfl
theorem as_asg81_39 (w : World) : (ReflectliteType.relation "AssignableTo" ReflectliteType.assignableTo #[.agg #[H 81], .iface 85 (.agg #[H 39])]).run Tryd.prog w = .ok (.bool false) w := by kernel_rfl
theorem rlm (z : Sem Value) (f : TypeId → Addr → Nat → Nat → Sem Value) (v : Value) :
    ReflectliteValue.method z f #[v] = (do match ← ReflectliteValue.parts v with | none => z | some (t, a, fl) => f t a fl (fl % 32)) := rfl
theorem rls (v x : Value) : ReflectliteValue.set #[v, x] = (do
    let (some (dst, a, fl), some (src, b, _)) := (← ReflectliteValue.parts v, ← ReflectliteValue.parts x)
      | unsupported (.noEntry "extern/(internal/reflectlite.Value).Set.zeroValue")
    if fl / ReflectliteValue.flagAddr % 2 == 0 then unsupported (.noEntry "extern/(internal/reflectlite.Value).Set.unaddressable")
    let val ← loadVar src b
    if ← Rtype.directlyAssignable dst src then storeVar dst a val
    else if ← Rtype.implements dst src then
      if (← Rtype.kind src) == 20 then
        match val with
        | .nilIface => unsupported (.noEntry "extern/reflectlite: a nil value of one interface type handed on as a value of another")
        | _ => storeVar dst a val
      else storeVar dst a (.iface src val)
    else panicString ("reflectlite.Set: value of type " ++ (← Rtype.spelt src) ++ " is not assignable to type " ++ (← Rtype.spelt dst))
    pure (.tuple #[])) := rfl
theorem as_parts47 (a : Addr) (w : World) : (ReflectliteValue.parts (.agg #[H 47, .pointer (some a), .int .u64 150])).run Tryd.prog w = .ok (some (47, a, 150)) w := by kernel_rfl
theorem as_isNil47 (a p : Addr) (W : World) (ha : W.cell? a = some (.pointer (some p))) :
    (ReflectliteValue.method (ReflectliteValue.valueError "reflectlite.Value.IsNil" 0) ReflectliteValue.isNil #[.agg #[H 47, .pointer (some a), .int .u64 150]]).run Tryd.prog W = .ok (.bool false) W := by
  rw [rlm]
  simp only [Sem.run_bind, as_parts47, Result.andThen]
  simp [ReflectliteValue.isNil, loadVar, isAgg, underlying, Tryd.underlying47, ha, Result.andThen]
theorem as_elemOf47 (w : World) : (Rtype.elem? 47).run Tryd.prog w = .ok (some 39) w := by kernel_rfl
theorem as_mk39 (p : Addr) (w : World) : (ReflectliteValue.mk 39 p ReflectliteValue.flagAddr).run Tryd.prog w = .ok (.agg #[H 39, .pointer (some p), .int .u64 386]) w := by kernel_rfl
theorem as_elemV47 (a p : Addr) (W : World) (ha : W.cell? a = some (.pointer (some p))) :
    (ReflectliteValue.method (ReflectliteValue.valueError "reflectlite.Value.Elem" 0) ReflectliteValue.elem #[.agg #[H 47, .pointer (some a), .int .u64 150]]).run Tryd.prog W = .ok (.agg #[H 39, .pointer (some p), .int .u64 386]) W := by
  rw [rlm]
  simp only [Sem.run_bind, as_parts47, Result.andThen]
  simp [ReflectliteValue.elem, loadVar, isAgg, underlying, Tryd.underlying47, ha, Result.andThen, as_elemOf47, as_mk39]
theorem as_parts39a (a : Addr) (w : World) : (ReflectliteValue.parts (.agg #[H 39, .pointer (some a), .int .u64 386])).run Tryd.prog w = .ok (some (39, a, 386)) w := by kernel_rfl
theorem as_parts39 (a : Addr) (w : World) : (ReflectliteValue.parts (.agg #[H 39, .pointer (some a), .int .u64 130])).run Tryd.prog w = .ok (some (39, a, 130)) w := by kernel_rfl
theorem as_direct39 (w : World) : (Rtype.directlyAssignable 39 39).run Tryd.prog w = .ok true w := by kernel_rfl
theorem as_parts46 (a : Addr) (w : World) : (ReflectliteValue.parts (.agg #[H 46, .pointer (some a), .int .u64 150])).run Tryd.prog w = .ok (some (46, a, 150)) w := by kernel_rfl
theorem as_isNil46 (a p : Addr) (W : World) (ha : W.cell? a = some (.pointer (some p))) :
    (ReflectliteValue.method (ReflectliteValue.valueError "reflectlite.Value.IsNil" 0) ReflectliteValue.isNil #[.agg #[H 46, .pointer (some a), .int .u64 150]]).run Tryd.prog W = .ok (.bool false) W := by
  rw [rlm]
  simp only [Sem.run_bind, as_parts46, Result.andThen]
  simp [ReflectliteValue.isNil, loadVar, isAgg, underlying, Tryd.underlying46, ha, Result.andThen]
theorem as_elemOf46 (w : World) : (Rtype.elem? 46).run Tryd.prog w = .ok (some 37) w := by kernel_rfl
theorem as_mk37 (p : Addr) (w : World) : (ReflectliteValue.mk 37 p ReflectliteValue.flagAddr).run Tryd.prog w = .ok (.agg #[H 37, .pointer (some p), .int .u64 409]) w := by kernel_rfl
theorem as_elemV46 (a p : Addr) (W : World) (ha : W.cell? a = some (.pointer (some p))) :
    (ReflectliteValue.method (ReflectliteValue.valueError "reflectlite.Value.Elem" 0) ReflectliteValue.elem #[.agg #[H 46, .pointer (some a), .int .u64 150]]).run Tryd.prog W = .ok (.agg #[H 37, .pointer (some p), .int .u64 409]) W := by
  rw [rlm]
  simp only [Sem.run_bind, as_parts46, Result.andThen]
  simp [ReflectliteValue.elem, loadVar, isAgg, underlying, Tryd.underlying46, ha, Result.andThen, as_elemOf46, as_mk37]
theorem as_parts37a (a : Addr) (w : World) : (ReflectliteValue.parts (.agg #[H 37, .pointer (some a), .int .u64 409])).run Tryd.prog w = .ok (some (37, a, 409)) w := by kernel_rfl
theorem as_parts37 (a : Addr) (w : World) : (ReflectliteValue.parts (.agg #[H 37, .pointer (some a), .int .u64 153])).run Tryd.prog w = .ok (some (37, a, 153)) w := by kernel_rfl
theorem as_direct37 (w : World) : (Rtype.directlyAssignable 37 37).run Tryd.prog w = .ok true w := by kernel_rfl
theorem as_set39 (ta b : Addr) (n : Int) (old : Value) (W : World) (hb : W.cell? b = some (.int .i64 n)) (ht : W.cell? ta = some old) (hf : W.frozen? ta = false) :
    (ReflectliteValue.set #[.agg #[H 39, .pointer (some ta), .int .u64 386], .agg #[H 39, .pointer (some b), .int .u64 130]]).run Tryd.prog W = .ok (.tuple #[]) (W.setCell ta (.int .i64 n)) := by
  rw [rls]
  simp only [Sem.run_bind, as_parts39a, as_parts39, Result.andThen]
  simp [ReflectliteValue.flagAddr, loadVar, isAgg, underlying, Tryd.underlying39, hb, Result.andThen, as_direct39, storeVar, Value.cells, storeCells, Addr.add]
  rw [run_store Tryd.prog W ta _ _ (by rfl)]
  simp [ht, hf]
end Go.Proofs.YtcklemjmenifpaaDoor.Fn
