/- fault.Stages over any error tree, by its walk. -/
import Derived.Test.YtcklemjmenifpaaDoorFnAll
set_option linter.unusedVariables false
set_option linter.unusedSimpArgs false
namespace Go.Proofs.YtcklemjmenifpaaDoor.Fn
open Go.RowKit Go.Shelf Go.Extern.Stop Go.Stop Go.Extern Go.Proofs.YtcklemjmenifpaaDoorW.PrintWords Go.Proofs.YtcklemjmenifpaaDoorW.PrintLast Go.Proofs.YtcklemjmenifpaaDoorW.PrintMore Go.Proofs.YtcklemjmenifpaaDoor.Fs

/-- The stages around an error. -/
def stagesE : Er → List (ByteArray × Int)
  | .slip s no e => (s, no) :: stagesE e
  | _ => []
def kN : Kd Unit := Kd.scalar (fun _ => .nilIface) (fun _ => rfl)
def k37 : Kd (ByteArray × Int) := Kd.iso (Kd.pair Kd.string (Kd.pair (Kd.int .i64) kN)) (fun x => (x.1, x.2, ()))
theorem k37_mkM (w : World) (base : Nat) (ok : Nat → Prop) (x : ByteArray × Int) : k37.M w base ok x [.string x.1, .int .i64 x.2, .nilIface] := ⟨[.string x.1], [.int .i64 x.2, .nilIface], rfl, rfl, ⟨[.int .i64 x.2], [.nilIface], rfl, rfl, rfl⟩⟩
theorem k37_open {w : World} {x : ByteArray × Int} {cs : List Value} (h : k37.K w x cs) : cs = [.string x.1, .int .i64 x.2, .nilIface] := by
  obtain ⟨_, _, rfl, rfl, ⟨_, _, rfl, rfl, rfl⟩⟩ := h
  exact rfl
theorem info37 : (Tryd.prog.info? 37).map (fun i => (i.zero, i.size, i.bytes)) = some (some (.agg #[.string ⟨#[]⟩, .int .i64 0, .nilIface]), 3, 40) := by kernel_rfl
theorem EV.keep {W W' : World} (hk : ∀ (k : Nat) (cs : Array Value) (t : TypeId), t = 83 ∨ t = 26 → W.heap[k]? = some (.cells cs t (0, 0)) → W'.heap[k]? = some (.cells cs t (0, 0))) : ∀ {e : Er} {v : Value}, EV W e v → EV W' e v
  | .nil, _, h => h
  | .num _, _, h => h
  | .slip _ _ _, _, ⟨u, h1, h2⟩ => ⟨u, h1, EV.keep hk h2⟩
  | .two _ _, _, ⟨j, g, c, cur, va, vb, h1, h2, h3, h4, h5, h6, h7, h8⟩ =>
    ⟨j, g, c, cur, va, vb, h1, hk _ _ _ (.inl rfl) h2, h3, hk _ _ _ (.inr rfl) h4, h5, h6, EV.keep hk h7, EV.keep hk h8⟩
/-- A row of another type has grown. -/
theorem EV.grown {α : Type} {d : Kd α} {W W' : World} {t base : Nat} {ok : Nat → Prop} {v u : Value} {xs : List α} {e : Er} (h : EV W e u) (hR : Kd.R d t W base ok v xs) (ht : t ≠ 83 ∧ t ≠ 26) (hg : W.grownBy W' v.ownBlock) : EV W' e u := by
  refine EV.keep (fun k cs q hq hk => ?_) h
  refine (hg.block k (blk_lt hk) (Kd.R_ne hR hk ?_)).trans hk
  rcases hq with rfl | rfl
  · exact ht.1
  · exact ht.2
theorem ta_nil_37 (w : World) : (Instr.typeAssert .nilIface 26 37 true).run Tryd.prog w = .ok (.tuple #[.agg #[.string ⟨#[]⟩, .int .i64 0, .nilIface], .bool false]) w := by kernel_rfl
theorem tb_39_37 (v : Value) (w : World) : (Instr.typeAssert (.iface 39 v) 26 37 true).run Tryd.prog w = .ok (.tuple #[.agg #[.string ⟨#[]⟩, .int .i64 0, .nilIface], .bool false]) w := by kernel_rfl
set_option maxRecDepth 100000 in
set_option maxHeartbeats 4000000 in
theorem stages_calls (e : Er) (v : Value) (w : World) (hv : EV w e v) (hl : (stagesE e).length ≤ 1000) : Calls Tryd.prog 10 #[v] w fun ev w' => (∃ v0, ev = .returned v0 ∧ Kd.R k37 37 w' w.heap.size (fun _ => True) v0 (stagesE e)) ∧ Below w.heap.size w w' := by
  have HV := Aside0.mk hv
  have HL := Aside0.mk hl
  have HB := Aside0.mk (Below.refl w.heap.size w)
  clear hv hl
  go_enter Tryd.func10, Tryd.ntmps10
  go_wp2
  go_loopw [0, 3] (fun v lv wr => ∃ e' pre, EV wr e' v ∧ stagesE e = pre ++ stagesE e' ∧ Kd.R k37 37 wr w.heap.size (fun _ => True) lv pre ∧ Below w.heap.size w wr)
    (fun v _ _ => SizeOf.sizeOf v)
  case atStart => exact ⟨e, [], HV.out, rfl, Kd.R_nil _ _ _ _ _, HB.out⟩
  case round =>
    clear HV HB
    obtain ⟨e', pre, hv, hs, hR, hb⟩ := hrel
    have HB := Aside0.mk hb
    have HS := Aside0.mk hs
    have HR := Aside0.mk hR
    clear hb hs hR
    have t1 := ta_nil_37
    have t2 := tb_39_37
    have t3 := ta_37_37
    have t5 := ta_81_37
    cases e' with
    | nil =>
      obtain rfl := hv
      go_wp2
      go_ret
      refine ⟨⟨_, rfl, ?_⟩, ?_⟩
      · rw [HS.out]
        have := (Kd.R_alloc HR.out (.cells #[.string ⟨#[]⟩, .int .i64 0, .nilIface] 37))
        simpa [stagesE] using this
      · exact HB.out.alloc HB.out.size _
    | num m =>
      obtain rfl := hv
      go_wp2
      go_ret
      refine ⟨⟨_, rfl, ?_⟩, ?_⟩
      · rw [HS.out]
        have := (Kd.R_alloc HR.out (.cells #[.string ⟨#[]⟩, .int .i64 0, .nilIface] 37))
        simpa [stagesE] using this
      · exact HB.out.alloc HB.out.size _
    | slip s no e1 =>
      obtain ⟨u, rfl, hu⟩ := hv
      have hor := ev_cases hu
      have HU := Aside0.mk hu
      have HLn := Aside0.mk (show pre.length + 1 ≤ 1000 by
        have := HL.out
        rw [HS.out, List.length_append, stagesE, List.length_cons] at this
        omega)
      clear hu
      rcases hor with rfl | ⟨t, x, rfl⟩
      · have HBA := Aside0.mk (HB.out.alloc HB.out.size (.cells #[.string s, .int .i64 no, .nilIface] 37))
        have HRA := Aside0.mk (Kd.R_alloc HR.out (.cells #[.string s, .int .i64 no, .nilIface] 37))
        have HUA := Aside0.mk (HU.out.on ((Below.refl _ wr).alloc (Nat.le_refl _) (.cells #[.string s, .int .i64 no, .nilIface] 37)))
        go_wp2_with (first | ((with_reducible refine gate_builtin (b := .append) (xs := #[.tmp 14, .tmp 20]) rfl ?_); at_builtin; refine Kd.R_append k37 (w0 := w) w.heap.size rfl (.tmp 14) (.tmp 20) 34 37 (.agg #[.string ⟨#[]⟩, .int .i64 0, .nilIface]) 40 rfl Tryd.underlying34 info37 rfl (by decide) (by omega) u3 pre (s, no) [.string s, .int .i64 no, .nilIface] (fun _ => True) (fun _ => False) rfl (by rw [World.size_alloc]; rfl) (k37_mkM _ _ _ (s, no)) (fun _ hk => hk.elim) (fun _ _ => trivial) ?aO ?aB ?aS ?aL ?_; (case aO => exact HRA.out); (case aB => exact HBA.out); (case aS => exact HBA.out.size); (case aL => have := HLn.out; omega); intro v9 w9 ho hb hg hat; (have HR9 := Aside0.mk ho); (have HB9 := Aside0.mk hb); (have HU9 := Aside0.mk (EV.grown HUA.out HRA.out (by decide) hg)); (have x2 := (blk_cell ((hg.block wr.heap.size (by rw [World.size_alloc]; omega) (fun he => by have := Kd.R_lt HR.out _ he.symm; omega)).trans (blk_new wr (.cells #[.string s, .int .i64 no, .nilIface] 37))) 2).trans (by rfl : _ = some .nilIface)); clear ho hb hg hat))
        go_roundw
        case rel => exact ⟨e1, pre ++ [(s, no)], HU9.out, by rw [HS.out, stagesE, List.append_assoc]; rfl, HR9.out, HB9.out⟩
        case measure => simp; omega
      · have HBA := Aside0.mk (HB.out.alloc HB.out.size (.cells #[.string s, .int .i64 no, (.iface t x)] 37))
        have HRA := Aside0.mk (Kd.R_alloc HR.out (.cells #[.string s, .int .i64 no, (.iface t x)] 37))
        have HUA := Aside0.mk (HU.out.on ((Below.refl _ wr).alloc (Nat.le_refl _) (.cells #[.string s, .int .i64 no, (.iface t x)] 37)))
        go_wp2_with (first | ((with_reducible refine gate_builtin (b := .append) (xs := #[.tmp 14, .tmp 20]) rfl ?_); at_builtin; refine Kd.R_append k37 (w0 := w) w.heap.size rfl (.tmp 14) (.tmp 20) 34 37 (.agg #[.string ⟨#[]⟩, .int .i64 0, .nilIface]) 40 rfl Tryd.underlying34 info37 rfl (by decide) (by omega) u3 pre (s, no) [.string s, .int .i64 no, .nilIface] (fun _ => True) (fun _ => False) rfl (by rw [World.size_alloc]; rfl) (k37_mkM _ _ _ (s, no)) (fun _ hk => hk.elim) (fun _ _ => trivial) ?aO ?aB ?aS ?aL ?_; (case aO => exact HRA.out); (case aB => exact HBA.out); (case aS => exact HBA.out.size); (case aL => have := HLn.out; omega); intro v9 w9 ho hb hg hat; (have HR9 := Aside0.mk ho); (have HB9 := Aside0.mk hb); (have HU9 := Aside0.mk (EV.grown HUA.out HRA.out (by decide) hg)); (have x2 := (blk_cell ((hg.block wr.heap.size (by rw [World.size_alloc]; omega) (fun he => by have := Kd.R_lt HR.out _ he.symm; omega)).trans (blk_new wr (.cells #[.string s, .int .i64 no, (.iface t x)] 37))) 2).trans (by rfl : _ = some (.iface t x))); clear ho hb hg hat))
        go_roundw
        case rel => exact ⟨e1, pre ++ [(s, no)], HU9.out, by rw [HS.out, stagesE, List.append_assoc]; rfl, HR9.out, HB9.out⟩
        case measure => simp; omega
    | two a b =>
      obtain ⟨j, g, c, cur, va, vb, rfl, hj, hc, hg, hc0, hc1, ha, hb'⟩ := hv
      clear hj hc hg hc0 hc1 ha hb'
      go_wp2
      go_ret
      refine ⟨⟨_, rfl, ?_⟩, ?_⟩
      · rw [HS.out]
        have := (Kd.R_alloc HR.out (.cells #[.string ⟨#[]⟩, .int .i64 0, .nilIface] 37))
        simpa [stagesE] using this
      · exact HB.out.alloc HB.out.size _
end Go.Proofs.YtcklemjmenifpaaDoor.Fn
