/- Errors as trees, and how they lie in memory; New, In, Both by their walks. -/
import Derived.Test.YtcklemjmenifpaaDoorProg
import Derived.Test.YtcklemjmenifpaaDoorWWords
import Derived.Test.YtcklemjmenifpaaDoorWLast
import Derived.WalkKit
import Derived.LaidEql
import Derived.Stop.Asserts
import Derived.RowKitTokens
import Derived.Shelf.Abstract
import Derived.Shelf.RegionOpen
import Derived.OwnWalkIn
import Derived.TacticsInMore
import Derived.Handy
import Derived.Test.YtcklemjmenifpaaDoorFnShelf
set_option linter.unusedVariables false
set_option linter.unusedSimpArgs false
namespace Go.Proofs.YtcklemjmenifpaaDoor.Fn
open Go.RowKit Go.Shelf Go.Extern.Stop Go.Stop Go.Extern Go.Proofs.YtcklemjmenifpaaDoorW.PrintWords Go.Proofs.YtcklemjmenifpaaDoorW.PrintLast

/-- An error. -/
inductive Er where
  | nil
  | num (n : Int)
  | slip (s : ByteArray) (no : Int) (e : Er)
  | two (a b : Er)
/-- How an error lies in memory. -/
def EV (W : World) : Er → Value → Prop
  | .nil, v => v = .nilIface
  | .num n, v => v = .iface 39 (.int .i64 n)
  | .slip s no e, v => ∃ u, v = .iface 37 (.agg #[.string s, .int .i64 no, u]) ∧ EV W e u
  | .two a b, v => ∃ j g c cur va vb, v = .iface 81 (.pointer (some ⟨j, 0, none⟩)) ∧ W.heap[j]? = some (.cells #[.slice (some ⟨g, 0, none⟩) 2 c] 83 (0, 0)) ∧ 2 ≤ c ∧ W.heap[g]? = some (.cells cur 26 (0, 0)) ∧ cur[0]? = some va ∧ cur[1]? = some vb ∧ EV W a va ∧ EV W b vb
theorem EV.on {W W' : World} (hb : Below W.heap.size W W') : ∀ {e : Er} {v : Value}, EV W e v → EV W' e v
  | .nil, _, h => h
  | .num _, _, h => h
  | .slip _ _ _, _, ⟨u, h1, h2⟩ => ⟨u, h1, EV.on hb h2⟩
  | .two _ _, _, ⟨j, g, c, cur, va, vb, h1, h2, h3, h4, h5, h6, h7, h8⟩ =>
    ⟨j, g, c, cur, va, vb, h1, (hb.block j (Array.getElem?_eq_some_iff.1 h2).1).trans h2, h3, (hb.block g (Array.getElem?_eq_some_iff.1 h4).1).trans h4, h5, h6, EV.on hb h7, EV.on hb h8⟩

theorem new_calls (n : Int) (w : World) : Calls Tryd.prog 14 #[.int .i64 n] w fun e w' => (∃ v, e = .returned v ∧ EV w' (if n = 0 then .nil else .num n) v) ∧ Below w.heap.size w w' := by
  have HB := Aside0.mk (Below.refl w.heap.size w)
  by_cases h0 : n = 0
  · have e0 : (n == 0) = true := beq_iff_eq.2 h0
    go_enter Tryd.func14, Tryd.ntmps14
    go_wp2
    go_ret
    exact ⟨⟨_, rfl, by first | rfl | (rw [if_pos h0]; rfl)⟩, HB.out⟩
  · have e0 : (n == 0) = false := beq_eq_false_iff_ne.2 h0
    go_enter Tryd.func14, Tryd.ntmps14
    go_wp2
    go_ret
    exact ⟨⟨_, rfl, by first | rfl | (rw [if_neg h0]; rfl)⟩, HB.out⟩
theorem in_nil (s : ByteArray) (no : Int) (w : World) : Calls Tryd.prog 12 #[.string s, .int .i64 no, .nilIface] w fun e w' => e = .returned .nilIface ∧ Below w.heap.size w w' := by
  have HB := Aside0.mk (Below.refl w.heap.size w)
  go_enter Tryd.func12, Tryd.ntmps12
  go_wp2
  go_ret
  exact ⟨rfl, HB.out⟩
theorem in_some (s : ByteArray) (no : Int) (t : TypeId) (u : Value) (w : World) : Calls Tryd.prog 12 #[.string s, .int .i64 no, .iface t u] w fun e w' => e = .returned (.iface 37 (.agg #[.string s, .int .i64 no, .iface t u])) ∧ Below w.heap.size w w' := by
  have HB := Aside0.mk (Below.refl w.heap.size w)
  go_enter Tryd.func12, Tryd.ntmps12
  go_wp2
  go_ret
  exact ⟨rfl, HB.out⟩
/-- The row of a join after k rounds. -/
def rowJ (a b : Value) : Nat → Array Value
  | 0 => #[.nilIface, .nilIface]
  | 1 => #[a, .nilIface]
  | _ => #[a, b]
set_option maxRecDepth 100000 in
set_option maxHeartbeats 4000000 in
theorem join_calls (t t' : TypeId) (u u' : Value) (g : Nat) (w : World) (hg : w.heap[g]? = some (.cells #[.iface t u, .iface t' u'] 26 (0, 0))) :
    Calls Tryd.prog 23 #[.slice (some ⟨g, 0, none⟩) 2 2] w fun e w' => (∃ j g' c cur, e = .returned (.iface 81 (.pointer (some ⟨j, 0, none⟩))) ∧ w'.heap[j]? = some (.cells #[.slice (some ⟨g', 0, none⟩) 2 c] 83 (0, 0)) ∧ 2 ≤ c ∧ w'.heap[g']? = some (.cells cur 26 (0, 0)) ∧ cur[0]? = some (.iface t u) ∧ cur[1]? = some (.iface t' u')) ∧ Below w.heap.size w w' := by
  have HB := Aside0.mk (Below.refl w.heap.size w)
  have HG := Aside0.mk hg
  have g0 := (by rw [Lib.cell_of_heap hg]; rfl : w.cell? ⟨g, 0, none⟩ = some (.iface t u))
  have g1 := (by rw [Lib.cell_of_heap hg]; rfl : w.cell? ⟨g, 1, none⟩ = some (.iface t' u'))
  clear hg
  have hmk : ∀ w, (Instr.makeSlice 74 (.int .i64 0) (.int .i64 2)).run Tryd.prog w = .ok (.slice (some ⟨w.heap.size, 0, none⟩) 0 2) (w.alloc (.cells #[.nilIface, .nilIface] 26)) := fun _ => by kernel_rfl
  go_enter Tryd.func23, Tryd.ntmps23
  go_wp2
  refine wp_loop_rounds 3 ?_
  rw [rounds_succ]
  go_wp2
  rw [rounds_succ]
  go_wp2
  rw [rounds_succ]
  go_wp2
  have HB1 := Aside0.mk (show Below w.heap.size w ((w.alloc (.cells #[.nilIface, .nilIface] 26)).alloc (.cells #[.slice (some ⟨w.heap.size, 0, none⟩) 0 2] 83)) from (HB.out.alloc (Nat.le_refl _) _).alloc (by rw [World.size_alloc]; omega) _)
  have H0 := Aside0.mk (show ((w.alloc (.cells #[.nilIface, .nilIface] 26)).alloc (.cells #[.slice (some ⟨w.heap.size, 0, none⟩) 0 2] 83)).heap[w.heap.size]? = some (.cells (rowJ (.iface t u) (.iface t' u') 0) 26 (0, 0)) from by rw [Lib.alloc_old _ _ _ (by rw [World.size_alloc]; omega)]; exact blk_new w _)
  have H1 := Aside0.mk (show ((w.alloc (.cells #[.nilIface, .nilIface] 26)).alloc (.cells #[.slice (some ⟨w.heap.size, 0, none⟩) 0 2] 83)).heap[w.heap.size + 1]? = some (.cells #[.slice (some ⟨w.heap.size, 0, none⟩) 0 2] 83 (0, 0)) from by have := blk_new (w.alloc (.cells #[.nilIface, .nilIface] 26)) (.cells #[.slice (some ⟨w.heap.size, 0, none⟩) 0 2] 83); rw [World.size_alloc] at this; exact this)
  go_loopw [28] (fun i wr => ∃ k : Nat, k ≤ 2 ∧ i = .int .i64 k ∧ Below w.heap.size w wr ∧ wr.heap[w.heap.size]? = some (.cells (rowJ (.iface t u) (.iface t' u') k) 26 (0, 0)) ∧ wr.heap[w.heap.size + 1]? = some (.cells #[.slice (some ⟨w.heap.size, 0, none⟩) k 2] 83 (0, 0)))
    (fun i _ => 2 - (intOf i).toNat)
  case atStart => exact ⟨0, by omega, rfl, HB1.out, H0.out, H1.out⟩
  case round =>
    clear HB1 H0 H1 g0 g1
    obtain ⟨k, hk, rfl, hb, h0, h1⟩ := hrel
    have HB := Aside0.mk hb
    have H0 := Aside0.mk h0
    have H1 := Aside0.mk h1
    have HGR := Aside0.mk ((hb.block g (Array.getElem?_eq_some_iff.1 HG.out).1).trans HG.out)
    have g0 := (by rw [Lib.cell_of_heap HGR.out]; rfl : wr.cell? ⟨g, 0, none⟩ = some (.iface t u))
    have g1 := (by rw [Lib.cell_of_heap HGR.out]; rfl : wr.cell? ⟨g, 1, none⟩ = some (.iface t' u'))
    clear hb h0 h1
    have hk3 : k = 0 ∨ k = 1 ∨ k = 2 := by omega
    rcases hk3 with rfl | rfl | rfl
    · have s0 := (by rw [Lib.cell_of_heap H1.out]; rfl : wr.cell? ⟨w.heap.size + 1, 0, none⟩ = some (.slice (some ⟨w.heap.size, 0, none⟩) 0 2))
      have A0 := blk_alloc H0.out (.cells #[.iface t u] 26)
      have A1 := blk_alloc H1.out (.cells #[.iface t u] 26)
      have c0 := (blk_cell A0 0).trans (by rfl : _ = some .nilIface)
      have f0 := blk_frozen A0 0
      have B0 := blk_put (cs' := rowJ (.iface t u) (.iface t' u') 1) A0 0 (.iface t u) rfl
      have B1 := blk_far A1 (p := ⟨w.heap.size, 0, none⟩) (by simp) (.iface t u)
      have c1 := (blk_cell B1 0).trans (by rfl : _ = some (.slice (some ⟨w.heap.size, 0, none⟩) 0 2))
      have f1 := blk_frozen B1 0
      have C0 := Aside0.mk (blk_far B0 (p := ⟨w.heap.size + 1, 0, none⟩) (by simp) (.slice (some ⟨w.heap.size, 0, none⟩) 1 2))
      have C1 := Aside0.mk (blk_put (cs' := #[.slice (some ⟨w.heap.size, 0, none⟩) 1 2]) B1 0 (.slice (some ⟨w.heap.size, 0, none⟩) 1 2) rfl)
      have C2 := Aside0.mk (below_set (g := w.heap.size + 1) (j := 0) (below_set (g := w.heap.size) (j := 0) (HB.out.alloc HB.out.size (.cells #[.iface t u] 26)) (Nat.le_refl _) (v := .iface t u)) (Nat.le_succ _) (v := .slice (some ⟨w.heap.size, 0, none⟩) 1 2))
      clear A0 A1 B0 B1
      go_wp2
      go_roundw
      case rel => exact ⟨1, by omega, rfl, C2.out, C0.out, C1.out⟩
      case measure => simp [intOf]
    · have s0 := (by rw [Lib.cell_of_heap H1.out]; rfl : wr.cell? ⟨w.heap.size + 1, 0, none⟩ = some (.slice (some ⟨w.heap.size, 0, none⟩) 1 2))
      have A0 := blk_alloc H0.out (.cells #[.iface t' u'] 26)
      have A1 := blk_alloc H1.out (.cells #[.iface t' u'] 26)
      have c0 := (blk_cell A0 1).trans (by rfl : _ = some .nilIface)
      have f0 := blk_frozen A0 1
      have B0 := blk_put (cs' := rowJ (.iface t u) (.iface t' u') 2) A0 1 (.iface t' u') rfl
      have B1 := blk_far A1 (p := ⟨w.heap.size, 1, none⟩) (by simp) (.iface t' u')
      have c1 := (blk_cell B1 0).trans (by rfl : _ = some (.slice (some ⟨w.heap.size, 0, none⟩) 1 2))
      have f1 := blk_frozen B1 0
      have C0 := Aside0.mk (blk_far B0 (p := ⟨w.heap.size + 1, 0, none⟩) (by simp) (.slice (some ⟨w.heap.size, 0, none⟩) 2 2))
      have C1 := Aside0.mk (blk_put (cs' := #[.slice (some ⟨w.heap.size, 0, none⟩) 2 2]) B1 0 (.slice (some ⟨w.heap.size, 0, none⟩) 2 2) rfl)
      have C2 := Aside0.mk (below_set (g := w.heap.size + 1) (j := 0) (below_set (g := w.heap.size) (j := 1) (HB.out.alloc HB.out.size (.cells #[.iface t' u'] 26)) (Nat.le_refl _) (v := .iface t' u')) (Nat.le_succ _) (v := .slice (some ⟨w.heap.size, 0, none⟩) 2 2))
      clear A0 A1 B0 B1
      go_wp2
      go_roundw
      case rel => exact ⟨2, by omega, rfl, C2.out, C0.out, C1.out⟩
      case measure => simp [intOf]
    · go_wp2
      go_ret
      exact ⟨⟨w.heap.size + 1, w.heap.size, 2, _, rfl, H1.out, by omega, H0.out, rfl, rfl⟩, HB.out⟩
end Go.Proofs.YtcklemjmenifpaaDoor.Fn
