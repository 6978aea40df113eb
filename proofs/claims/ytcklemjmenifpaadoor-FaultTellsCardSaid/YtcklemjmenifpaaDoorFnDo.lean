/- The document's errors beside the program's: what acts make. No walk here but the document's Do, by its printed contract. -/
import Derived.Test.YtcklemjmenifpaaDoorFnLive
import Derived.Test.YtcklemjmenifpaaDoorFsx2
set_option linter.unusedVariables false
set_option linter.unusedSimpArgs false
namespace Go.Proofs.YtcklemjmenifpaaDoor.Fn
open Go.RowKit Go.Shelf Go.Extern.Stop Go.Stop Go.Extern Go.Proofs.YtcklemjmenifpaaDoorW.PrintWords Go.Proofs.YtcklemjmenifpaaDoorW.PrintLast Go.Proofs.YtcklemjmenifpaaDoorW.PrintMore Go.Proofs.YtcklemjmenifpaaDoor.Fs

/-- The document's form of an error. -/
def refE : Er → S29
  | .nil => ⟨0, 0, ⟨#[]⟩, 0, []⟩
  | .num n => ⟨1, n, ⟨#[]⟩, 0, []⟩
  | .slip s no e => ⟨2, 0, s, no, [refE e]⟩
  | .two a b => ⟨3, 0, ⟨#[]⟩, 0, [refE a, refE b]⟩
theorem ref_kind {e : Er} (h : e ≠ .nil) : (refE e).f0 ≠ 0 := by
  cases e with
  | nil => exact absurd rfl h
  | num n => show (1 : Int) ≠ 0; decide
  | slip s no e => show (2 : Int) ≠ 0; decide
  | two a b => show (3 : Int) ≠ 0; decide
def freshE (n : Int) : Er := if n = 0 then .nil else .num n
/-- One act. -/
def stepE (e : Er) (a : S56) : Er :=
  if a.f0 = 0 then freshE a.f3 else if a.f0 = 1 then inE a.f1 a.f2 e else if a.f0 = 2 then bothE e (freshE a.f3) else if a.f0 = 3 then bothE (freshE a.f3) e else e
/-- All acts, as many as are asked for. -/
def madeE (l : List S56) : Er := l.foldl stepE .nil
/-- Where the parts of the document's form lie. -/
def RV (W : World) : Er → Value → Prop
  | .nil, v => v = .slice none 0 0
  | .num _, v => v = .slice none 0 0
  | .slip _ _ e, v => ∃ g c v', v = .slice (some ⟨g, 0, none⟩) 1 c ∧ 1 ≤ c ∧ W.heap[g]? = some (.cells #[.int .i64 (refE e).f0, .int .i64 (refE e).f1, .string (refE e).f2, .int .i64 (refE e).f3, v'] 29 (0, 0)) ∧ RV W e v'
  | .two a b, v => ∃ g c va vb, v = .slice (some ⟨g, 0, none⟩) 2 c ∧ 2 ≤ c ∧ W.heap[g]? = some (.cells #[.int .i64 (refE a).f0, .int .i64 (refE a).f1, .string (refE a).f2, .int .i64 (refE a).f3, va, .int .i64 (refE b).f0, .int .i64 (refE b).f1, .string (refE b).f2, .int .i64 (refE b).f3, vb] 29 (0, 0)) ∧ RV W a va ∧ RV W b vb
theorem RV.on {W W' : World} (hb : Below W.heap.size W W') : ∀ {e : Er} {v : Value}, RV W e v → RV W' e v
  | .nil, _, h => h
  | .num _, _, h => h
  | .slip _ _ _, _, ⟨g, c, v', h1, h2, h3, h4⟩ => ⟨g, c, v', h1, h2, blk_below h3 hb, RV.on hb h4⟩
  | .two _ _, _, ⟨g, c, va, vb, h1, h2, h3, h4, h5⟩ => ⟨g, c, va, vb, h1, h2, blk_below h3 hb, RV.on hb h4, RV.on hb h5⟩
theorem RV.slice {W : World} {e : Er} {v : Value} (h : RV W e v) : ∃ A c, v = .slice A (refE e).f4.length c := by
  cases e with
  | nil => exact ⟨none, 0, h⟩
  | num n => exact ⟨none, 0, h⟩
  | slip s no e => obtain ⟨g, c, v', h1, _⟩ := h; exact ⟨_, _, h1⟩
  | two a b => obtain ⟨g, c, va, vb, h1, _⟩ := h; exact ⟨_, _, h1⟩
abbrev rAgg (e : Er) (v : Value) : Value := .agg #[.int .i64 (refE e).f0, .int .i64 (refE e).f1, .string (refE e).f2, .int .i64 (refE e).f3, v]
def RPost (w : World) (e : Er) (ev : Ending) (w' : World) : Prop := (∃ v', ev = .returned (rAgg e v') ∧ RV w' e v') ∧ Below w.heap.size w w'
/-- The same, and what holds of it in each later world of a kind. -/
def RPost2 (P : World → Prop) (w : World) (e : Er) (ev : Ending) (w' : World) : Prop := (∃ v', ev = .returned (rAgg e v') ∧ (∃ A c, v' = .slice A (refE e).f4.length c) ∧ ∀ W, P W → (∀ k, w.heap.size ≤ k → k < w'.heap.size → W.heap[k]? = w'.heap[k]?) → RV W e v') ∧ Below w.heap.size w w'
theorem fresh_rcalls (n : Int) (w : World) : Calls Tryd.prog 34 #[.int .i64 n] w (RPost w (freshE n)) := by
  have HB := Aside0.mk (Below.refl w.heap.size w)
  by_cases h0 : n = 0
  · have e0 : (n == 0) = true := beq_iff_eq.2 h0
    have HE := Aside0.mk (show freshE n = .nil from if_pos h0)
    clear h0
    go_enter Tryd.func34, Tryd.ntmps34
    go_wp2
    have HRES := (by have := blk_new (w) (.cells #[.int .i64 0, .int .i64 0, .string ⟨#[]⟩, .int .i64 0, .slice none 0 0] 29); exact this : ((w).alloc (.cells #[.int .i64 0, .int .i64 0, .string ⟨#[]⟩, .int .i64 0, .slice none 0 0] 29)).heap[w.heap.size]? = some (.cells #[.int .i64 0, .int .i64 0, .string ⟨#[]⟩, .int .i64 0, .slice none 0 0] 29 (0, 0)))
    refine bodyPost_ret (results_cell_row rfl _ _ (w.heap.size) 29 #[.int .i64 0, .int .i64 0, .string ⟨#[]⟩, .int .i64 0, .slice none 0 0] (0, 0) _ rfl HRES Tryd.underlying29 rfl (by kernel_rfl)) rfl ?_
    rw [HE.out]
    exact ⟨⟨_, rfl, rfl⟩, HB.out.alloc HB.out.size _⟩
  · have e0 : (n == 0) = false := beq_eq_false_iff_ne.2 h0
    have HE := Aside0.mk (show freshE n = .num n from if_neg h0)
    clear h0
    go_enter Tryd.func34, Tryd.ntmps34
    go_wp2
    have HRES := (by have := blk_new (w) (.cells #[.int .i64 1, .int .i64 n, .string ⟨#[]⟩, .int .i64 0, .slice none 0 0] 29); exact this : ((w).alloc (.cells #[.int .i64 1, .int .i64 n, .string ⟨#[]⟩, .int .i64 0, .slice none 0 0] 29)).heap[w.heap.size]? = some (.cells #[.int .i64 1, .int .i64 n, .string ⟨#[]⟩, .int .i64 0, .slice none 0 0] 29 (0, 0)))
    refine bodyPost_ret (results_cell_row rfl _ _ (w.heap.size) 29 #[.int .i64 1, .int .i64 n, .string ⟨#[]⟩, .int .i64 0, .slice none 0 0] (0, 0) _ rfl HRES Tryd.underlying29 rfl (by kernel_rfl)) rfl ?_
    rw [HE.out]
    exact ⟨⟨_, rfl, rfl⟩, HB.out.alloc HB.out.size _⟩
set_option maxRecDepth 100000 in
set_option maxHeartbeats 4000000 in
theorem both_rcalls (P : World → Prop) (a b : Er) (va vb : Value) (w : World) (ha : RV w a va) (hb : RV w b vb) (hpa : ∀ W, P W → RV W a va) (hpb : ∀ W, P W → RV W b vb) : Calls Tryd.prog 35 #[rAgg a va, rAgg b vb] w (RPost2 P w (bothE a b)) := by
  have HB := Aside0.mk (((Below.refl w.heap.size w).alloc (Nat.le_refl _) (.cells #[.int .i64 (refE a).f0, .int .i64 (refE a).f1, .string (refE a).f2, .int .i64 (refE a).f3, va] 29)).alloc (by rw [World.size_alloc]; omega) (.cells #[.int .i64 (refE b).f0, .int .i64 (refE b).f1, .string (refE b).f2, .int .i64 (refE b).f3, vb] 29))
  have HA := Aside0.mk hpa
  have HBB := Aside0.mk hpb
  obtain ⟨A, c, rfl⟩ := ha.slice
  obtain ⟨B, d, rfl⟩ := hb.slice
  have hsa := ha.slice
  have hsb := hb.slice
  clear ha hb hpa hpb
  by_cases h0 : a = .nil
  · subst h0
    have e0 : ((refE .nil).f0 == 0) = true := rfl
    go_enter Tryd.func35, Tryd.ntmps35
    go_wp2
    have HRES := (by have := blk_new ((w.alloc (.cells #[.int .i64 (refE Er.nil).f0, .int .i64 (refE Er.nil).f1, .string (refE Er.nil).f2, .int .i64 (refE Er.nil).f3, .slice A (refE Er.nil).f4.length c] 29)).alloc (.cells #[.int .i64 (refE b).f0, .int .i64 (refE b).f1, .string (refE b).f2, .int .i64 (refE b).f3, .slice B (refE b).f4.length d] 29)) (.cells #[.int .i64 (refE b).f0, .int .i64 (refE b).f1, .string (refE b).f2, .int .i64 (refE b).f3, .slice B (refE b).f4.length d] 29); simp only [World.size_alloc] at this; exact this : (((w.alloc (.cells #[.int .i64 (refE Er.nil).f0, .int .i64 (refE Er.nil).f1, .string (refE Er.nil).f2, .int .i64 (refE Er.nil).f3, .slice A (refE Er.nil).f4.length c] 29)).alloc (.cells #[.int .i64 (refE b).f0, .int .i64 (refE b).f1, .string (refE b).f2, .int .i64 (refE b).f3, .slice B (refE b).f4.length d] 29)).alloc (.cells #[.int .i64 (refE b).f0, .int .i64 (refE b).f1, .string (refE b).f2, .int .i64 (refE b).f3, .slice B (refE b).f4.length d] 29)).heap[w.heap.size + 1 + 1]? = some (.cells #[.int .i64 (refE b).f0, .int .i64 (refE b).f1, .string (refE b).f2, .int .i64 (refE b).f3, .slice B (refE b).f4.length d] 29 (0, 0)))
    refine bodyPost_ret (results_cell_row rfl _ _ (w.heap.size + 1 + 1) 29 #[.int .i64 (refE b).f0, .int .i64 (refE b).f1, .string (refE b).f2, .int .i64 (refE b).f3, .slice B (refE b).f4.length d] (0, 0) _ rfl HRES Tryd.underlying29 rfl (by kernel_rfl)) rfl ?_
    exact ⟨⟨_, rfl, ⟨_, _, rfl⟩, fun W hP _ => HBB.out W hP⟩, HB.out.alloc HB.out.size _⟩
  · have e0 : ((refE a).f0 == 0) = false := beq_eq_false_iff_ne.2 (ref_kind h0)
    by_cases h1 : b = .nil
    · subst h1
      have e1 : ((refE .nil).f0 == 0) = true := rfl
      have HE := Aside0.mk (show bothE a .nil = a by cases a <;> first | rfl | exact absurd rfl h0)
      clear h0
      go_enter Tryd.func35, Tryd.ntmps35
      go_wp2
      have HRES := (by have := blk_new ((w.alloc (.cells #[.int .i64 (refE a).f0, .int .i64 (refE a).f1, .string (refE a).f2, .int .i64 (refE a).f3, .slice A (refE a).f4.length c] 29)).alloc (.cells #[.int .i64 (refE Er.nil).f0, .int .i64 (refE Er.nil).f1, .string (refE Er.nil).f2, .int .i64 (refE Er.nil).f3, .slice B (refE Er.nil).f4.length d] 29)) (.cells #[.int .i64 (refE a).f0, .int .i64 (refE a).f1, .string (refE a).f2, .int .i64 (refE a).f3, .slice A (refE a).f4.length c] 29); simp only [World.size_alloc] at this; exact this : (((w.alloc (.cells #[.int .i64 (refE a).f0, .int .i64 (refE a).f1, .string (refE a).f2, .int .i64 (refE a).f3, .slice A (refE a).f4.length c] 29)).alloc (.cells #[.int .i64 (refE Er.nil).f0, .int .i64 (refE Er.nil).f1, .string (refE Er.nil).f2, .int .i64 (refE Er.nil).f3, .slice B (refE Er.nil).f4.length d] 29)).alloc (.cells #[.int .i64 (refE a).f0, .int .i64 (refE a).f1, .string (refE a).f2, .int .i64 (refE a).f3, .slice A (refE a).f4.length c] 29)).heap[w.heap.size + 1 + 1]? = some (.cells #[.int .i64 (refE a).f0, .int .i64 (refE a).f1, .string (refE a).f2, .int .i64 (refE a).f3, .slice A (refE a).f4.length c] 29 (0, 0)))
      refine bodyPost_ret (results_cell_row rfl _ _ (w.heap.size + 1 + 1) 29 #[.int .i64 (refE a).f0, .int .i64 (refE a).f1, .string (refE a).f2, .int .i64 (refE a).f3, .slice A (refE a).f4.length c] (0, 0) _ rfl HRES Tryd.underlying29 rfl (by kernel_rfl)) rfl ?_
      rw [HE.out]
      exact ⟨⟨_, rfl, ⟨_, _, rfl⟩, fun W hP _ => HA.out W hP⟩, HB.out.alloc HB.out.size _⟩
    · have e1 : ((refE b).f0 == 0) = false := beq_eq_false_iff_ne.2 (ref_kind h1)
      have HE := Aside0.mk (both_some h0 h1)
      clear h0 h1
      go_enter Tryd.func35, Tryd.ntmps35
      go_wp2
      have HRES := (by have := blk_new ((w.alloc (.cells #[.int .i64 (refE a).f0, .int .i64 (refE a).f1, .string (refE a).f2, .int .i64 (refE a).f3, .slice A (refE a).f4.length c] 29)).alloc (.cells #[.int .i64 (refE b).f0, .int .i64 (refE b).f1, .string (refE b).f2, .int .i64 (refE b).f3, .slice B (refE b).f4.length d] 29)) (.cells #[.int .i64 3, .int .i64 0, .string ⟨#[]⟩, .int .i64 0, .slice (some ⟨w.heap.size + 1 + 1 + 1, 0, none⟩) 2 2] 29); simp only [World.size_alloc] at this; exact this : (((w.alloc (.cells #[.int .i64 (refE a).f0, .int .i64 (refE a).f1, .string (refE a).f2, .int .i64 (refE a).f3, .slice A (refE a).f4.length c] 29)).alloc (.cells #[.int .i64 (refE b).f0, .int .i64 (refE b).f1, .string (refE b).f2, .int .i64 (refE b).f3, .slice B (refE b).f4.length d] 29)).alloc (.cells #[.int .i64 3, .int .i64 0, .string ⟨#[]⟩, .int .i64 0, .slice (some ⟨w.heap.size + 1 + 1 + 1, 0, none⟩) 2 2] 29)).heap[w.heap.size + 1 + 1]? = some (.cells #[.int .i64 3, .int .i64 0, .string ⟨#[]⟩, .int .i64 0, .slice (some ⟨w.heap.size + 1 + 1 + 1, 0, none⟩) 2 2] 29 (0, 0)))
      refine bodyPost_ret (results_cell_row rfl _ _ (w.heap.size + 1 + 1) 29 #[.int .i64 3, .int .i64 0, .string ⟨#[]⟩, .int .i64 0, .slice (some ⟨w.heap.size + 1 + 1 + 1, 0, none⟩) 2 2] (0, 0) _ rfl (blk_alloc HRES (.cells #[.int .i64 (refE a).f0, .int .i64 (refE a).f1, .string (refE a).f2, .int .i64 (refE a).f3, .slice A (refE a).f4.length c, .int .i64 (refE b).f0, .int .i64 (refE b).f1, .string (refE b).f2, .int .i64 (refE b).f3, .slice B (refE b).f4.length d] 29)) Tryd.underlying29 rfl (by kernel_rfl)) rfl ?_
      rw [HE.out]
      have HB3 := (HB.out.alloc HB.out.size (.cells #[.int .i64 3, .int .i64 0, .string ⟨#[]⟩, .int .i64 0, .slice (some ⟨w.heap.size + 1 + 1 + 1, 0, none⟩) 2 2] 29)).alloc (HB.out.alloc HB.out.size (.cells #[.int .i64 3, .int .i64 0, .string ⟨#[]⟩, .int .i64 0, .slice (some ⟨w.heap.size + 1 + 1 + 1, 0, none⟩) 2 2] 29)).size (.cells #[.int .i64 (refE a).f0, .int .i64 (refE a).f1, .string (refE a).f2, .int .i64 (refE a).f3, .slice A (refE a).f4.length c, .int .i64 (refE b).f0, .int .i64 (refE b).f1, .string (refE b).f2, .int .i64 (refE b).f3, .slice B (refE b).f4.length d] 29)
      refine ⟨⟨_, rfl, ⟨_, _, rfl⟩, fun W hP hK => ⟨w.heap.size + 1 + 1 + 1, 2, _, _, rfl, Nat.le_refl _, (hK _ (by omega) (by simp only [World.size_alloc]; omega)).trans ?_, HA.out W hP, HBB.out W hP⟩⟩, HB3⟩
      have := blk_new (((w.alloc (.cells #[.int .i64 (refE a).f0, .int .i64 (refE a).f1, .string (refE a).f2, .int .i64 (refE a).f3, .slice A (refE a).f4.length c] 29)).alloc (.cells #[.int .i64 (refE b).f0, .int .i64 (refE b).f1, .string (refE b).f2, .int .i64 (refE b).f3, .slice B (refE b).f4.length d] 29)).alloc (.cells #[.int .i64 3, .int .i64 0, .string ⟨#[]⟩, .int .i64 0, .slice (some ⟨w.heap.size + 1 + 1 + 1, 0, none⟩) 2 2] 29)) (.cells #[.int .i64 (refE a).f0, .int .i64 (refE a).f1, .string (refE a).f2, .int .i64 (refE a).f3, .slice A (refE a).f4.length c, .int .i64 (refE b).f0, .int .i64 (refE b).f1, .string (refE b).f2, .int .i64 (refE b).f3, .slice B (refE b).f4.length d] 29)
      simp only [World.size_alloc] at this
      exact this
end Go.Proofs.YtcklemjmenifpaaDoor.Fn
