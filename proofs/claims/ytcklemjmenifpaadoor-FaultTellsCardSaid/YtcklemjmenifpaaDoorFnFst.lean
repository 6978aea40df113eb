/- fault.First over any error that can be made, by its walk; what acts make holds no nil inside. -/
import Derived.Test.YtcklemjmenifpaaDoorFnFinds
import Derived.Test.YtcklemjmenifpaaDoorFnAll
set_option linter.unusedVariables false
set_option linter.unusedSimpArgs false
namespace Go.Proofs.YtcklemjmenifpaaDoor.Fn
open Go.RowKit Go.Shelf Go.Extern.Stop Go.Stop Go.Extern Go.Proofs.YtcklemjmenifpaaDoorW.PrintWords Go.Proofs.YtcklemjmenifpaaDoorW.PrintLast Go.Proofs.YtcklemjmenifpaaDoorW.PrintMore Go.Proofs.YtcklemjmenifpaaDoor.Fs

theorem first_head : ∀ e : Er, firstE e = (allE e).head?
  | .nil => rfl
  | .num n => rfl
  | .slip _ _ e => first_head e
  | .two a b => by
    have ha := first_head a
    have hb := first_head b
    simp only [firstE, allE, ha, hb]
    cases allE a <;> cases allE b <;> rfl
/-- An error that can be made: no nil in it. -/
abbrev okE (e : Er) : Prop := nnE e
theorem ok_fresh (n : Int) : okE (freshE n) := by
  unfold freshE
  split
  · trivial
  · trivial
theorem ok_both {a b : Er} (ha : okE a) (hb : okE b) : okE (bothE a b) := by
  by_cases h0 : a = .nil
  · subst h0
    exact hb
  · by_cases h1 : b = .nil
    · subst h1
      have : bothE a .nil = a := by cases a <;> first | rfl | exact absurd rfl h0
      rw [this]
      exact ha
    · rw [both_some h0 h1]
      exact ⟨h0, h1, ha, hb⟩
theorem ok_in {s : ByteArray} {no : Int} {e : Er} (h : okE e) : okE (inE s no e) := by
  by_cases h0 : e = .nil
  · subst h0
    trivial
  · rw [inE_some h0]
    exact ⟨h0, h⟩
theorem ok_step {e : Er} (a : S56) (h : okE e) : okE (stepE e a) := by
  unfold stepE
  repeat' split
  · exact ok_fresh _
  · exact ok_in h
  · exact ok_both h (ok_fresh _)
  · exact ok_both (ok_fresh _) h
  · exact h
theorem ok_fold (l : List S56) : ∀ e, okE e → okE (l.foldl stepE e) := by
  induction l with
  | nil => intro e h; exact h
  | cons a l ih => intro e h; exact ih _ (ok_step a h)
theorem ok_made (l : List S56) : okE (madeE l) := ok_fold l _ trivial
set_option maxRecDepth 100000 in
set_option maxHeartbeats 4000000 in
theorem first_calls (e : Er) (ho : okE e) (v : Value) (w : World) (hv : EV w e v) (hg : w.cell? ⟨0, 0, none⟩ = some (.iface 85 (.agg #[H 26]))) :
    Calls Tryd.prog 21 #[v] w fun ev w' => ev = .returned (.int .i64 ((allE e).headD 0)) ∧ Below w.heap.size w w' := by
  have HBX := Aside0.mk ((Below.refl w.heap.size w).alloc (Nat.le_refl _) (.cells #[.int .i64 0] 39))
  by_cases he : e = .nil
  · subst he
    obtain rfl := hv
    clear hg ho
    go_enter Tryd.func21, Tryd.ntmps21
    go_wp2_with (go_at_call 16; refine (as_nil _ _).mono ?_; rintro ev w1 ⟨rfl, hb⟩; (have HB1 := Aside0.mk (HBX.out.trans (hb.mono HBX.out.size))); clear hb)
    go_ret
    exact ⟨rfl, HB1.out⟩
  · have hn : nnE e := ho
    obtain ⟨n, hf⟩ := first_some e he hn
    have hh : (allE e).headD 0 = n := by
      have := first_head e
      rw [hf] at this
      rw [List.headD_eq_head?_getD, ← this]
      rfl
    rw [hh]
    have hc := as_top e he hn n hf v w.heap.size 0 _ (hv.on HBX.out) (blk_new w (.cells #[.int .i64 0] 39)) ((HBX.out.cell (World.block_lt_of_cell? w _ hg)).trans hg)
    have HC := Aside0.mk hc
    have HN := Aside0.mk (blk_new w (.cells #[.int .i64 0] 39))
    obtain ⟨t, x, rfl⟩ := ev_some hv he
    clear hc hn hf hh hg hv ho he
    go_enter Tryd.func21, Tryd.ntmps21
    go_wp2_with (go_at_call 16; (with_reducible refine HC.out.mono ?_); rintro ev w5 ⟨rfl, W1, hW1, rfl⟩; (have HN' := Aside0.mk (blk_put (cs' := #[.int .i64 n]) (blk_below HN.out hW1) 0 (.int .i64 n) rfl)); (have HBW := Aside0.mk (below_set (j := 0) (v := .int .i64 n) (HBX.out.trans (hW1.mono HBX.out.size)) (Nat.le_refl w.heap.size))); (have n0 := (blk_cell HN'.out 0).trans (by rfl : _ = some (.int .i64 n))); clear hW1)
    go_ret
    exact ⟨rfl, HBW.out⟩
end Go.Proofs.YtcklemjmenifpaaDoor.Fn
