/- An expression that came in as an argument: read as data, it is a tree (S35) whose cells the printed contracts speak of. -/
import Derived.Test.YtaebjcldopoccaaDoorEsLaw
import Derived.Deep.Slices
import Derived.ChangeArms
namespace Go.Proofs.YtaebjcldopoccaaDoor.EsArg
open Go.RowKit Go.ChangeShapes Go.WideShapes Go.Deep Go.Proofs.YtaebjcldopoccaaDoorW.PrintWords Go.Proofs.YtaebjcldopoccaaDoor.Es Go.Proofs.YtaebjcldopoccaaDoor.EsLaw

theorem cells32 : Tryd.prog.cellsOf 32 = 3 := by kernel_rfl
theorem cells35 : Tryd.prog.cellsOf 35 = 5 := by kernel_rfl

section
variable {H : Type} {enc : TypeId × Value → H} {w : World} {base : Nat} {spare : Nat → Bool} {held : Bool}
theorem read32 {fuel : Nat} {cs : List Value} {x : DataW H × List MemPlace} (h : DataW.trod enc Tryd.prog w base spare held fuel 32 cs = some x) : ∃ v : S32, cs = [.int .u8 v.f0, .int .i64 v.f1, .string v.f2] ∧ V32 v := by
  obtain ⟨xs, n, rfl, rfl, hl, hlen, hf⟩ := DataW.trod_struct Tryd.underlying32 h
  rw [cells32] at hl
  match cs, hl with
  | [c0, c1, c2], _ =>
  match xs, hlen with
  | [y0, y1, y2], _ =>
  have h0 := hf 0 _ rfl
  have h1 := hf 1 _ rfl
  have h2 := hf 2 _ rfl
  obtain ⟨a, e0, _, wa⟩ := DataW.trod_int Tryd.underlying5 h0
  obtain ⟨b, e1, _, wb⟩ := DataW.trod_int Tryd.underlying3 h1
  obtain ⟨s, e2, _, ws⟩ := DataW.trod_string Tryd.underlying9 h2
  injection e0 with e0
  injection e1 with e1
  injection e2 with e2
  subst e0 e1 e2
  unfold maxLen at ws
  simp only [Lit.wf, Bool.and_eq_true, decide_eq_true_eq] at wa wb
  exact ⟨⟨a, b, s⟩, rfl, wa.1, wa.2, wb.1, wb.2, ws⟩

theorem cells?_get {w : World} {base : Nat} {a : Addr} {n : Nat} {cs : List Value} (h : w.cells? base a n = some cs) : cs.length = n ∧ ∀ i u, cs[i]? = some u → w.cell? (a.add i) = some u := by
  unfold World.cells? at h
  by_cases hb : base ≤ a.block
  · rw [if_pos hb] at h
    have hl : cs.length = n := by simpa using mapM_some_length h
    refine ⟨hl, fun i u hu => ?_⟩
    have hi : i < cs.length := (List.getElem?_eq_some_iff.1 hu).1
    have := mapM_some_get h i i (by rw [List.getElem?_range (by omega)])
    rw [hu] at this
    exact this
  · rw [if_neg hb] at h
    cases h

/-- A whole expression. -/
theorem read35 : ∀ (fuel : Nat) {cs : List Value} {x : DataW H × List MemPlace}, DataW.trod enc Tryd.prog w base spare held fuel 35 cs = some x → ∃ v : S35, k35.K w v cs ∧ Fit35 v := by
  intro fuel
  induction fuel using Nat.strongRecOn with
  | ind fuel ih =>
  intro cs x h
  obtain ⟨xs, n, rfl, rfl, hl, hlen, hf⟩ := DataW.trod_struct Tryd.underlying35 h
  rw [cells35] at hl
  match cs, hl with
  | [c0, c1, c2, c3, c4], _ =>
  match xs, hlen with
  | [y0, y1, y2], _ =>
  have h0 := hf 0 _ rfl
  have h1 := hf 1 _ rfl
  have h2 := hf 2 _ rfl
  obtain ⟨a, e0, _, wa⟩ := DataW.trod_int Tryd.underlying3 h0
  obtain ⟨v, e1, gv⟩ := read32 h1
  injection e0 with e0
  injection e1 with e1 e2
  injection e2 with e2 e3
  injection e3 with e3
  subst e0 e1 e2 e3
  simp only [Lit.wf, Bool.and_eq_true, decide_eq_true_eq] at wa
  rcases DataW.trod_slice Tryd.underlying33 h2 with ⟨e4, _⟩ | ⟨A, len, cap, elems, rest, m, hm, e4, _, hb, hlc, hcm, hel, hget, _, _⟩
  · injection e4 with e4
    subst e4
    refine ⟨⟨a, v, []⟩, k35_mk w ⟨a, v, []⟩ (A4 := none) (c4 := 0) (Nat.le_refl _) ⟨rfl, by simp, fun h => by simp at h⟩, Fit35.mk wa.1 wa.2 gv (by simp) (fun a h => by simp at h)⟩
  · injection e4 with e4
    subst e4
    have key : ∀ i, i < len → ∃ (c : List Value) (q : S35), k35.K w q c ∧ Fit35 q ∧ w.cells? base (A.add (i * 5)) 5 = some c := by
      intro i hi
      have hg := hget i hi
      rw [cells35, List.getElem?_eq_getElem (by omega)] at hg
      obtain ⟨c, hc, ht⟩ := Option.bind_eq_some_iff.1 hg
      obtain ⟨q, hq, gq⟩ := ih m (by omega) ht
      exact ⟨c, q, hq, gq, hc⟩
    have : Nonempty S35 := ⟨z35⟩
    have inst : Inhabited S35 := ⟨z35⟩
    obtain ⟨Q, hQ⟩ := choose_lt (α := S35) (n := len) (p := fun i q => ∃ c, k35.K w q c ∧ Fit35 q ∧ w.cells? base (A.add (i * 5)) 5 = some c) (fun i hi => by
      obtain ⟨c, q, h⟩ := key i hi
      exact ⟨q, c, h⟩)
    unfold maxLen at hcm
    have hln : ((List.range len).map Q).length = len := by simp
    refine ⟨⟨a, v, (List.range len).map Q⟩, ?_, Fit35.mk wa.1 wa.2 gv (by rw [hln]; omega) (fun q hq => ?_)⟩
    · have := k35_mk w ⟨a, v, (List.range len).map Q⟩ (A4 := some A) (c4 := cap) (by rw [hln]; exact hlc) ⟨rfl, by rw [hln]; omega, fun _ => ⟨A, rfl, fun j p hj => ?_⟩⟩
      · rw [hln] at this
        exact this
      · have hj' : j < len := by
          have := (List.getElem?_eq_some_iff.1 hj).1
          rw [hln] at this
          exact this
        obtain ⟨c, hc, _, hcell⟩ := hQ j hj'
        rw [List.getElem?_map, List.getElem?_range hj'] at hj
        injection hj with hj
        subst hj
        obtain ⟨hl5, hg5⟩ := cells?_get hcell
        refine ⟨c, hl5, hc, fun i u hu => ?_⟩
        have := hg5 i u hu
        rw [Deep.add_add] at this
        exact this
    · obtain ⟨i, hi, rfl⟩ := List.mem_map.1 hq
      obtain ⟨c, _, g, _⟩ := hQ i (List.mem_range.1 hi)
      exact g

end
end Go.Proofs.YtaebjcldopoccaaDoor.EsArg
