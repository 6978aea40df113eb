/- A job that came in as an argument: read as data, it is a tree (S38) whose cells the printed contracts speak of. -/
import Derived.Test.YtejeaiplbhgfdaaCkx0
import Derived.Test.YtejeaiplbhgfdaaCkFit
import Derived.Deep.Slices
import Derived.ChangeArms
namespace Go.Proofs.Ytejeaiplbhgfdaa.CkArg
open Go.RowKit Go.ChangeShapes Go.WideShapes Go.Deep Go.Proofs.YtejeaiplbhgfdaaW.PrintWords Go.Proofs.Ytejeaiplbhgfdaa.Ck Go.Proofs.Ytejeaiplbhgfdaa.CkFit

theorem cells23 : Try.prog.cellsOf 23 = 3 := by kernel_rfl
theorem cells26 : Try.prog.cellsOf 26 = 5 := by kernel_rfl
theorem cells47 : Try.prog.cellsOf 47 = 15 := by kernel_rfl
theorem cells38 : Try.prog.cellsOf 38 = 11 := by kernel_rfl

section
variable {H : Type} {enc : TypeId × Value → H} {w : World} {base : Nat} {spare : Nat → Bool} {held : Bool}
theorem read23 {fuel : Nat} {cs : List Value} {x : DataW H × List MemPlace} (h : DataW.trod enc Try.prog w base spare held fuel 23 cs = some x) : ∃ v : S23, cs = [.int .u8 v.f0, .int .i64 v.f1, .string v.f2] ∧ V23 v := by
  obtain ⟨xs, n, rfl, rfl, hl, hlen, hf⟩ := DataW.trod_struct Try.underlying23 h
  rw [cells23] at hl
  match cs, hl with
  | [c0, c1, c2], _ =>
  match xs, hlen with
  | [y0, y1, y2], _ =>
  have h0 := hf 0 _ rfl
  have h1 := hf 1 _ rfl
  have h2 := hf 2 _ rfl
  obtain ⟨a, e0, _, wa⟩ := DataW.trod_int Try.underlying5 h0
  obtain ⟨b, e1, _, wb⟩ := DataW.trod_int Try.underlying3 h1
  obtain ⟨s, e2, _, ws⟩ := DataW.trod_string Try.underlying9 h2
  injection e0 with e0
  injection e1 with e1
  injection e2 with e2
  subst e0 e1 e2
  unfold maxLen at ws
  simp only [Lit.wf, Bool.and_eq_true, decide_eq_true_eq] at wa wb
  exact ⟨⟨a, b, s⟩, rfl, wa.1, wa.2, wb.1, wb.2, ws⟩

theorem cells?_get {w : World} {base : Nat} {a : Addr} {n : Nat} {cs : List Value} (h : w.cells? base a n = some cs) : cs.length = n ∧ ∀ i u, cs[i]? = some u → w.cell? (a.add i) = some u := by
  unfold World.cells? at h
  by_cases hb : base ≤ a.block
  · rw [if_pos hb] at h
    have hl : cs.length = n := by simpa using mapM_some_length h
    refine ⟨hl, fun i u hu => ?_⟩
    have hi : i < cs.length := (List.getElem?_eq_some_iff.1 hu).1
    have := mapM_some_get h i i (by rw [List.getElem?_range (by omega)])
    rw [hu] at this
    exact this
  · rw [if_neg hb] at h
    cases h

/-- A whole expression. -/
theorem read26 : ∀ (fuel : Nat) {cs : List Value} {x : DataW H × List MemPlace}, DataW.trod enc Try.prog w base spare held fuel 26 cs = some x → ∃ v : S26, k26.K w v cs ∧ Fit26 v := by
  intro fuel
  induction fuel using Nat.strongRecOn with
  | ind fuel ih =>
  intro cs x h
  obtain ⟨xs, n, rfl, rfl, hl, hlen, hf⟩ := DataW.trod_struct Try.underlying26 h
  rw [cells26] at hl
  match cs, hl with
  | [c0, c1, c2, c3, c4], _ =>
  match xs, hlen with
  | [y0, y1, y2], _ =>
  have h0 := hf 0 _ rfl
  have h1 := hf 1 _ rfl
  have h2 := hf 2 _ rfl
  obtain ⟨a, e0, _, wa⟩ := DataW.trod_int Try.underlying3 h0
  obtain ⟨v, e1, gv⟩ := read23 h1
  injection e0 with e0
  injection e1 with e1 e2
  injection e2 with e2 e3
  injection e3 with e3
  subst e0 e1 e2 e3
  simp only [Lit.wf, Bool.and_eq_true, decide_eq_true_eq] at wa
  rcases DataW.trod_slice Try.underlying24 h2 with ⟨e4, _⟩ | ⟨A, len, cap, elems, rest, m, hm, e4, _, hb, hlc, hcm, hel, hget, _, _⟩
  · injection e4 with e4
    subst e4
    refine ⟨⟨a, v, []⟩, k26_mk w ⟨a, v, []⟩ (A4 := none) (c4 := 0) (Nat.le_refl _) ⟨rfl, by simp, fun h => by simp at h⟩, Fit26.mk wa.1 wa.2 gv (by simp) (fun a h => by simp at h)⟩
  · injection e4 with e4
    subst e4
    have key : ∀ i, i < len → ∃ (c : List Value) (q : S26), k26.K w q c ∧ Fit26 q ∧ w.cells? base (A.add (i * 5)) 5 = some c := by
      intro i hi
      have hg := hget i hi
      rw [cells26, List.getElem?_eq_getElem (by omega)] at hg
      obtain ⟨c, hc, ht⟩ := Option.bind_eq_some_iff.1 hg
      obtain ⟨q, hq, gq⟩ := ih m (by omega) ht
      exact ⟨c, q, hq, gq, hc⟩
    have : Nonempty S26 := ⟨z26⟩
    have inst : Inhabited S26 := ⟨z26⟩
    obtain ⟨Q, hQ⟩ := choose_lt (α := S26) (n := len) (p := fun i q => ∃ c, k26.K w q c ∧ Fit26 q ∧ w.cells? base (A.add (i * 5)) 5 = some c) (fun i hi => by
      obtain ⟨c, q, h⟩ := key i hi
      exact ⟨q, c, h⟩)
    unfold maxLen at hcm
    have hln : ((List.range len).map Q).length = len := by simp
    refine ⟨⟨a, v, (List.range len).map Q⟩, ?_, Fit26.mk wa.1 wa.2 gv (by rw [hln]; omega) (fun q hq => ?_)⟩
    · have := k26_mk w ⟨a, v, (List.range len).map Q⟩ (A4 := some A) (c4 := cap) (by rw [hln]; exact hlc) ⟨rfl, by rw [hln]; omega, fun _ => ⟨A, rfl, fun j p hj => ?_⟩⟩
      · rw [hln] at this
        exact this
      · have hj' : j < len := by
          have := (List.getElem?_eq_some_iff.1 hj).1
          rw [hln] at this
          exact this
        obtain ⟨c, hc, _, hcell⟩ := hQ j hj'
        rw [List.getElem?_map, List.getElem?_range hj'] at hj
        injection hj with hj
        subst hj
        obtain ⟨hl5, hg5⟩ := cells?_get hcell
        refine ⟨c, hl5, hc, fun i u hu => ?_⟩
        have := hg5 i u hu
        rw [Deep.add_add] at this
        exact this
    · obtain ⟨i, hi, rfl⟩ := List.mem_map.1 hq
      obtain ⟨c, _, g, _⟩ := hQ i (List.mem_range.1 hi)
      exact g

/-- A row of elements, each of which can be read. -/
theorem rowRead {S : Type} (k : Kd S) (R : S → Prop) (z : S) {A : Addr} {len : Nat} (hm : len ≤ 9223372036854775807)
    (key : ∀ i, i < len → ∃ (c : List Value) (q : S), k.K w q c ∧ R q ∧ w.cells? base (A.add (i * k.sz)) k.sz = some c) :
    ∃ L : List S, L.length = len ∧ k.C w (some A) len L ∧ ∀ q, q ∈ L → R q := by
  have : Nonempty S := ⟨z⟩
  have inst : Inhabited S := ⟨z⟩
  obtain ⟨Q, hQ⟩ := choose_lt (α := S) (n := len) (p := fun i q => ∃ c, k.K w q c ∧ R q ∧ w.cells? base (A.add (i * k.sz)) k.sz = some c) (fun i hi => by
    obtain ⟨c, q, h⟩ := key i hi
    exact ⟨q, c, h⟩)
  have hln : ((List.range len).map Q).length = len := by simp
  refine ⟨(List.range len).map Q, hln, ⟨hln, by omega, fun _ => ⟨A, rfl, fun j p hj => ?_⟩⟩, fun q hq => ?_⟩
  · have hj' : j < len := by
      have := (List.getElem?_eq_some_iff.1 hj).1
      rw [hln] at this
      exact this
    obtain ⟨c, hc, _, hcell⟩ := hQ j hj'
    rw [List.getElem?_map, List.getElem?_range hj'] at hj
    injection hj with hj
    subst hj
    obtain ⟨hl5, hg5⟩ := cells?_get hcell
    refine ⟨c, hl5, hc, fun i u hu => ?_⟩
    have := hg5 i u hu
    rw [Deep.add_add] at this
    exact this
  · obtain ⟨i, hi, rfl⟩ := List.mem_map.1 hq
    obtain ⟨c, _, g, _⟩ := hQ i (List.mem_range.1 hi)
    exact g

theorem list15 {cs : List Value} (h : cs.length = 15) : ∃ a b c, cs = a ++ (b ++ c) ∧ a.length = 5 ∧ b.length = 5 ∧ c.length = 5 :=
  ⟨cs.take 5, (cs.drop 5).take 5, (cs.drop 5).drop 5, by rw [List.take_append_drop, List.take_append_drop], by simp; omega, by simp; omega, by simp; omega⟩
theorem read47 {fuel : Nat} {cs : List Value} {x : DataW H × List MemPlace} (h : DataW.trod enc Try.prog w base spare held fuel 47 cs = some x) : ∃ v : S47, k47.K w v cs ∧ Fit47 v := by
  obtain ⟨xs, n, rfl, rfl, hl, hlen, hf⟩ := DataW.trod_struct Try.underlying47 h
  rw [cells47] at hl
  match cs, hl with
  | [c0, c1, c2, c3, c4, c5, c6, c7, c8, c9, c10, c11, c12, c13, c14], _ =>
  match xs, hlen with
  | [y0, y1, y2], _ =>
  obtain ⟨a, k0, g0⟩ := read26 _ (hf 0 _ rfl)
  obtain ⟨b, k1, g1⟩ := read26 _ (hf 1 _ rfl)
  obtain ⟨c, k2, g2⟩ := read26 _ (hf 2 _ rfl)
  exact ⟨⟨a, b, c⟩, ⟨[c0, c1, c2, c3, c4], [c5, c6, c7, c8, c9, c10, c11, c12, c13, c14], rfl, k0, ⟨[c5, c6, c7, c8, c9], [c10, c11, c12, c13, c14], rfl, k1, k2⟩⟩, g0, g1, g2⟩

/-- A whole job. -/
theorem read38 {fuel : Nat} {cs : List Value} {x : DataW H × List MemPlace} (h : DataW.trod enc Try.prog w base spare held fuel 38 cs = some x) : ∃ v : S38, k38.K w v cs ∧ Fit38 v := by
  obtain ⟨xs, n, rfl, rfl, hl, hlen, hf⟩ := DataW.trod_struct Try.underlying38 h
  rw [cells38] at hl
  match cs, hl with
  | [c0, c1, c2, c3, c4, c5, c6, c7, c8, c9, c10], _ =>
  match xs, hlen with
  | [y0, y1, y2, y3, y4, y5, y6], _ =>
  have h0 := hf 0 _ rfl
  have h1 := hf 1 _ rfl
  have h2 := hf 2 _ rfl
  have h3 := hf 3 _ rfl
  have h5 := hf 5 _ rfl
  have h6 := hf 6 _ rfl
  obtain ⟨nm, e0, _, wn⟩ := DataW.trod_string Try.underlying9 h0
  obtain ⟨ea, e1, _, we⟩ := DataW.trod_int Try.underlying3 h1
  obtain ⟨fo, e3, _, wf⟩ := DataW.trod_int Try.underlying3 h3
  obtain ⟨fin, kf, gf⟩ := read26 _ (hf 4 _ rfl)
  obtain ⟨co, e5, _⟩ := DataW.trod_bool Try.underlying4 h5
  obtain ⟨pa, e6, _, wp⟩ := DataW.trod_int Try.underlying3 h6
  injection e0 with e0
  injection e1 with e1
  injection e3 with e3
  injection e5 with e5
  injection e6 with e6
  subst e0 e1 e3 e5 e6
  unfold maxLen at wn
  simp only [Lit.wf, Bool.and_eq_true, decide_eq_true_eq] at we wf wp
  have mk : ∀ (L : List S47) (A : Option Addr) (cap : Nat), c2 = .slice A L.length cap → L.length ≤ cap → k47.C w A L.length L → L.length ≤ 9223372036854775807 → (∀ m, m ∈ L → Fit47 m) → ∃ v : S38, k38.K w v [.string nm, .int .i64 ea, c2, .int .i64 fo, c4, c5, c6, c7, c8, .bool co, .int .i64 pa] ∧ Fit38 v := by
    rintro L A cap rfl hc hC hm hg
    refine ⟨⟨nm, ea, L, fo, fin, co, pa⟩, ?_, ⟨wn, we.1, we.2, by show L.length ≤ _; omega, hg, wf.1, wf.2, gf, wp.1, wp.2⟩⟩
    obtain ⟨A8, k8, hcs, l8, g8⟩ := k26_open kf
    have hcs' : ([c4, c5, c6, c7, c8] : List Value) = _ := hcs
    injection hcs' with q4 hcs'
    injection hcs' with q5 hcs'
    injection hcs' with q6 hcs'
    injection hcs' with q7 hcs'
    injection hcs' with q8 _
    subst q4 q5 q6 q7 q8
    exact k38_mk w ⟨nm, ea, L, fo, fin, co, pa⟩ hc hC l8 g8
  rcases DataW.trod_slice Try.underlying36 h2 with ⟨e4, _⟩ | ⟨A, len, cap, elems, rest, m, hm, e4, _, hb, hlc, hcm, hel, hget, _, _⟩
  · injection e4 with e4
    exact mk [] none 0 e4 (Nat.le_refl _) ⟨rfl, by simp, fun h => by simp at h⟩ (by simp) (fun a h => by simp at h)
  · injection e4 with e4
    have key : ∀ i, i < len → ∃ (c : List Value) (q : S47), k47.K w q c ∧ Fit47 q ∧ w.cells? base (A.add (i * k47.sz)) k47.sz = some c := by
      intro i hi
      have hg := hget i hi
      rw [cells47, List.getElem?_eq_getElem (by omega)] at hg
      obtain ⟨c, hc, ht⟩ := Option.bind_eq_some_iff.1 hg
      obtain ⟨q, hq, gq⟩ := read47 ht
      exact ⟨c, q, hq, gq, hc⟩
    unfold maxLen at hcm
    obtain ⟨L, hL, hC, hR⟩ := rowRead k47 Fit47 ⟨z26, z26, z26⟩ (by omega) key
    subst hL
    exact mk L (some A) cap e4 hlc hC (by omega) hR
end
end Go.Proofs.Ytejeaiplbhgfdaa.CkArg
