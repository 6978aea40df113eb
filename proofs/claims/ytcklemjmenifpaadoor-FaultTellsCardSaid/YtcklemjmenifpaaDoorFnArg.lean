/- A row of acts that came in as an argument: read as data, it is a list of acts whose cells the contracts speak of. -/
import Derived.Test.YtcklemjmenifpaaDoorFnAll
import Derived.Deep.Slices
import Derived.ChangeArms
namespace Go.Proofs.YtcklemjmenifpaaDoor.Fn
open Go.RowKit Go.ChangeShapes Go.WideShapes Go.Deep Go.Proofs.YtcklemjmenifpaaDoorW.PrintWords Go.Proofs.YtcklemjmenifpaaDoor.Fs

theorem cells56 : Tryd.prog.cellsOf 56 = 4 := by kernel_rfl
/-- An act's numbers are int's, its text is no longer than an int can say. -/
def Fit56 (a : S56) : Prop := i64 a.f0 ∧ i64 a.f2 ∧ i64 a.f3 ∧ a.f1.size ≤ 9223372036854775807
section
variable {H : Type} {enc : TypeId × Value → H} {w : World} {base : Nat} {spare : Nat → Bool} {held : Bool}
set_option maxRecDepth 100000 in
theorem read56 {fuel : Nat} {cs : List Value} {x : DataW H × List MemPlace} (h : DataW.trod enc Tryd.prog w base spare held fuel 56 cs = some x) : ∃ v : S56, k56.K w v cs ∧ Fit56 v := by
  obtain ⟨xs, n, rfl, rfl, hl, hlen, hf⟩ := DataW.trod_struct Tryd.underlying56 h
  rw [cells56] at hl
  match cs, hl with
  | [c0, c1, c2, c3], _ =>
  match xs, hlen with
  | [y0, y1, y2, y3], _ =>
  have h0 := hf 0 _ rfl
  have h1 := hf 1 _ rfl
  have h2 := hf 2 _ rfl
  have h3 := hf 3 _ rfl
  obtain ⟨a, e0, _, wa⟩ := DataW.trod_int Tryd.underlying3 h0
  obtain ⟨s, e1, _, ws⟩ := DataW.trod_string Tryd.underlying9 h1
  obtain ⟨b, e2, _, wb⟩ := DataW.trod_int Tryd.underlying3 h2
  obtain ⟨c, e3, _, wc⟩ := DataW.trod_int Tryd.underlying3 h3
  injection e0 with e0
  injection e1 with e1
  injection e2 with e2
  injection e3 with e3
  subst e0 e1 e2 e3
  unfold maxLen at ws
  simp only [Lit.wf, Bool.and_eq_true, decide_eq_true_eq] at wa wb wc
  exact ⟨⟨a, s, b, c⟩, k56_mk w ⟨a, s, b, c⟩, wa, wb, wc, ws⟩
theorem cells?_get {w : World} {base : Nat} {a : Addr} {n : Nat} {cs : List Value} (h : w.cells? base a n = some cs) : cs.length = n ∧ ∀ i u, cs[i]? = some u → w.cell? (a.add i) = some u := by
  unfold World.cells? at h
  by_cases hb : base ≤ a.block
  · rw [if_pos hb] at h
    have hl : cs.length = n := by simpa using mapM_some_length h
    refine ⟨hl, fun i u hu => ?_⟩
    have hi : i < cs.length := (List.getElem?_eq_some_iff.1 hu).1
    have := mapM_some_get h i i (by rw [List.getElem?_range (by omega)])
    rw [hu] at this
    exact this
  · rw [if_neg hb] at h
    cases h
/-- A row of elements, each of which can be read. -/
theorem rowRead {S : Type} (k : Kd S) (R : S → Prop) (z : S) {A : Addr} {len : Nat} (hm : len ≤ 9223372036854775807)
    (key : ∀ i, i < len → ∃ (c : List Value) (q : S), k.K w q c ∧ R q ∧ w.cells? base (A.add (i * k.sz)) k.sz = some c) :
    ∃ L : List S, L.length = len ∧ k.C w (some A) len L ∧ ∀ q, q ∈ L → R q := by
  have : Nonempty S := ⟨z⟩
  have inst : Inhabited S := ⟨z⟩
  obtain ⟨Q, hQ⟩ := choose_lt (α := S) (n := len) (p := fun i q => ∃ c, k.K w q c ∧ R q ∧ w.cells? base (A.add (i * k.sz)) k.sz = some c) (fun i hi => by
    obtain ⟨c, q, h⟩ := key i hi
    exact ⟨q, c, h⟩)
  have hln : ((List.range len).map Q).length = len := by simp
  refine ⟨(List.range len).map Q, hln, ⟨hln, by omega, fun _ => ⟨A, rfl, fun j p hj => ?_⟩⟩, fun q hq => ?_⟩
  · have hj' : j < len := by
      have := (List.getElem?_eq_some_iff.1 hj).1
      rw [hln] at this
      exact this
    obtain ⟨c, hc, _, hcell⟩ := hQ j hj'
    rw [List.getElem?_map, List.getElem?_range hj'] at hj
    injection hj with hj
    subst hj
    obtain ⟨hl5, hg5⟩ := cells?_get hcell
    refine ⟨c, hl5, hc, fun i u hu => ?_⟩
    have := hg5 i u hu
    rw [Deep.add_add] at this
    exact this
  · obtain ⟨i, hi, rfl⟩ := List.mem_map.1 hq
    obtain ⟨c, _, g, _⟩ := hQ i (List.mem_range.1 hi)
    exact g
/-- The acts. -/
theorem readActs {fuel : Nat} {v : Value} {x : DataW H × List MemPlace} (h : DataW.trod enc Tryd.prog w base spare held fuel 22 [v] = some x) : ∃ (l : List S56) (A : Option Addr) (c : Nat), v = .slice A l.length c ∧ l.length ≤ c ∧ Kd.C k56 w A l.length l ∧ ∀ a, a ∈ l → Fit56 a := by
  rcases DataW.trod_slice Tryd.underlying22 h with ⟨e4, _⟩ | ⟨A, len, cap, elems, rest, m, hm, e4, _, hb, hlc, hcm, hel, hget, _, _⟩
  · injection e4 with e4
    subst e4
    exact ⟨[], none, 0, rfl, Nat.le_refl _, ⟨rfl, by simp, fun h => by simp at h⟩, fun a h => by simp at h⟩
  · injection e4 with e4
    subst e4
    unfold maxLen at hcm
    have key : ∀ i, i < len → ∃ (c : List Value) (q : S56), k56.K w q c ∧ Fit56 q ∧ w.cells? base (A.add (i * 4)) 4 = some c := by
      intro i hi
      have hg := hget i hi
      rw [cells56, List.getElem?_eq_getElem (by omega)] at hg
      obtain ⟨c, hc, ht⟩ := Option.bind_eq_some_iff.1 hg
      obtain ⟨q, hq, gq⟩ := read56 ht
      exact ⟨c, q, hq, gq, hc⟩
    obtain ⟨L, rfl, hC, hF⟩ := rowRead k56 Fit56 z56 (A := A) (len := len) (by omega) key
    exact ⟨L, some A, cap, rfl, hlc, hC, hF⟩
end
end Go.Proofs.YtcklemjmenifpaaDoor.Fn
