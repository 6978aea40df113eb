/- The document's errors as rows that are read; its numbers (All), and whether acts are long, by the printed contracts. -/
import Derived.Test.YtcklemjmenifpaaDoorFnDo
import Derived.Test.YtcklemjmenifpaaDoorFsx1
import Derived.Test.YtcklemjmenifpaaDoorFsx2
set_option linter.unusedVariables false
set_option linter.unusedSimpArgs false
namespace Go.Proofs.YtcklemjmenifpaaDoor.Fn
open Go.RowKit Go.Shelf Go.Extern.Stop Go.Stop Go.Extern Go.Proofs.YtcklemjmenifpaaDoorW.PrintWords Go.Proofs.YtcklemjmenifpaaDoorW.PrintLast Go.Proofs.YtcklemjmenifpaaDoorW.PrintMore Go.Proofs.YtcklemjmenifpaaDoor.Fs

theorem blk_at {W : World} {g : Nat} {cs : Array Value} {t : TypeId} (h : W.heap[g]? = some (.cells cs t (0, 0))) (i : Nat) (u : Value) (hu : cs.toList[i]? = some u) : W.cell? ((⟨g, 0, none⟩ : Addr).add i) = some u := by
  have := (blk_cell h i).trans ((Array.getElem?_toList (xs := cs) (i := i)).symm.trans hu)
  unfold Addr.add
  by_cases h0 : i = 0
  · subst h0
    exact this
  · rw [if_neg h0]
    show W.cell? ⟨g, 0 + i, none⟩ = some u
    rw [Nat.zero_add]
    exact this
theorem rv_C {W : World} : ∀ {e : Er} {v : Value}, RV W e v → ∃ A c, v = .slice A (refE e).f4.length c ∧ (refE e).f4.length ≤ c ∧ Kd.C k29 W A (refE e).f4.length (refE e).f4
  | .nil, _, h => ⟨none, 0, h, Nat.le_refl _, rfl, (by show 0 ≤ 9223372036854775807; decide), fun h0 => absurd h0 (Nat.lt_irrefl 0)⟩
  | .num _, _, h => ⟨none, 0, h, Nat.le_refl _, rfl, (by show 0 ≤ 9223372036854775807; decide), fun h0 => absurd h0 (Nat.lt_irrefl 0)⟩
  | .slip s no e, _, ⟨g, c, v', h1, h2, h3, h4⟩ => by
    obtain ⟨A, c', rfl, hl, hC⟩ := rv_C h4
    refine ⟨_, c, h1, h2, rfl, (by show _ + 1 ≤ 9223372036854775807; decide), fun _ => ⟨⟨g, 0, none⟩, rfl, fun j p hj => ?_⟩⟩
    have hj0 : j = 0 := by
      have := (List.getElem?_eq_some_iff.1 hj).1
      simp only [refE, List.length_cons, List.length_nil] at this
      omega
    subst hj0
    obtain rfl : refE e = p := Option.some.inj hj
    refine ⟨_, rfl, k29_mk W (refE e) hl hC, fun i u hi => ?_⟩
    have := blk_at h3 (0 * 5 + i) u (by rw [Nat.zero_mul, Nat.zero_add]; exact hi)
    exact this
  | .two a b, _, ⟨g, c, va, vb, h1, h2, h3, h4, h5⟩ => by
    obtain ⟨A, c', rfl, hl, hC⟩ := rv_C h4
    obtain ⟨A2, c2, rfl, hl2, hC2⟩ := rv_C h5
    refine ⟨_, c, h1, h2, rfl, (by show 2 ≤ 9223372036854775807; decide), fun _ => ⟨⟨g, 0, none⟩, rfl, fun j p hj => ?_⟩⟩
    have hj0 : j = 0 ∨ j = 1 := by
      have := (List.getElem?_eq_some_iff.1 hj).1
      simp only [refE, List.length_cons, List.length_nil] at this
      omega
    rcases hj0 with rfl | rfl
    · obtain rfl : refE a = p := Option.some.inj hj
      refine ⟨_, rfl, k29_mk W (refE a) hl hC, fun i u hi => ?_⟩
      have hi5 : i < 5 := (List.getElem?_eq_some_iff.1 hi).1
      refine blk_at h3 (0 * 5 + i) u ?_
      rcases (by omega : i = 0 ∨ i = 1 ∨ i = 2 ∨ i = 3 ∨ i = 4) with rfl | rfl | rfl | rfl | rfl <;> exact hi
    · obtain rfl : refE b = p := Option.some.inj hj
      refine ⟨_, rfl, k29_mk W (refE b) hl2 hC2, fun i u hi => ?_⟩
      have hi5 : i < 5 := (List.getElem?_eq_some_iff.1 hi).1
      refine blk_at h3 (1 * 5 + i) u ?_
      rcases (by omega : i = 0 ∨ i = 1 ∨ i = 2 ∨ i = 3 ∨ i = 4) with rfl | rfl | rfl | rfl | rfl <;> exact hi
/-- All numbers of an error. -/
def allE : Er → List Int
  | .nil => []
  | .num n => [n]
  | .slip _ _ e => allE e
  | .two a b => allE a ++ allE b
theorem w01 : wrap64 (0 + 1) = 1 := by decide +kernel
theorem w11 : wrap64 (1 + 1) = 2 := by decide +kernel
theorem all_f : ∀ (e : Er), (allE e).length < 17592186044416 → Ev (fun k => gristmillref05_All.f k (refE e).f0 (refE e).f1 (refE e).f2 (refE e).f3 (refE e).f4) (allE e)
  | .nil, _ => ⟨2, fun k hk => by
    obtain ⟨k, rfl⟩ : ∃ m, k = m + 2 := ⟨k - 2, by omega⟩
    rfl⟩
  | .num n, _ => ⟨1, fun k hk => by
    obtain ⟨k, rfl⟩ : ∃ m, k = m + 1 := ⟨k - 1, by omega⟩
    rfl⟩
  | .slip s no e, h => by
    obtain ⟨k0, h0⟩ := all_f e h
    refine ⟨k0 + 3, fun k hk => ?_⟩
    obtain ⟨k, rfl⟩ : ∃ m, k = m + 3 := ⟨k - 3, by omega⟩
    have he := h0 (k + 1) (by omega)
    replace he : gristmillref05_All.f (k + 1) (refE e).f0 (refE e).f1 (refE e).f2 (refE e).f3 (refE e).f4 = some (allE e) := he
    show (gristmillref05_All.f (k + 1) (refE e).f0 (refE e).f1 (refE e).f2 (refE e).f3 (refE e).f4).bind (fun t170 => if ([] : List Int).length + t170.length < 17592186044416 then gristmillref05_All.l0 (k + 1) ([] ++ t170) (wrap64 (0 + 1)) 2 0 s no [refE e] else none) = some (allE e)
    rw [he]
    show (if ([] : List Int).length + (allE e).length < 17592186044416 then gristmillref05_All.l0 (k + 1) ([] ++ allE e) (wrap64 (0 + 1)) 2 0 s no [refE e] else none) = some (allE e)
    rw [if_pos (by simp only [List.length_nil, Nat.zero_add]; exact h), w01]
    rfl
  | .two a b, h => by
    have hl : (allE a).length + (allE b).length < 17592186044416 := by rw [← List.length_append]; exact h
    obtain ⟨k0, h0⟩ := all_f a (by omega)
    obtain ⟨k1, h1⟩ := all_f b (by omega)
    refine ⟨k0 + k1 + 4, fun k hk => ?_⟩
    obtain ⟨k, rfl⟩ : ∃ m, k = m + 4 := ⟨k - 4, by omega⟩
    have ha := h0 (k + 2) (by omega)
    replace ha : gristmillref05_All.f (k + 2) (refE a).f0 (refE a).f1 (refE a).f2 (refE a).f3 (refE a).f4 = some (allE a) := ha
    have hb := h1 (k + 1) (by omega)
    replace hb : gristmillref05_All.f (k + 1) (refE b).f0 (refE b).f1 (refE b).f2 (refE b).f3 (refE b).f4 = some (allE b) := hb
    show (gristmillref05_All.f (k + 2) (refE a).f0 (refE a).f1 (refE a).f2 (refE a).f3 (refE a).f4).bind (fun t170 => if ([] : List Int).length + t170.length < 17592186044416 then gristmillref05_All.l0 (k + 2) ([] ++ t170) (wrap64 (0 + 1)) 3 0 ⟨#[]⟩ 0 [refE a, refE b] else none) = some (allE a ++ allE b)
    rw [ha]
    show (if ([] : List Int).length + (allE a).length < 17592186044416 then gristmillref05_All.l0 (k + 2) ([] ++ allE a) (wrap64 (0 + 1)) 3 0 ⟨#[]⟩ 0 [refE a, refE b] else none) = some (allE a ++ allE b)
    rw [if_pos (by simp only [List.length_nil]; omega), w01]
    show (gristmillref05_All.f (k + 1) (refE b).f0 (refE b).f1 (refE b).f2 (refE b).f3 (refE b).f4).bind (fun t170 => if (allE a).length + t170.length < 17592186044416 then gristmillref05_All.l0 (k + 1) (allE a ++ t170) (wrap64 (1 + 1)) 3 0 ⟨#[]⟩ 0 [refE a, refE b] else none) = some (allE a ++ allE b)
    rw [hb]
    show (if (allE a).length + (allE b).length < 17592186044416 then gristmillref05_All.l0 (k + 1) (allE a ++ allE b) (wrap64 (1 + 1)) 3 0 ⟨#[]⟩ 0 [refE a, refE b] else none) = some (allE a ++ allE b)
    rw [if_pos hl, w11]
    rfl
theorem allr_calls (e : Er) (v : Value) (w : World) (hv : RV w e v) (hl : (allE e).length < 17592186044416) : Calls Tryd.prog 9 #[rAgg e v] w fun ev w' => (∃ v0, ev = .returned v0 ∧ Kd.R (Kd.int .i64) 3 w' w.heap.size (fun _ => True) v0 (allE e)) ∧ Below w.heap.size w w' := by
  obtain ⟨A, c, rfl, hc, hC⟩ := rv_C hv
  obtain ⟨k, hk⟩ := (all_f e hl).rounds
  exact (gristmillref05_All.calls k _ _ _ _ A c _ _ w hC hc hk).mono fun ev w' ⟨v0, h1, h2, h3⟩ => ⟨⟨v0, h1, h2⟩, h3⟩
/-! How many numbers acts make. -/
theorem all_both (a b : Er) : (allE (bothE a b)).length = (allE a).length + (allE b).length := by
  cases a <;> cases b <;> simp [bothE, allE] <;> omega
theorem all_fresh (n : Int) : (allE (freshE n)).length ≤ 1 := by
  unfold freshE
  split <;> simp [allE]
theorem all_in (s : ByteArray) (no : Int) (e : Er) : allE (inE s no e) = allE e := by cases e <;> rfl
theorem all_step (e : Er) (a : S56) : (allE (stepE e a)).length ≤ (allE e).length + 1 := by
  have := all_fresh a.f3
  unfold stepE
  repeat' split
  · omega
  · rw [all_in]; omega
  · rw [all_both]; omega
  · rw [all_both]; omega
  · omega
theorem all_fold (l : List S56) : ∀ e, (allE (l.foldl stepE e)).length ≤ (allE e).length + l.length := by
  induction l with
  | nil => intro e; exact Nat.le_refl _
  | cons a l ih =>
    intro e
    have h1 := ih (stepE e a)
    have h2 := all_step e a
    simp only [List.foldl_cons, List.length_cons]
    omega
theorem all_made (l : List S56) : (allE (madeE (l.take 40))).length ≤ 40 := by
  have := all_fold (l.take 40) .nil
  have h2 : (allE Er.nil).length = 0 := rfl
  have h3 : (l.take 40).length ≤ 40 := by rw [List.length_take]; omega
  unfold madeE
  omega
theorem long_l0 (l : List S56) : ∀ (n i : Nat) (x : Int), 40 - i ≤ n → i ≤ 40 → ∃ b, Ev (fun k => gristmilllaw05_long.l0 k l x (i : Int)) b := by
  intro n
  induction n with
  | zero =>
    intro i x hn hi
    obtain rfl : i = 40 := by omega
    refine ⟨false, 2, fun k hk => ?_⟩
    obtain ⟨k, rfl⟩ : ∃ m, k = m + 2 := ⟨k - 2, by omega⟩
    show (if ((40 : Nat) : Int) < (l.length : Int) then gristmilllaw05_long.j1 (k + 1) l x ((40 : Nat) : Int) (decide (((40 : Nat) : Int) < 40)) else gristmilllaw05_long.j1 (k + 1) l x ((40 : Nat) : Int) false) = some false
    split <;> rfl
  | succ n ih =>
    intro i x hn hi
    by_cases h40 : i = 40
    · subst h40
      refine ⟨false, 2, fun k hk => ?_⟩
      obtain ⟨k, rfl⟩ : ∃ m, k = m + 2 := ⟨k - 2, by omega⟩
      show (if ((40 : Nat) : Int) < (l.length : Int) then gristmilllaw05_long.j1 (k + 1) l x ((40 : Nat) : Int) (decide (((40 : Nat) : Int) < 40)) else gristmilllaw05_long.j1 (k + 1) l x ((40 : Nat) : Int) false) = some false
      split <;> rfl
    by_cases hlt : i < l.length
    · have hw : wrap64 ((i : Int) + 1) = ((i + 1 : Nat) : Int) := by unfold wrap64; omega
      by_cases hg : wrap64 (x + (((rd_T56 l (i : Int)).f1).size : Int)) > 2000
      · refine ⟨true, 2, fun k hk => ?_⟩
        obtain ⟨k, rfl⟩ : ∃ m, k = m + 2 := ⟨k - 2, by omega⟩
        show gristmilllaw05_long.l0 (k + 1 + 1) l x (i : Int) = some true
        simp only [gristmilllaw05_long.l0, gristmilllaw05_long.j1]
        rw [if_pos (by omega), decide_eq_true (by omega : (i : Int) < 40), if_pos rfl, if_pos (by omega), if_pos (by omega), if_pos hg]
      · obtain ⟨b, k0, h0⟩ := ih (i + 1) (wrap64 (x + (((rd_T56 l (i : Int)).f1).size : Int))) (by omega) (by omega)
        refine ⟨b, k0 + 2, fun k hk => ?_⟩
        obtain ⟨k, rfl⟩ : ∃ m, k = m + 2 := ⟨k - 2, by omega⟩
        show gristmilllaw05_long.l0 (k + 1 + 1) l x (i : Int) = some b
        have := h0 k (by omega)
        simp only [gristmilllaw05_long.l0, gristmilllaw05_long.j1]
        rw [if_pos (by omega), decide_eq_true (by omega : (i : Int) < 40), if_pos rfl, if_pos (by omega), if_pos (by omega), if_neg hg, hw]
        exact this
    · refine ⟨false, 2, fun k hk => ?_⟩
      obtain ⟨k, rfl⟩ : ∃ m, k = m + 2 := ⟨k - 2, by omega⟩
      show gristmilllaw05_long.l0 (k + 1 + 1) l x (i : Int) = some false
      simp only [gristmilllaw05_long.l0, gristmilllaw05_long.j1]
      rw [if_neg (by omega), if_neg (by decide)]
theorem long_calls (l : List S56) (A : Option Addr) (c : Nat) (w : World) (hA : Kd.C k56 w A l.length l) (hc : l.length ≤ c) :
    ∃ b, Calls Tryd.prog 6 #[.slice A l.length c] w fun ev w' => ev = .returned (.bool b) ∧ Below w.heap.size w w' := by
  obtain ⟨b, hb⟩ := long_l0 l 40 0 0 (by omega) (by omega)
  obtain ⟨k, hk⟩ := hb.rounds
  refine ⟨b, (gristmilllaw05_long.calls k A c l b w hA hc hk).mono ?_⟩
  intro ev w' h
  exact ⟨h.1, h.2.below⟩
end Go.Proofs.YtcklemjmenifpaaDoor.Fn
