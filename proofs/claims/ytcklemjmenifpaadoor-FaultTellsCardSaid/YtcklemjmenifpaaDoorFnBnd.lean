/- How long a text acts make, where they are not long; and the acts' sizes as an argument's. -/
import Derived.Test.YtcklemjmenifpaaDoorFnArg
import Derived.SizedLaws
set_option linter.unusedVariables false
set_option linter.unusedSimpArgs false
namespace Go.Proofs.YtcklemjmenifpaaDoor.Fn
open Go.RowKit Go.Shelf Go.ChangeShapes Go.WideShapes Go.Deep Go.Proofs.YtcklemjmenifpaaDoorW.PrintWords Go.Proofs.YtcklemjmenifpaaDoor.Fs

/-- The letters of acts' stages. -/
def sumS : List S56 → Nat
  | [] => 0
  | a :: l => a.f1.size + sumS l
theorem sum_app (l m : List S56) : sumS (l ++ m) = sumS l + sumS m := by
  induction l with
  | nil => simp [sumS]
  | cons a l ih => simp only [List.cons_append, sumS, ih]; omega
theorem sum_snoc (l : List S56) (k : Nat) (h : k < l.length) : sumS (l.take (k + 1)) = sumS (l.take k) + l[k].f1.size := by
  rw [List.take_succ_eq_append_getElem h, sum_app]
  simp [sumS]
theorem long_bound (l : List S56) (hs : ∀ a, a ∈ l → a.f1.size ≤ 140737488355328) : ∀ (n i : Nat), 40 - i ≤ n → i ≤ 40 → i ≤ l.length → sumS (l.take i) ≤ 2000 → ∃ b, Ev (fun k => gristmilllaw05_long.l0 k l (sumS (l.take i) : Int) (i : Int)) b ∧ (b = false → sumS (l.take 40) ≤ 2000) := by
  intro n
  induction n with
  | zero =>
    intro i hn hi hil hx
    obtain rfl : i = 40 := by omega
    refine ⟨false, ⟨2, fun k hk => ?_⟩, fun _ => hx⟩
    obtain ⟨k, rfl⟩ : ∃ m, k = m + 2 := ⟨k - 2, by omega⟩
    show (if ((40 : Nat) : Int) < (l.length : Int) then gristmilllaw05_long.j1 (k + 1) l (sumS (l.take 40) : Int) ((40 : Nat) : Int) (decide (((40 : Nat) : Int) < 40)) else gristmilllaw05_long.j1 (k + 1) l (sumS (l.take 40) : Int) ((40 : Nat) : Int) false) = some false
    split <;> rfl
  | succ n ih =>
    intro i hn hi hil hx
    by_cases h40 : i = 40
    · subst h40
      refine ⟨false, ⟨2, fun k hk => ?_⟩, fun _ => hx⟩
      obtain ⟨k, rfl⟩ : ∃ m, k = m + 2 := ⟨k - 2, by omega⟩
      show (if ((40 : Nat) : Int) < (l.length : Int) then gristmilllaw05_long.j1 (k + 1) l (sumS (l.take 40) : Int) ((40 : Nat) : Int) (decide (((40 : Nat) : Int) < 40)) else gristmilllaw05_long.j1 (k + 1) l (sumS (l.take 40) : Int) ((40 : Nat) : Int) false) = some false
      split <;> rfl
    by_cases hlt : i < l.length
    · have hw : wrap64 ((i : Int) + 1) = ((i + 1 : Nat) : Int) := by unfold wrap64; omega
      have hrd : rd_T56 l (i : Int) = l[i] := by
        unfold rd_T56
        rw [Int.toNat_natCast, List.getD_eq_getElem?_getD, List.getElem?_eq_getElem hlt]
        rfl
      have hsz := hs l[i] (List.getElem_mem hlt)
      have hsn := sum_snoc l i hlt
      have hadd : wrap64 ((sumS (l.take i) : Int) + (((rd_T56 l (i : Int)).f1).size : Int)) = ((sumS (l.take (i + 1)) : Nat) : Int) := by
        rw [hrd, hsn]
        unfold wrap64
        omega
      by_cases hg : ((sumS (l.take (i + 1)) : Nat) : Int) > 2000
      · refine ⟨true, ⟨2, fun k hk => ?_⟩, fun h => by cases h⟩
        obtain ⟨k, rfl⟩ : ∃ m, k = m + 2 := ⟨k - 2, by omega⟩
        show gristmilllaw05_long.l0 (k + 1 + 1) l (sumS (l.take i) : Int) (i : Int) = some true
        simp only [gristmilllaw05_long.l0, gristmilllaw05_long.j1]
        rw [if_pos (by omega), decide_eq_true (by omega : (i : Int) < 40), if_pos rfl, if_pos (by omega), if_pos (by omega), hadd, if_pos hg]
      · obtain ⟨b, ⟨k0, h0⟩, hb⟩ := ih (i + 1) (by omega) (by omega) (by omega) (by omega)
        refine ⟨b, ⟨k0 + 2, fun k hk => ?_⟩, hb⟩
        obtain ⟨k, rfl⟩ : ∃ m, k = m + 2 := ⟨k - 2, by omega⟩
        show gristmilllaw05_long.l0 (k + 1 + 1) l (sumS (l.take i) : Int) (i : Int) = some b
        have := h0 k (by omega)
        simp only [gristmilllaw05_long.l0, gristmilllaw05_long.j1]
        rw [if_pos (by omega), decide_eq_true (by omega : (i : Int) < 40), if_pos rfl, if_pos (by omega), if_pos (by omega), hadd, if_neg hg, hw]
        exact this
    · refine ⟨false, ⟨2, fun k hk => ?_⟩, fun _ => ?_⟩
      · obtain ⟨k, rfl⟩ : ∃ m, k = m + 2 := ⟨k - 2, by omega⟩
        show gristmilllaw05_long.l0 (k + 1 + 1) l (sumS (l.take i) : Int) (i : Int) = some false
        simp only [gristmilllaw05_long.l0, gristmilllaw05_long.j1]
        rw [if_neg (by omega), if_neg (by decide)]
      · obtain rfl : i = l.length := by omega
        rw [List.take_length] at hx
        rw [List.take_of_length_le (by omega)]
        exact hx
theorem long2_calls (l : List S56) (A : Option Addr) (c : Nat) (w : World) (hA : Kd.C k56 w A l.length l) (hc : l.length ≤ c) (hs : ∀ a, a ∈ l → a.f1.size ≤ 140737488355328) :
    ∃ b, (b = false → sumS (l.take 40) ≤ 2000) ∧ Calls Tryd.prog 6 #[.slice A l.length c] w fun ev w' => ev = .returned (.bool b) ∧ Below w.heap.size w w' := by
  obtain ⟨b, hb, hl⟩ := long_bound l hs 40 0 (by omega) (by omega) (Nat.zero_le _) (Nat.zero_le _)
  obtain ⟨k, hk⟩ := hb.rounds
  refine ⟨b, hl, (gristmilllaw05_long.calls k A c l b w hA hc hk).mono ?_⟩
  intro ev w' h
  exact ⟨h.1, h.2.below⟩
/-! What is told of what acts make. -/
theorem fit_fresh {n : Int} (h : i64 n) : fitE (freshE n) := by
  unfold freshE
  split
  · trivial
  · exact h
theorem fit_both {a b : Er} (ha : fitE a) (hb : fitE b) : fitE (bothE a b) := by
  cases a <;> cases b <;> first | exact ha | exact hb | exact ⟨ha, hb⟩
theorem fit_in {s : ByteArray} {no : Int} {e : Er} (hn : i64 no) (h : fitE e) : fitE (inE s no e) := by
  cases e <;> first | exact h | exact ⟨hn, h⟩
theorem fit_step {e : Er} {a : S56} (ha : Fit56 a) (h : fitE e) : fitE (stepE e a) := by
  unfold stepE
  repeat' split
  · exact fit_fresh ha.2.2.1
  · exact fit_in ha.2.1 h
  · exact fit_both h (fit_fresh ha.2.2.1)
  · exact fit_both (fit_fresh ha.2.2.1) h
  · exact h
theorem fit_fold (l : List S56) : (∀ a, a ∈ l → Fit56 a) → ∀ e, fitE e → fitE (l.foldl stepE e) := by
  induction l with
  | nil => intro _ e h; exact h
  | cons a l ih => intro hl e h; exact ih (fun b hb => hl b (List.mem_cons_of_mem _ hb)) _ (fit_step (hl a List.mem_cons_self) h)
theorem fit_made (l : List S56) (hl : ∀ a, a ∈ l → Fit56 a) : fitE (madeE (l.take 40)) := fit_fold _ (fun a ha => hl a (List.mem_of_mem_take ha)) _ trivial
theorem len_fresh {n : Int} (h : i64 n) : (tellE (freshE n)).length ≤ 30 := by
  have := Lib.itoa_length_le n h.1 h.2
  unfold freshE
  split
  · decide
  · simp only [tellE, List.length_append, List.length_cons, List.length_nil]
    omega
theorem len_both (a b : Er) : (tellE (bothE a b)).length ≤ (tellE a).length + (tellE b).length + 4 := by
  cases a <;> cases b <;> simp only [bothE, tellE, List.length_append, List.length_cons, List.length_nil] <;> omega
theorem len_in (s : ByteArray) {no : Int} (e : Er) (h : i64 no) : (tellE (inE s no e)).length ≤ (tellE e).length + s.size + 30 := by
  have := Lib.itoa_length_le no h.1 h.2
  have hs : s.data.toList.length = s.size := by simp
  cases e <;> simp only [inE, tellE, List.length_append, List.length_cons, List.length_nil] <;> omega
theorem len_step (e : Er) {a : S56} (ha : Fit56 a) : (tellE (stepE e a)).length ≤ (tellE e).length + a.f1.size + 40 := by
  have h0 := len_fresh ha.2.2.1
  have h1 := len_in a.f1 e ha.2.1
  have h2 := len_both e (freshE a.f3)
  have h3 := len_both (freshE a.f3) e
  unfold stepE
  repeat' split
  all_goals omega
theorem len_fold (l : List S56) : (∀ a, a ∈ l → Fit56 a) → ∀ e, (tellE (l.foldl stepE e)).length ≤ (tellE e).length + sumS l + 40 * l.length := by
  induction l with
  | nil => intro _ e; simp [sumS]
  | cons a l ih =>
    intro hl e
    have h1 := ih (fun b hb => hl b (List.mem_cons_of_mem _ hb)) (stepE e a)
    have h2 := len_step e (hl a List.mem_cons_self)
    simp only [List.foldl_cons, List.length_cons, sumS]
    omega
theorem len_made (l : List S56) (hl : ∀ a, a ∈ l → Fit56 a) (hs : sumS (l.take 40) ≤ 2000) : (tellE (madeE (l.take 40))).length ≤ 1000000 := by
  have h1 := len_fold (l.take 40) (fun a ha => hl a (List.mem_of_mem_take ha)) .nil
  have h2 : (tellE Er.nil).length = 2 := rfl
  have h3 : (l.take 40).length ≤ 40 := by rw [List.length_take]; omega
  unfold madeE
  omega
/-! The acts' sizes. -/
theorem weights_all {H : Type} {P : Program} {e : TypeId} {d : DataW H} {n : Nat} (hn : n ∈ d.weights P e) : ∀ {l : List (DataW H)}, d ∈ l → n ∈ DataW.weightsAll P e l
  | x :: l, h => by
    simp only [DataW.weightsAll, List.mem_append]
    rcases List.mem_cons.1 h with rfl | h
    · exact .inl hn
    · exact .inr (weights_all hn h)
section
variable {H : Type} {enc : TypeId × Value → H} {w : World} {base : Nat} {spare : Nat → Bool} {held : Bool}
set_option maxRecDepth 100000 in
theorem read56T {fuel : Nat} {cs : List Value} {x : DataW H × List MemPlace} (h : DataW.trod enc Tryd.prog w base spare held fuel 56 cs = some x) : ∃ v : S56, k56.K w v cs ∧ Fit56 v ∧ v.f1.size ∈ DataW.weights Tryd.prog 56 x.1 := by
  obtain ⟨v, hK, hF⟩ := read56 h
  refine ⟨v, hK, hF, ?_⟩
  obtain rfl := k56_open hK
  obtain ⟨xs, n, rfl, rfl, hl, hlen, hf⟩ := DataW.trod_struct Tryd.underlying56 h
  match xs, hlen with
  | [y0, y1, y2, y3], _ =>
  have h1 := hf 1 _ rfl
  obtain ⟨s, e1, hx, ws⟩ := DataW.trod_string Tryd.underlying9 h1
  injection e1 with e1
  injection e1 with e1
  subst e1
  subst hx
  rw [DataW.weights, Tryd.underlying56]
  refine DataW.weights_mem_each (j := 1) (t := 9) (d := .lit (.string v.f1.data.toList)) rfl rfl _ ?_
  rw [DataW.weights]
  simp
/-- The acts, and their sizes. -/
theorem readActsT {fuel : Nat} {v : Value} {x : DataW H × List MemPlace} (h : DataW.trod enc Tryd.prog w base spare held fuel 22 [v] = some x) : ∃ (l : List S56) (A : Option Addr) (c : Nat), v = .slice A l.length c ∧ l.length ≤ c ∧ Kd.C k56 w A l.length l ∧ ∀ a, a ∈ l → Fit56 a ∧ a.f1.size ∈ DataW.weights Tryd.prog 22 x.1 := by
  rcases DataW.trod_slice Tryd.underlying22 h with ⟨e4, _⟩ | ⟨A, len, cap, elems, rest, m, hm, e4, hx, hb, hlc, hcm, hel, hget, _, _⟩
  · injection e4 with e4
    subst e4
    exact ⟨[], none, 0, rfl, Nat.le_refl _, ⟨rfl, by simp, fun h => by simp at h⟩, fun a h => by simp at h⟩
  · injection e4 with e4
    subst e4
    unfold maxLen at hcm
    have hwt : DataW.weights Tryd.prog 22 x.1 = (((elems.map (·.1)).length + (rest.map (·.1)).length) * Tryd.prog.bytesOf 56 :: (DataW.weightsAll Tryd.prog 56 (elems.map (·.1)) ++ DataW.weightsAll Tryd.prog 56 (rest.map (·.1)))) := by
      rw [hx, DataW.weights, Tryd.underlying22]
    have key : ∀ i, i < len → ∃ (c : List Value) (q : S56), k56.K w q c ∧ (Fit56 q ∧ q.f1.size ∈ DataW.weights Tryd.prog 22 x.1) ∧ w.cells? base (A.add (i * 4)) 4 = some c := by
      intro i hi
      have hg := hget i hi
      rw [cells56, List.getElem?_eq_getElem (by omega)] at hg
      obtain ⟨c, hc, ht⟩ := Option.bind_eq_some_iff.1 hg
      obtain ⟨q, hq, gq, gw⟩ := read56T ht
      refine ⟨c, q, hq, ⟨gq, ?_⟩, hc⟩
      rw [hwt]
      exact List.mem_cons_of_mem _ (List.mem_append_left _ (weights_all gw (List.mem_map.2 ⟨_, List.getElem_mem _, rfl⟩)))
    obtain ⟨L, rfl, hC, hF⟩ := rowRead k56 (fun q => Fit56 q ∧ q.f1.size ∈ DataW.weights Tryd.prog 22 x.1) z56 (A := A) (len := len) (by omega) key
    exact ⟨L, some A, cap, rfl, hlc, hC, hF⟩
end
end Go.Proofs.YtcklemjmenifpaaDoor.Fn
