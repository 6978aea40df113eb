/- expr.Same, by its walk: val.Order, slices.EqualFunc with expr.Same itself as the function that it is handed. -/
import Derived.Test.YtaebjcldopoccaaDoorEsSame
import Derived.Test.YtaebjcldopoccaaDoorEnShelf
import Derived.Handy
set_option linter.unusedVariables false
set_option linter.unusedSimpArgs false
namespace Go.Proofs.YtaebjcldopoccaaDoor.EsSame
open Go.RowKit Go.Shelf Go.Proofs.YtaebjcldopoccaaDoorW.PrintWords Go.Proofs.YtaebjcldopoccaaDoorW.PrintLast Go.Proofs.YtaebjcldopoccaaDoorW.PrintMore Go.Proofs.YtaebjcldopoccaaDoor.Es Go.Proofs.YtaebjcldopoccaaDoor.EsIter Go.Proofs.YtaebjcldopoccaaDoor.EsLaw Go.Proofs.YtaebjcldopoccaaDoor.EsText Go.Proofs.YtaebjcldopoccaaDoor.EsTextC Go.Proofs.YtaebjcldopoccaaDoor.EsRefT Go.Proofs.YtaebjcldopoccaaDoor.EsLawS

theorem compareBytes_zero : ∀ a b : List UInt8, Lib.compareBytes a b = 0 ↔ a = b
  | [], [] => by simp [Lib.compareBytes]
  | [], _ :: _ => by simp [Lib.compareBytes]
  | _ :: _, [] => by simp [Lib.compareBytes]
  | x :: a, y :: b => by
    unfold Lib.compareBytes
    split
    · rename_i h
      have : x ≠ y := by intro e; rw [e] at h; exact absurd h (by simp)
      simp [this]
    · split
      · rename_i h1 h
        have : x ≠ y := by intro e; rw [e] at h; exact absurd h (by simp)
        simp [this]
      · rename_i h1 h2
        have : x = y := UInt8.le_antisymm (UInt8.not_lt.1 h2) (UInt8.not_lt.1 h1)
        rw [compareBytes_zero a b, this]
        simp
theorem order_calls (v u : S32) (w : World) : Calls Tryd.prog 38 #[.agg #[.int .u8 v.f0, .int .i64 v.f1, .string v.f2], .agg #[.int .u8 u.f0, .int .i64 u.f1, .string u.f2]] w fun e w' => (∃ t, e = .returned (.int .i64 t) ∧ (t != 0) = !(sameV v u)) ∧ Below w.heap.size w w' := by
  have HB := Aside0.mk (show Below w.heap.size w ((w.alloc (.cells #[.int .u8 v.f0, .int .i64 v.f1, .string v.f2] 32)).alloc (.cells #[.int .u8 u.f0, .int .i64 u.f1, .string u.f2] 32)) from ((Below.refl _ w).alloc (Nat.le_refl _) _).alloc (by rw [World.size_alloc]; omega) _)
  have HV := Aside0.mk (show ((w.alloc (.cells #[.int .u8 v.f0, .int .i64 v.f1, .string v.f2] 32)).alloc (.cells #[.int .u8 u.f0, .int .i64 u.f1, .string u.f2] 32)).heap[w.heap.size]? = some (.cells #[.int .u8 v.f0, .int .i64 v.f1, .string v.f2] 32 (0, 0)) from by rw [Lib.alloc_old _ _ _ (by rw [World.size_alloc]; omega)]; exact World.alloc_heap_new w _)
  have HU := Aside0.mk (show ((w.alloc (.cells #[.int .u8 v.f0, .int .i64 v.f1, .string v.f2] 32)).alloc (.cells #[.int .u8 u.f0, .int .i64 u.f1, .string u.f2] 32)).heap[w.heap.size + 1]? = some (.cells #[.int .u8 u.f0, .int .i64 u.f1, .string u.f2] 32 (0, 0)) from by have := World.alloc_heap_new (w.alloc (.cells #[.int .u8 v.f0, .int .i64 v.f1, .string v.f2] 32)) (.cells #[.int .u8 u.f0, .int .i64 u.f1, .string u.f2] 32); rw [World.size_alloc] at this; exact this)
  by_cases hv : v.f0 = 0
  · have e0 : (v.f0 == 0) = true := beq_iff_eq.2 hv
    by_cases hu : u.f0 = 0
    · have e1 : (u.f0 == 0) = true := beq_iff_eq.2 hu
      have HV0 := Aside0.mk hv
      have HU0 := Aside0.mk hu
      clear hv hu
      have v0 := (by rw [Lib.cell_of_heap HV.out]; rfl : ((w.alloc (.cells #[.int .u8 v.f0, .int .i64 v.f1, .string v.f2] 32)).alloc (.cells #[.int .u8 u.f0, .int .i64 u.f1, .string u.f2] 32)).cell? ⟨w.heap.size, 0, none⟩ = some (.int .u8 v.f0))
      have u0 := (by rw [Lib.cell_of_heap HU.out]; rfl : ((w.alloc (.cells #[.int .u8 v.f0, .int .i64 v.f1, .string v.f2] 32)).alloc (.cells #[.int .u8 u.f0, .int .i64 u.f1, .string u.f2] 32)).cell? ⟨w.heap.size + 1, 0, none⟩ = some (.int .u8 u.f0))
      go_enter Tryd.func38, Tryd.ntmps38
      go_wp2
      go_cut [5, 6] (fun v5 v6 wc => v5 = .bool true ∧ v6 = .bool true ∧ Aside0 (Below w.heap.size w wc) ∧ Aside0 (wc.heap[w.heap.size]? = some (.cells #[.int .u8 v.f0, .int .i64 v.f1, .string v.f2] 32 (0, 0))) ∧ Aside0 (wc.heap[w.heap.size + 1]? = some (.cells #[.int .u8 u.f0, .int .i64 u.f1, .string u.f2] 32 (0, 0))))
      case first =>
        go_region
        all_goals (try go_wp2)
        all_goals go_meet
        all_goals exact ⟨rfl, rfl, ⟨by first | exact HB.out | exact pw_below_drewN HB.out 1 | exact pw_below_drewN HB.out 2⟩, HV, HU⟩
      case rest =>
        clear HB HV HU v0 u0
        obtain ⟨rfl, rfl, HB, HV, HU⟩ := hcut
        have v1 := (by rw [Lib.cell_of_heap HV.out]; rfl : wc.cell? ⟨w.heap.size, 1, none⟩ = some (.int .i64 v.f1))
        have u1 := (by rw [Lib.cell_of_heap HU.out]; rfl : wc.cell? ⟨w.heap.size + 1, 1, none⟩ = some (.int .i64 u.f1))
        have v2 := (by rw [Lib.cell_of_heap HV.out]; rfl : wc.cell? ⟨w.heap.size, 2, none⟩ = some (.string v.f2))
        have u2 := (by rw [Lib.cell_of_heap HU.out]; rfl : wc.cell? ⟨w.heap.size + 1, 2, none⟩ = some (.string u.f2))
        go_wp2_with (go_at_call 46; refine (Tryd.cmp_Compare_int _ _ _).mono ?_; rintro e w1 ⟨rfl, rfl⟩)
        go_ret
        have hv := HV0.out
        have hu := HU0.out
        refine ⟨⟨Lib.compareInt v.f1 u.f1, rfl, ?_⟩, HB.out⟩
        rw [sameV_num hv hu]
        unfold Lib.compareInt
        by_cases h1 : v.f1 < u.f1
        · rw [if_pos h1, decide_eq_false (by omega)]; rfl
        · rw [if_neg h1]
          by_cases h2 : v.f1 > u.f1
          · rw [if_pos h2, decide_eq_false (by omega)]; rfl
          · rw [if_neg h2, decide_eq_true (by omega)]; rfl
    · have e1 : (u.f0 == 0) = false := beq_eq_false_iff_ne.2 hu
      have HV0 := Aside0.mk hv
      have HU0 := Aside0.mk hu
      clear hv hu
      have v0 := (by rw [Lib.cell_of_heap HV.out]; rfl : ((w.alloc (.cells #[.int .u8 v.f0, .int .i64 v.f1, .string v.f2] 32)).alloc (.cells #[.int .u8 u.f0, .int .i64 u.f1, .string u.f2] 32)).cell? ⟨w.heap.size, 0, none⟩ = some (.int .u8 v.f0))
      have u0 := (by rw [Lib.cell_of_heap HU.out]; rfl : ((w.alloc (.cells #[.int .u8 v.f0, .int .i64 v.f1, .string v.f2] 32)).alloc (.cells #[.int .u8 u.f0, .int .i64 u.f1, .string u.f2] 32)).cell? ⟨w.heap.size + 1, 0, none⟩ = some (.int .u8 u.f0))
      go_enter Tryd.func38, Tryd.ntmps38
      go_wp2
      go_cut [5, 6] (fun v5 v6 wc => v5 = .bool true ∧ v6 = .bool false ∧ Aside0 (Below w.heap.size w wc) ∧ Aside0 (wc.heap[w.heap.size]? = some (.cells #[.int .u8 v.f0, .int .i64 v.f1, .string v.f2] 32 (0, 0))) ∧ Aside0 (wc.heap[w.heap.size + 1]? = some (.cells #[.int .u8 u.f0, .int .i64 u.f1, .string u.f2] 32 (0, 0))))
      case first =>
        go_region
        all_goals (try go_wp2)
        all_goals go_meet
        all_goals exact ⟨rfl, rfl, ⟨by first | exact HB.out | exact pw_below_drewN HB.out 1 | exact pw_below_drewN HB.out 2⟩, HV, HU⟩
      case rest =>
        clear HB HV HU v0 u0
        obtain ⟨rfl, rfl, HB, HV, HU⟩ := hcut
        have v1 := (by rw [Lib.cell_of_heap HV.out]; rfl : wc.cell? ⟨w.heap.size, 1, none⟩ = some (.int .i64 v.f1))
        have u1 := (by rw [Lib.cell_of_heap HU.out]; rfl : wc.cell? ⟨w.heap.size + 1, 1, none⟩ = some (.int .i64 u.f1))
        have v2 := (by rw [Lib.cell_of_heap HV.out]; rfl : wc.cell? ⟨w.heap.size, 2, none⟩ = some (.string v.f2))
        have u2 := (by rw [Lib.cell_of_heap HU.out]; rfl : wc.cell? ⟨w.heap.size + 1, 2, none⟩ = some (.string u.f2))
        go_wp2
        go_ret
        have hv := HV0.out
        have hu := HU0.out
        exact ⟨⟨-1, rfl, by rw [sameV_l hv hu]; rfl⟩, HB.out⟩
  · have e0 : (v.f0 == 0) = false := beq_eq_false_iff_ne.2 hv
    by_cases hu : u.f0 = 0
    · have e1 : (u.f0 == 0) = true := beq_iff_eq.2 hu
      have HV0 := Aside0.mk hv
      have HU0 := Aside0.mk hu
      clear hv hu
      have v0 := (by rw [Lib.cell_of_heap HV.out]; rfl : ((w.alloc (.cells #[.int .u8 v.f0, .int .i64 v.f1, .string v.f2] 32)).alloc (.cells #[.int .u8 u.f0, .int .i64 u.f1, .string u.f2] 32)).cell? ⟨w.heap.size, 0, none⟩ = some (.int .u8 v.f0))
      have u0 := (by rw [Lib.cell_of_heap HU.out]; rfl : ((w.alloc (.cells #[.int .u8 v.f0, .int .i64 v.f1, .string v.f2] 32)).alloc (.cells #[.int .u8 u.f0, .int .i64 u.f1, .string u.f2] 32)).cell? ⟨w.heap.size + 1, 0, none⟩ = some (.int .u8 u.f0))
      go_enter Tryd.func38, Tryd.ntmps38
      go_wp2
      go_cut [5, 6] (fun v5 v6 wc => v5 = .bool false ∧ v6 = .bool true ∧ Aside0 (Below w.heap.size w wc) ∧ Aside0 (wc.heap[w.heap.size]? = some (.cells #[.int .u8 v.f0, .int .i64 v.f1, .string v.f2] 32 (0, 0))) ∧ Aside0 (wc.heap[w.heap.size + 1]? = some (.cells #[.int .u8 u.f0, .int .i64 u.f1, .string u.f2] 32 (0, 0))))
      case first =>
        go_region
        all_goals (try go_wp2)
        all_goals go_meet
        all_goals exact ⟨rfl, rfl, ⟨by first | exact HB.out | exact pw_below_drewN HB.out 1 | exact pw_below_drewN HB.out 2⟩, HV, HU⟩
      case rest =>
        clear HB HV HU v0 u0
        obtain ⟨rfl, rfl, HB, HV, HU⟩ := hcut
        have v1 := (by rw [Lib.cell_of_heap HV.out]; rfl : wc.cell? ⟨w.heap.size, 1, none⟩ = some (.int .i64 v.f1))
        have u1 := (by rw [Lib.cell_of_heap HU.out]; rfl : wc.cell? ⟨w.heap.size + 1, 1, none⟩ = some (.int .i64 u.f1))
        have v2 := (by rw [Lib.cell_of_heap HV.out]; rfl : wc.cell? ⟨w.heap.size, 2, none⟩ = some (.string v.f2))
        have u2 := (by rw [Lib.cell_of_heap HU.out]; rfl : wc.cell? ⟨w.heap.size + 1, 2, none⟩ = some (.string u.f2))
        go_wp2
        go_ret
        have hv := HV0.out
        have hu := HU0.out
        exact ⟨⟨1, rfl, by rw [sameV_r hv hu]; rfl⟩, HB.out⟩
    · have e1 : (u.f0 == 0) = false := beq_eq_false_iff_ne.2 hu
      have HV0 := Aside0.mk hv
      have HU0 := Aside0.mk hu
      clear hv hu
      have v0 := (by rw [Lib.cell_of_heap HV.out]; rfl : ((w.alloc (.cells #[.int .u8 v.f0, .int .i64 v.f1, .string v.f2] 32)).alloc (.cells #[.int .u8 u.f0, .int .i64 u.f1, .string u.f2] 32)).cell? ⟨w.heap.size, 0, none⟩ = some (.int .u8 v.f0))
      have u0 := (by rw [Lib.cell_of_heap HU.out]; rfl : ((w.alloc (.cells #[.int .u8 v.f0, .int .i64 v.f1, .string v.f2] 32)).alloc (.cells #[.int .u8 u.f0, .int .i64 u.f1, .string u.f2] 32)).cell? ⟨w.heap.size + 1, 0, none⟩ = some (.int .u8 u.f0))
      go_enter Tryd.func38, Tryd.ntmps38
      go_wp2
      go_cut [5, 6] (fun v5 v6 wc => v5 = .bool false ∧ v6 = .bool false ∧ Aside0 (Below w.heap.size w wc) ∧ Aside0 (wc.heap[w.heap.size]? = some (.cells #[.int .u8 v.f0, .int .i64 v.f1, .string v.f2] 32 (0, 0))) ∧ Aside0 (wc.heap[w.heap.size + 1]? = some (.cells #[.int .u8 u.f0, .int .i64 u.f1, .string u.f2] 32 (0, 0))))
      case first =>
        go_region
        all_goals (try go_wp2)
        all_goals go_meet
        all_goals exact ⟨rfl, rfl, ⟨by first | exact HB.out | exact pw_below_drewN HB.out 1 | exact pw_below_drewN HB.out 2⟩, HV, HU⟩
      case rest =>
        clear HB HV HU v0 u0
        obtain ⟨rfl, rfl, HB, HV, HU⟩ := hcut
        have v1 := (by rw [Lib.cell_of_heap HV.out]; rfl : wc.cell? ⟨w.heap.size, 1, none⟩ = some (.int .i64 v.f1))
        have u1 := (by rw [Lib.cell_of_heap HU.out]; rfl : wc.cell? ⟨w.heap.size + 1, 1, none⟩ = some (.int .i64 u.f1))
        have v2 := (by rw [Lib.cell_of_heap HV.out]; rfl : wc.cell? ⟨w.heap.size, 2, none⟩ = some (.string v.f2))
        have u2 := (by rw [Lib.cell_of_heap HU.out]; rfl : wc.cell? ⟨w.heap.size + 1, 2, none⟩ = some (.string u.f2))
        go_wp2_with (go_at_call 47; refine (Tryd.strings_Compare _ _ _).mono ?_; rintro e w1 ⟨rfl, rfl⟩)
        go_ret
        have hv := HV0.out
        have hu := HU0.out
        refine ⟨⟨Lib.compareBytes v.f2.data.toList u.f2.data.toList, rfl, ?_⟩, HB.out⟩
        rw [sameV_str hv hu]
        by_cases h : v.f2 = u.f2
        · rw [decide_eq_true h, (compareBytes_zero _ _).2 (by rw [h])]
          rfl
        · rw [decide_eq_false h]
          have : Lib.compareBytes v.f2.data.toList u.f2.data.toList ≠ 0 := by
            intro e
            apply h
            apply ByteArray.ext
            exact Array.toList_inj.1 ((compareBytes_zero _ _).1 e)
          simpa using this
theorem sames_snoc : ∀ {l m : List S35} {k : Nat}, samesS (l.take k) (m.take k) = true → ∀ (h1 : k < l.length) (h2 : k < m.length), sameS l[k] m[k] = true → samesS (l.take (k + 1)) (m.take (k + 1)) = true
  | a :: t, b :: s, 0, _, _, _, h => by simpa [samesS] using h
  | a :: t, b :: s, k + 1, h0, h1, h2, h => by
    simp only [List.take_succ_cons, samesS, Bool.and_eq_true] at h0 ⊢
    exact ⟨h0.1, sames_snoc h0.2 (by simpa using h1) (by simpa using h2) (by simpa using h)⟩
theorem sames_stop : ∀ {l m : List S35} {k : Nat} (h1 : k < l.length) (h2 : k < m.length), sameS l[k] m[k] = false → samesS l m = false
  | a :: t, b :: s, 0, _, _, h => by
    simp only [samesS, show sameS a b = false by simpa using h, Bool.false_and]
  | a :: t, b :: s, k + 1, h1, h2, h => by
    simp only [samesS, sames_stop (l := t) (m := s) (k := k) (by simpa using h1) (by simpa using h2) (by simpa using h), Bool.and_false]
/-- slices.EqualFunc, with expr.Same as its function: where that one answers what is said. -/
theorem equal_calls (l m : List S35) (A B : Option Addr) (c d : Nat) (w : World) (hA : Kd.C k35 w A l.length l) (hB : Kd.C k35 w B m.length m) (hc : l.length ≤ c) (hd : m.length ≤ d)
    (hcall : ∀ a, a ∈ l → ∀ b, b ∈ m → ∀ (A' B' : Option Addr) (c' d' : Nat) (W : World), Kd.C k35 W A' a.f2.length a.f2 → Kd.C k35 W B' b.f2.length b.f2 → a.f2.length ≤ c' → b.f2.length ≤ d' →
      Calls Tryd.prog 18 #[.agg #[.int .i64 a.f0, .int .u8 a.f1.f0, .int .i64 a.f1.f1, .string a.f1.f2, .slice A' a.f2.length c'], .agg #[.int .i64 b.f0, .int .u8 b.f1.f0, .int .i64 b.f1.f1, .string b.f1.f2, .slice B' b.f2.length d']] W fun e W' => e = .returned (.bool (sameS a b)) ∧ Below W.heap.size W W') :
    Calls Tryd.prog 39 #[.slice A l.length c, .slice B m.length d, .func (.func 18) #[] #[]] w fun e w' => e = .returned (.bool (samesS l m)) ∧ Below w.heap.size w w' := by
  have HB := Aside0.mk (Below.refl w.heap.size w)
  by_cases hlen : l.length = m.length
  · have e0 : ((l.length : Int) != (m.length : Int)) = false := bne_eq_false_iff_eq.2 (by omega)
    have HA := Aside0.mk hA
    have HBB := Aside0.mk hB
    have HLEN := Aside0.mk hlen
    have HCALL := Aside0.mk hcall
    have hl64 := hA.2.1
    clear hA hB hlen hcall
    go_enter Tryd.func39, Tryd.ntmps39
    go_wp2
    have HS := Aside0.mk (show samesS (l.take 0) (m.take 0) = true from rfl)
    go_loopw [17] (fun i wr => ∃ k : Nat, k ≤ l.length ∧ i = .int .i64 k ∧ Aside0 (samesS (l.take k) (m.take k) = true) ∧ Below w.heap.size w wr)
      (fun i _ => l.length - (intOf i).toNat)
    case atStart => exact ⟨0, Nat.zero_le _, rfl, HS, HB.out⟩
    case round =>
      clear HB HS
      obtain ⟨k, hk, rfl, HS, hb⟩ := hrel
      have HB := Aside0.mk hb
      clear hb
      by_cases hlt : k < l.length
      · have hlt2 : k < m.length := by have := HLEN.out; omega
        obtain ⟨ad, A4, c4, hAd, g0, g1, g2, g3, g4, hl4, hC4⟩ := at_T35 HA.out (k : Int) (by omega) (by omega)
        obtain ⟨bd, B4, d4, hBd, k0, k1, k2, k3, k4, hm4, hD4⟩ := at_T35 HBB.out (k : Int) (by omega) (by omega)
        have hrd : rd_T35 l (k : Int) = l[k] := by
          unfold rd_T35
          rw [Int.toNat_natCast, List.getD_eq_getElem?_getD, List.getElem?_eq_getElem hlt]
          rfl
        have hrd2 : rd_T35 m (k : Int) = m[k] := by
          unfold rd_T35
          rw [Int.toNat_natCast, List.getD_eq_getElem?_getD, List.getElem?_eq_getElem hlt2]
          rfl
        have hmem : l[k] ∈ l := List.getElem_mem hlt
        have hmem2 : m[k] ∈ m := List.getElem_mem hlt2
        have hsn := sames_snoc (l := l) (m := m) HS.out hlt hlt2
        have hst := sames_stop (l := l) (m := m) (k := k) hlt hlt2
        rw [hrd] at g0 g1 g2 g3 g4 hl4 hC4
        rw [hrd2] at k0 k1 k2 k3 k4 hm4 hD4
        simp only [Int.toNat_natCast] at g0 g1 g2 g3 g4 k0 k1 k2 k3 k4
        clear hrd hrd2
        generalize l[k] = a at *
        generalize m[k] = b at *
        have hb3 := HB.out
        replace g0 := (hb3.cell (World.block_lt_of_cell? w _ g0)).trans g0
        replace g1 := (hb3.cell (World.block_lt_of_cell? w _ g1)).trans g1
        replace g2 := (hb3.cell (World.block_lt_of_cell? w _ g2)).trans g2
        replace g3 := (hb3.cell (World.block_lt_of_cell? w _ g3)).trans g3
        replace g4 := (hb3.cell (World.block_lt_of_cell? w _ g4)).trans g4
        replace k0 := (hb3.cell (World.block_lt_of_cell? w _ k0)).trans k0
        replace k1 := (hb3.cell (World.block_lt_of_cell? w _ k1)).trans k1
        replace k2 := (hb3.cell (World.block_lt_of_cell? w _ k2)).trans k2
        replace k3 := (hb3.cell (World.block_lt_of_cell? w _ k3)).trans k3
        replace k4 := (hb3.cell (World.block_lt_of_cell? w _ k4)).trans k4
        replace k0 := (((Below.refl wr.heap.size wr).alloc (Nat.le_refl _) (.cells #[.int .i64 a.f0, .int .u8 a.f1.f0, .int .i64 a.f1.f1, .string a.f1.f2, .slice A4 a.f2.length c4] 35)).cell (World.block_lt_of_cell? wr _ k0)).trans k0
        replace k1 := (((Below.refl wr.heap.size wr).alloc (Nat.le_refl _) (.cells #[.int .i64 a.f0, .int .u8 a.f1.f0, .int .i64 a.f1.f1, .string a.f1.f2, .slice A4 a.f2.length c4] 35)).cell (World.block_lt_of_cell? wr _ k1)).trans k1
        replace k2 := (((Below.refl wr.heap.size wr).alloc (Nat.le_refl _) (.cells #[.int .i64 a.f0, .int .u8 a.f1.f0, .int .i64 a.f1.f1, .string a.f1.f2, .slice A4 a.f2.length c4] 35)).cell (World.block_lt_of_cell? wr _ k2)).trans k2
        replace k3 := (((Below.refl wr.heap.size wr).alloc (Nat.le_refl _) (.cells #[.int .i64 a.f0, .int .u8 a.f1.f0, .int .i64 a.f1.f1, .string a.f1.f2, .slice A4 a.f2.length c4] 35)).cell (World.block_lt_of_cell? wr _ k3)).trans k3
        replace k4 := (((Below.refl wr.heap.size wr).alloc (Nat.le_refl _) (.cells #[.int .i64 a.f0, .int .u8 a.f1.f0, .int .i64 a.f1.f1, .string a.f1.f2, .slice A4 a.f2.length c4] 35)).cell (World.block_lt_of_cell? wr _ k4)).trans k4
        subst hAd
        subst hBd
        have HC1 := Aside0.mk (fun (W : World) (hW : Below w.heap.size w W) => HCALL.out a hmem b hmem2 A4 B4 c4 d4 W (Kd.C_below hC4 hW) (Kd.C_below hD4 hW) hl4 hm4)
        have hba : Below w.heap.size w ((wr.alloc (.cells #[.int .i64 a.f0, .int .u8 a.f1.f0, .int .i64 a.f1.f1, .string a.f1.f2, .slice A4 a.f2.length c4] 35)).alloc (.cells #[.int .i64 b.f0, .int .u8 b.f1.f0, .int .i64 b.f1.f1, .string b.f1.f2, .slice B4 b.f2.length d4] 35)) := (hb3.alloc hb3.size _).alloc (by rw [World.size_alloc]; have := hb3.size; omega) _
        have HBA := Aside0.mk hba
        have HSN := Aside0.mk hsn
        have HST := Aside0.mk hst
        have HLT := Aside0.mk hlt
        clear hb3 hsn hst hl4 hC4 hm4 hD4 hba
        cases hab : sameS a b
        · rw [hab] at HC1
          have HAB := Aside0.mk hab
          clear hab
          go_wp2_with (first | (go_at_call 18; refine (HC1.out _ (by first | exact HBA.out | exact pw_below_drewN HBA.out 1)).mono ?_; rintro e w1 ⟨rfl, hb⟩; have HB1 : Aside0 (Below w.heap.size w w1) := ⟨by first | exact HBA.out.trans (hb.mono HBA.out.size) | exact (pw_below_drewN HBA.out 1).trans (hb.mono HBA.out.size)⟩; clear hb))
          go_ret
          exact ⟨by rw [HST.out HAB.out]; rfl, HB1.out⟩
        · rw [hab] at HC1
          have HAB := Aside0.mk hab
          clear hab
          go_wp2_with (first | (go_at_call 18; refine (HC1.out _ (by first | exact HBA.out | exact pw_below_drewN HBA.out 1)).mono ?_; rintro e w1 ⟨rfl, hb⟩; have HB1 : Aside0 (Below w.heap.size w w1) := ⟨by first | exact HBA.out.trans (hb.mono HBA.out.size) | exact (pw_below_drewN HBA.out 1).trans (hb.mono HBA.out.size)⟩; clear hb))
          go_roundw
          case rel => exact ⟨k + 1, HLT.out, by first | rfl | (push_cast; rfl) | rw [wrap_nat (by have := HLT.out; omega)], ⟨HSN.out HAB.out⟩, HB1.out⟩
          case measure => have := HLT.out; first | (simp [intOf]; omega) | (rw [wrap_nat (by omega)]; simp [intOf]; omega)
      · obtain rfl : k = l.length := by omega
        have hfin : samesS l m = true := by
          have h1 := HS.out
          rw [List.take_length, HLEN.out, List.take_length] at h1
          exact h1
        have HF := Aside0.mk hfin
        clear hfin
        go_wp2
        go_ret
        exact ⟨by rw [HF.out]; rfl, HB.out⟩
  · have e0 : ((l.length : Int) != (m.length : Int)) = true := bne_iff_ne.2 (by omega)
    have HN := Aside0.mk (samesS_ne hlen)
    clear hlen
    go_enter Tryd.func39, Tryd.ntmps39
    go_wp2
    go_ret
    exact ⟨by rw [HN.out]; rfl, HB.out⟩
/-- expr.Same, at any two expressions. -/
theorem same_calls (x : S35) : ∀ (y : S35) (A B : Option Addr) (c d : Nat) (w : World), Kd.C k35 w A x.f2.length x.f2 → Kd.C k35 w B y.f2.length y.f2 → x.f2.length ≤ c → y.f2.length ≤ d →
    Calls Tryd.prog 18 #[.agg #[.int .i64 x.f0, .int .u8 x.f1.f0, .int .i64 x.f1.f1, .string x.f1.f2, .slice A x.f2.length c], .agg #[.int .i64 y.f0, .int .u8 y.f1.f0, .int .i64 y.f1.f1, .string y.f1.f2, .slice B y.f2.length d]] w fun e w' => e = .returned (.bool (sameS x y)) ∧ Below w.heap.size w w' := by
  induction x using tree_ind with
  | h o v l ih =>
  intro y A B c d w hA hB hc hd
  obtain ⟨p, u, m⟩ := y
  dsimp only at hA hB hc hd ⊢
  have HB := Aside0.mk (show Below w.heap.size w ((w.alloc (.cells #[.int .i64 o, .int .u8 v.f0, .int .i64 v.f1, .string v.f2, .slice A l.length c] 35)).alloc (.cells #[.int .i64 p, .int .u8 u.f0, .int .i64 u.f1, .string u.f2, .slice B m.length d] 35)) from ((Below.refl _ w).alloc (Nat.le_refl _) _).alloc (by rw [World.size_alloc]; omega) _)
  have HX := Aside0.mk (show ((w.alloc (.cells #[.int .i64 o, .int .u8 v.f0, .int .i64 v.f1, .string v.f2, .slice A l.length c] 35)).alloc (.cells #[.int .i64 p, .int .u8 u.f0, .int .i64 u.f1, .string u.f2, .slice B m.length d] 35)).heap[w.heap.size]? = some (.cells #[.int .i64 o, .int .u8 v.f0, .int .i64 v.f1, .string v.f2, .slice A l.length c] 35 (0, 0)) from by rw [Lib.alloc_old _ _ _ (by rw [World.size_alloc]; omega)]; exact World.alloc_heap_new w _)
  have HY := Aside0.mk (show ((w.alloc (.cells #[.int .i64 o, .int .u8 v.f0, .int .i64 v.f1, .string v.f2, .slice A l.length c] 35)).alloc (.cells #[.int .i64 p, .int .u8 u.f0, .int .i64 u.f1, .string u.f2, .slice B m.length d] 35)).heap[w.heap.size + 1]? = some (.cells #[.int .i64 p, .int .u8 u.f0, .int .i64 u.f1, .string u.f2, .slice B m.length d] 35 (0, 0)) from by have := World.alloc_heap_new (w.alloc (.cells #[.int .i64 o, .int .u8 v.f0, .int .i64 v.f1, .string v.f2, .slice A l.length c] 35)) (.cells #[.int .i64 p, .int .u8 u.f0, .int .i64 u.f1, .string u.f2, .slice B m.length d] 35); rw [World.size_alloc] at this; exact this)
  have HA := Aside0.mk hA
  have HBB := Aside0.mk hB
  have HC := Aside0.mk hc
  have HD := Aside0.mk hd
  have HI := Aside0.mk ih
  clear hA hB hc hd ih
  have x0 := (by rw [Lib.cell_of_heap HX.out]; rfl : ((w.alloc (.cells #[.int .i64 o, .int .u8 v.f0, .int .i64 v.f1, .string v.f2, .slice A l.length c] 35)).alloc (.cells #[.int .i64 p, .int .u8 u.f0, .int .i64 u.f1, .string u.f2, .slice B m.length d] 35)).cell? ⟨w.heap.size, 0, none⟩ = some (.int .i64 o))
  have y0 := (by rw [Lib.cell_of_heap HY.out]; rfl : ((w.alloc (.cells #[.int .i64 o, .int .u8 v.f0, .int .i64 v.f1, .string v.f2, .slice A l.length c] 35)).alloc (.cells #[.int .i64 p, .int .u8 u.f0, .int .i64 u.f1, .string u.f2, .slice B m.length d] 35)).cell? ⟨w.heap.size + 1, 0, none⟩ = some (.int .i64 p))
  by_cases h0 : o = p
  · have e0 : (o != p) = false := bne_eq_false_iff_eq.2 h0
    have H0 := Aside0.mk h0
    clear h0
    have HEQ := Aside0.mk (fun (W : World) (hW : Below w.heap.size w W) => equal_calls l m A B c d W (Kd.C_below HA.out hW) (Kd.C_below HBB.out hW) HC.out HD.out (fun a ha b hb => HI.out a ha b))
    by_cases h1 : o = 0
    · have e1 : (o == 0) = true := beq_iff_eq.2 h1
      have H1 := Aside0.mk h1
      clear h1
      have x1 := (by rw [Lib.cell_of_heap HX.out]; rfl : ((w.alloc (.cells #[.int .i64 o, .int .u8 v.f0, .int .i64 v.f1, .string v.f2, .slice A l.length c] 35)).alloc (.cells #[.int .i64 p, .int .u8 u.f0, .int .i64 u.f1, .string u.f2, .slice B m.length d] 35)).cell? ⟨w.heap.size, 1, none⟩ = some (.int .u8 v.f0))
      have y1 := (by rw [Lib.cell_of_heap HY.out]; rfl : ((w.alloc (.cells #[.int .i64 o, .int .u8 v.f0, .int .i64 v.f1, .string v.f2, .slice A l.length c] 35)).alloc (.cells #[.int .i64 p, .int .u8 u.f0, .int .i64 u.f1, .string u.f2, .slice B m.length d] 35)).cell? ⟨w.heap.size + 1, 1, none⟩ = some (.int .u8 u.f0))
      have x2 := (by rw [Lib.cell_of_heap HX.out]; rfl : ((w.alloc (.cells #[.int .i64 o, .int .u8 v.f0, .int .i64 v.f1, .string v.f2, .slice A l.length c] 35)).alloc (.cells #[.int .i64 p, .int .u8 u.f0, .int .i64 u.f1, .string u.f2, .slice B m.length d] 35)).cell? ⟨w.heap.size, 2, none⟩ = some (.int .i64 v.f1))
      have y2 := (by rw [Lib.cell_of_heap HY.out]; rfl : ((w.alloc (.cells #[.int .i64 o, .int .u8 v.f0, .int .i64 v.f1, .string v.f2, .slice A l.length c] 35)).alloc (.cells #[.int .i64 p, .int .u8 u.f0, .int .i64 u.f1, .string u.f2, .slice B m.length d] 35)).cell? ⟨w.heap.size + 1, 2, none⟩ = some (.int .i64 u.f1))
      have x3 := (by rw [Lib.cell_of_heap HX.out]; rfl : ((w.alloc (.cells #[.int .i64 o, .int .u8 v.f0, .int .i64 v.f1, .string v.f2, .slice A l.length c] 35)).alloc (.cells #[.int .i64 p, .int .u8 u.f0, .int .i64 u.f1, .string u.f2, .slice B m.length d] 35)).cell? ⟨w.heap.size, 3, none⟩ = some (.string v.f2))
      have y3 := (by rw [Lib.cell_of_heap HY.out]; rfl : ((w.alloc (.cells #[.int .i64 o, .int .u8 v.f0, .int .i64 v.f1, .string v.f2, .slice A l.length c] 35)).alloc (.cells #[.int .i64 p, .int .u8 u.f0, .int .i64 u.f1, .string u.f2, .slice B m.length d] 35)).cell? ⟨w.heap.size + 1, 3, none⟩ = some (.string u.f2))
      have x4 := (by rw [Lib.cell_of_heap HX.out]; rfl : ((w.alloc (.cells #[.int .i64 o, .int .u8 v.f0, .int .i64 v.f1, .string v.f2, .slice A l.length c] 35)).alloc (.cells #[.int .i64 p, .int .u8 u.f0, .int .i64 u.f1, .string u.f2, .slice B m.length d] 35)).cell? ⟨w.heap.size, 4, none⟩ = some (.slice A l.length c))
      have y4 := (by rw [Lib.cell_of_heap HY.out]; rfl : ((w.alloc (.cells #[.int .i64 o, .int .u8 v.f0, .int .i64 v.f1, .string v.f2, .slice A l.length c] 35)).alloc (.cells #[.int .i64 p, .int .u8 u.f0, .int .i64 u.f1, .string u.f2, .slice B m.length d] 35)).cell? ⟨w.heap.size + 1, 4, none⟩ = some (.slice B m.length d))
      cases hv : sameV v u
      · have HV := Aside0.mk hv
        clear hv
        go_enter Tryd.func18, Tryd.ntmps18
        go_wp2_with (go_at_call 38; refine (order_calls v u _).mono ?_; rintro e w1 ⟨⟨t, rfl, ht⟩, hb⟩; have et : (t != 0) = true := (by rw [ht, HV.out]; rfl); (have HB1 : Aside0 (Below w.heap.size w w1) := ⟨HB.out.trans (hb.mono HB.out.size)⟩); clear ht hb)
        go_ret
        refine ⟨?_, HB1.out⟩
        have es : sameS ⟨o, v, l⟩ ⟨p, u, m⟩ = false := by simp only [sameS]; rw [if_pos H1.out, HV.out, Bool.false_and, Bool.and_false]
        rw [es]
        rfl
      · have HV := Aside0.mk hv
        clear hv
        go_enter Tryd.func18, Tryd.ntmps18
        go_wp2_with (first | (go_at_call 38; refine (order_calls v u _).mono ?_; rintro e w1 ⟨⟨t, rfl, ht⟩, hb⟩; have et : (t != 0) = false := (by rw [ht, HV.out]; rfl); (have HB1 : Aside0 (Below w.heap.size w w1) := ⟨HB.out.trans (hb.mono HB.out.size)⟩); (have HX1 := Aside0.mk ((hb.block _ (Array.getElem?_eq_some_iff.1 HX.out).1).trans HX.out)); (have HY1 := Aside0.mk ((hb.block _ (Array.getElem?_eq_some_iff.1 HY.out).1).trans HY.out)); (have x4 := (by rw [Lib.cell_of_heap HX1.out]; rfl : w1.cell? ⟨w.heap.size, 4, none⟩ = some (.slice A l.length c))); (have y4 := (by rw [Lib.cell_of_heap HY1.out]; rfl : w1.cell? ⟨w.heap.size + 1, 4, none⟩ = some (.slice B m.length d))); clear ht hb) | (go_at_call 39; refine (HEQ.out _ HB1.out).mono ?_; rintro e w2 ⟨rfl, hb⟩; (have HB2 : Aside0 (Below w.heap.size w w2) := ⟨HB1.out.trans (hb.mono HB1.out.size)⟩); clear hb))
        go_ret
        refine ⟨?_, HB2.out⟩
        have es : sameS ⟨o, v, l⟩ ⟨p, u, m⟩ = samesS l m := by simp only [sameS]; rw [if_pos H1.out, HV.out, decide_eq_true H0.out, Bool.true_and, Bool.true_and]
        rw [es]
        rfl
    · have e1 : (o == 0) = false := beq_eq_false_iff_ne.2 h1
      have H1 := Aside0.mk h1
      clear h1
      have x1 := (by rw [Lib.cell_of_heap HX.out]; rfl : ((w.alloc (.cells #[.int .i64 o, .int .u8 v.f0, .int .i64 v.f1, .string v.f2, .slice A l.length c] 35)).alloc (.cells #[.int .i64 p, .int .u8 u.f0, .int .i64 u.f1, .string u.f2, .slice B m.length d] 35)).cell? ⟨w.heap.size, 1, none⟩ = some (.int .u8 v.f0))
      have y1 := (by rw [Lib.cell_of_heap HY.out]; rfl : ((w.alloc (.cells #[.int .i64 o, .int .u8 v.f0, .int .i64 v.f1, .string v.f2, .slice A l.length c] 35)).alloc (.cells #[.int .i64 p, .int .u8 u.f0, .int .i64 u.f1, .string u.f2, .slice B m.length d] 35)).cell? ⟨w.heap.size + 1, 1, none⟩ = some (.int .u8 u.f0))
      have x2 := (by rw [Lib.cell_of_heap HX.out]; rfl : ((w.alloc (.cells #[.int .i64 o, .int .u8 v.f0, .int .i64 v.f1, .string v.f2, .slice A l.length c] 35)).alloc (.cells #[.int .i64 p, .int .u8 u.f0, .int .i64 u.f1, .string u.f2, .slice B m.length d] 35)).cell? ⟨w.heap.size, 2, none⟩ = some (.int .i64 v.f1))
      have y2 := (by rw [Lib.cell_of_heap HY.out]; rfl : ((w.alloc (.cells #[.int .i64 o, .int .u8 v.f0, .int .i64 v.f1, .string v.f2, .slice A l.length c] 35)).alloc (.cells #[.int .i64 p, .int .u8 u.f0, .int .i64 u.f1, .string u.f2, .slice B m.length d] 35)).cell? ⟨w.heap.size + 1, 2, none⟩ = some (.int .i64 u.f1))
      have x3 := (by rw [Lib.cell_of_heap HX.out]; rfl : ((w.alloc (.cells #[.int .i64 o, .int .u8 v.f0, .int .i64 v.f1, .string v.f2, .slice A l.length c] 35)).alloc (.cells #[.int .i64 p, .int .u8 u.f0, .int .i64 u.f1, .string u.f2, .slice B m.length d] 35)).cell? ⟨w.heap.size, 3, none⟩ = some (.string v.f2))
      have y3 := (by rw [Lib.cell_of_heap HY.out]; rfl : ((w.alloc (.cells #[.int .i64 o, .int .u8 v.f0, .int .i64 v.f1, .string v.f2, .slice A l.length c] 35)).alloc (.cells #[.int .i64 p, .int .u8 u.f0, .int .i64 u.f1, .string u.f2, .slice B m.length d] 35)).cell? ⟨w.heap.size + 1, 3, none⟩ = some (.string u.f2))
      have x4 := (by rw [Lib.cell_of_heap HX.out]; rfl : ((w.alloc (.cells #[.int .i64 o, .int .u8 v.f0, .int .i64 v.f1, .string v.f2, .slice A l.length c] 35)).alloc (.cells #[.int .i64 p, .int .u8 u.f0, .int .i64 u.f1, .string u.f2, .slice B m.length d] 35)).cell? ⟨w.heap.size, 4, none⟩ = some (.slice A l.length c))
      have y4 := (by rw [Lib.cell_of_heap HY.out]; rfl : ((w.alloc (.cells #[.int .i64 o, .int .u8 v.f0, .int .i64 v.f1, .string v.f2, .slice A l.length c] 35)).alloc (.cells #[.int .i64 p, .int .u8 u.f0, .int .i64 u.f1, .string u.f2, .slice B m.length d] 35)).cell? ⟨w.heap.size + 1, 4, none⟩ = some (.slice B m.length d))
      go_enter Tryd.func18, Tryd.ntmps18
      go_wp2_with (go_at_call 39; refine (HEQ.out _ HB.out).mono ?_; rintro e w2 ⟨rfl, hb⟩; (have HB2 : Aside0 (Below w.heap.size w w2) := ⟨HB.out.trans (hb.mono HB.out.size)⟩); clear hb)
      go_ret
      refine ⟨?_, HB2.out⟩
      have es : sameS ⟨o, v, l⟩ ⟨p, u, m⟩ = samesS l m := by simp only [sameS]; rw [if_neg H1.out, decide_eq_true H0.out, Bool.true_and, Bool.true_and]
      rw [es]
      rfl
  · have e0 : (o != p) = true := bne_iff_ne.2 h0
    have H0 := Aside0.mk h0
    clear h0
    go_enter Tryd.func18, Tryd.ntmps18
    go_wp2
    go_ret
    refine ⟨?_, HB.out⟩
    have es : sameS ⟨o, v, l⟩ ⟨p, u, m⟩ = false := by simp only [sameS]; rw [decide_eq_false H0.out, Bool.false_and]
    rw [es]
    rfl
end Go.Proofs.YtaebjcldopoccaaDoor.EsSame
