/- What expr.Quote hands back, by its walk. -/
import Derived.Test.YtaebjcldopoccaaDoorEnShelf
import Derived.Test.YtaebjcldopoccaaDoorEnx0
import Derived.RangeFuncRecord
set_option linter.unusedVariables false
set_option linter.unusedSimpArgs false
namespace Go.Proofs.YtaebjcldopoccaaDoor.En
open Go.RowKit Go.Shelf Go.Proofs.YtaebjcldopoccaaDoorW.PrintWords

def hexd (n : Nat) : UInt8 := if n < 10 then UInt8.ofNat (48 + n) else UInt8.ofNat (87 + n)
/-- What stands for one byte of a text in marks. -/
def qb (c : UInt8) : List UInt8 := if c.toNat = 34 then [92, c] else if c.toNat = 92 then [92, c] else if c.toNat < 32 then [92, 120, hexd (c.toNat / 16), hexd (c.toNat % 16)] else if 126 < c.toNat then [92, 120, hexd (c.toNat / 16), hexd (c.toNat % 16)] else [c]
def qbs (l : List UInt8) : List UInt8 := l.flatMap qb
def quoteS (s : ByteArray) : List UInt8 := 34 :: (qbs s.data.toList ++ [34])
theorem qb_len (c : UInt8) : (qb c).length ≤ 4 := by
  unfold qb
  repeat' split
  all_goals simp
theorem qbs_len (l : List UInt8) : (qbs l).length ≤ 4 * l.length := by
  induction l with
  | nil => simp [qbs]
  | cons a t ih =>
    have := qb_len a
    simp only [qbs, List.flatMap_cons, List.length_append, List.length_cons] at ih ⊢
    omega
theorem qbs_take (s : ByteArray) (k : Nat) (h : k < s.size) : qbs (s.data.toList.take (k + 1)) = qbs (s.data.toList.take k) ++ qb (s.data.toList[k]'(by simpa using h)) := by
  rw [List.take_succ_eq_append_getElem (by simpa using h)]
  simp [qbs]
theorem bt_get (s : ByteArray) (n : Nat) (h : n < s.size) : bt s (n : Int) = ((s.data.toList[n]'(by simpa using h)).toNat : Int) := by
  unfold bt
  rw [dif_pos (by simpa using h)]
  simp [ByteArray.getElem_eq_getElem_data]
theorem bytes_snoc (l : List UInt8) (c : UInt8) : Lib.byteCells l ++ [.int .u8 (c.toNat : Int)] = Lib.byteCells (l ++ [c]) := by simp [Lib.byteCells]
theorem qb_34 {c : UInt8} (h : c.toNat = 34) : qb c = [92, c] := if_pos h
theorem qb_92 {c : UInt8} (h : c.toNat = 92) : qb c = [92, c] := by unfold qb; rw [if_pos h]; split <;> rfl
theorem qb_plain {c : UInt8} (h : ¬ c.toNat = 34) (h1 : ¬ c.toNat = 92) (h2 : ¬ c.toNat < 32) (h3 : ¬ 126 < c.toNat) : qb c = [c] := by unfold qb; rw [if_neg h, if_neg h1, if_neg h2, if_neg h3]
theorem qb_hex {c : UInt8} (h : ¬ c.toNat = 34) (h1 : ¬ c.toNat = 92) (h2 : c.toNat < 32 ∨ 126 < c.toNat) : qb c = [92, 120, hexd (c.toNat / 16), hexd (c.toNat % 16)] := by
  unfold qb
  rw [if_neg h, if_neg h1]
  split
  · rfl
  · rw [if_pos (by omega)]
theorem wrap_nat {n : Nat} (h : n < 9223372036854775807) : wrap64 ((n : Int) + 1) = ((n + 1 : Nat) : Int) := by
  unfold wrap64
  omega
abbrev BA (B : Nat) (l : List UInt8) (w : World) : Prop := Lib.BuilderAt 48 5 B B (.pointer (some ⟨B, 0, none⟩)) (Lib.byteCells l) w
/-- A byte more. -/
theorem wb_calls (B : Nat) (l : List UInt8) (c : UInt8) (ci : Int) (hci : ci = (c.toNat : Int)) (w : World) (h : BA B l w) (hl : l.length ≤ 1000000) (hB : B ≤ w.heap.size) :
    Calls Tryd.prog 29 #[.pointer (some ⟨B, 0, none⟩), .int .u8 ci] w fun e w' => e = .returned .nilIface ∧ BA B (l ++ [c]) w' ∧ Below B w w' := by
  subst hci
  refine (Tryd.Builder_WriteByte B B (Lib.byteCells l) (c.toNat : Int) w (.inr h) (by rw [Lib.byteCells_length]; omega) hB).mono ?_
  rintro e w' ⟨he, hb, hw⟩
  rw [bytes_snoc] at hb
  exact ⟨he, hb, hw⟩
theorem ws_calls (B : Nat) (l : List UInt8) (w : World) (h : BA B l w) (hl : l.length ≤ 1000000) (hB : B ≤ w.heap.size) :
    Calls Tryd.prog 30 #[.pointer (some ⟨B, 0, none⟩), .string ⟨#[92, 120]⟩] w fun e w' => e = .returned (.tuple #[.int .i64 2, .nilIface]) ∧ BA B (l ++ [92, 120]) w' ∧ Below B w w' := by
  refine (Tryd.Builder_WriteString B B (Lib.byteCells l) ⟨#[92, 120]⟩ w (.inr h) (by rw [Lib.byteCells_length]; show l.length + 2 ≤ _; omega) hB).mono ?_
  rintro e w' ⟨he, hb, hw⟩
  have : Lib.byteCells l ++ Lib.strCells ⟨#[92, 120]⟩ = Lib.byteCells (l ++ [92, 120]) := by simp [Lib.byteCells, Lib.strCells]
  rw [this] at hb
  exact ⟨he, hb, hw⟩
theorem hex_get : ∀ (n : Nat) (h : n < (⟨#[48, 49, 50, 51, 52, 53, 54, 55, 56, 57, 97, 98, 99, 100, 101, 102]⟩ : ByteArray).size), ((⟨#[48, 49, 50, 51, 52, 53, 54, 55, 56, 57, 97, 98, 99, 100, 101, 102]⟩ : ByteArray)[n]'h) = hexd n
  | 0, _ => rfl
  | 1, _ => rfl
  | 2, _ => rfl
  | 3, _ => rfl
  | 4, _ => rfl
  | 5, _ => rfl
  | 6, _ => rfl
  | 7, _ => rfl
  | 8, _ => rfl
  | 9, _ => rfl
  | 10, _ => rfl
  | 11, _ => rfl
  | 12, _ => rfl
  | 13, _ => rfl
  | 14, _ => rfl
  | 15, _ => rfl
  | n + 16, h => absurd h (by show ¬ n + 16 < 16; omega)
theorem str_calls (B : Nat) (l : List UInt8) (w : World) (h : BA B l w) (h0 : l ≠ []) :
    Calls Tryd.prog 31 #[.pointer (some ⟨B, 0, none⟩)] w fun e w' => e = .returned (.string ⟨l.toArray⟩) ∧ Below B w w' := Tryd.Builder_String B B l w (.inr h) h0
set_option maxRecDepth 100000 in
set_option maxHeartbeats 8000000 in
theorem quote_calls (s : ByteArray) (hs : s.size ≤ 100000) (w : World) :
    Calls Tryd.prog 12 #[.string s] w fun e w' => e = .returned (.string ⟨(quoteS s).toArray⟩) ∧ Below w.heap.size w w' := by
  have h0 : Lib.IsBuilder 48 5 w.heap.size w.heap.size [] (w.alloc (.cells #[.pointer none, .slice none 0 0] 48)) :=
    .inl ⟨Nat.le_refl _, .slice none 0 0, World.alloc_heap_new w _, own_nil _ _ _ _, by simp [Value.ownBlock]⟩
  have hb0 : Below w.heap.size w (w.alloc (.cells #[.pointer none, .slice none 0 0] 48)) := (Below.refl _ w).alloc (Nat.le_refl _) _
  have HI := Aside0.mk h0
  have HB := Aside0.mk hb0
  clear h0 hb0
  go_enter Tryd.func12, Tryd.ntmps12
  go_wp2_with (go_at_call 29; (with_reducible refine (Tryd.Builder_WriteByte w.heap.size _ [] _ _ HI.out (by simp) ?sa).mono ?_); (case sa => exact HB.out.size); rintro e w1 ⟨rfl, hI, hb⟩; have HI1 := Aside0.mk hI; have HB1 := Aside0.mk (HB.out.trans hb); clear hI hb)
  have HI2 := Aside0.mk (show BA w.heap.size (34 :: qbs (s.data.toList.take 0)) w1 from HI1.out)
  clear HI HB HI1
  go_loopw [9] (fun i wr => ∃ k : Nat, k ≤ s.size ∧ i = .int .i64 k ∧ BA w.heap.size (34 :: qbs (s.data.toList.take k)) wr ∧ Below w.heap.size w wr)
    (fun i _ => s.size - (intOf i).toNat)
  case atStart => exact ⟨0, Nat.zero_le _, rfl, HI2.out, HB1.out⟩
  case round =>
    clear HI2 HB1
    obtain ⟨k, hk, rfl, hI, hb⟩ := hrel
    have HI := Aside0.mk hI
    have HB := Aside0.mk hb
    clear hI hb
    obtain ⟨x, hxk⟩ : ∃ x : Int, x = (k : Int) := ⟨_, rfl⟩
    rw [← hxk]
    by_cases hlt : k < s.size
    · have d0 : decide (x < (s.size : Int)) = true := decide_eq_true (by omega)
      have p0 : ((0 : Int) ≤ x) = True := eq_true (by omega)
      have q0 : (x < (s.size : Int)) = True := eq_true (by omega)
      have hx := bt_at s x
      have hg := bt_get s k hlt
      rw [← hxk] at hg
      have hc := qbs_take s k hlt
      have hl := qbs_len (s.data.toList.take k)
      have hl2 : (s.data.toList.take k).length ≤ s.size := by
        have e : s.data.toList.length = s.size := by simp
        rw [List.length_take]
        omega
      generalize s.data.toList[k]'(by simpa using hlt) = c at hg hc
      generalize hacc : qbs (s.data.toList.take k) = acc at HI hc hl
      have HG := Aside0.mk hg
      have HC := Aside0.mk hc
      have HX := Aside0.mk hxk
      have HL := Aside0.mk hlt
      have HLN := Aside0.mk (show (34 :: acc).length ≤ 900000 by simp only [List.length_cons]; omega)
      have hcb := c.toNat_lt
      clear hg hc hxk hlt hl hl2 hacc
      rw [HG.out] at hx
      by_cases c34 : c.toNat = 34
      · have e34 : ((c.toNat : Int) == 34) = true := by rw [beq_iff_eq]; omega
        replace c34 := Aside0.mk c34
        go_wp2_with (first | (go_at_call 29; (with_reducible refine (wb_calls w.heap.size _ c _ rfl _ HI1.out ?sl ?sb).mono ?_); (case sl => have := HLN.out; simp only [List.length_append, List.length_cons, List.length_nil] at this ⊢; omega); (case sb => exact HB1.out.size); rintro e w1 ⟨rfl, hI, hb⟩; have HI2 := Aside0.mk hI; have HB2 := Aside0.mk (HB1.out.trans hb); clear hI hb) | (go_at_call 29; (with_reducible refine (wb_calls w.heap.size _ 92 92 rfl _ HI.out ?sl ?sb).mono ?_); (case sl => have := HLN.out; simp only [List.length_append, List.length_cons, List.length_nil] at this ⊢; omega); (case sb => exact HB.out.size); rintro e w1 ⟨rfl, hI, hb⟩; have HI1 := Aside0.mk hI; have HB1 := Aside0.mk (HB.out.trans hb); clear hI hb))
        go_roundw
        case rel => exact ⟨k + 1, HL.out, by rw [HX.out, wrap_nat (by have := HL.out; omega)], by rw [HC.out, qb_34 c34.out]; simpa using HI2.out, HB2.out⟩
        case measure => have := HL.out; rw [HX.out, wrap_nat (by omega)]; simp [intOf]; omega
      have e34 : ((c.toNat : Int) == 34) = false := by rw [beq_eq_false_iff_ne]; omega
      by_cases c92 : c.toNat = 92
      · have e92 : ((c.toNat : Int) == 92) = true := by rw [beq_iff_eq]; omega
        replace c92 := Aside0.mk c92
        replace c34 := Aside0.mk c34
        go_wp2_with (first | (go_at_call 29; (with_reducible refine (wb_calls w.heap.size _ c _ rfl _ HI1.out ?sl ?sb).mono ?_); (case sl => have := HLN.out; simp only [List.length_append, List.length_cons, List.length_nil] at this ⊢; omega); (case sb => exact HB1.out.size); rintro e w1 ⟨rfl, hI, hb⟩; have HI2 := Aside0.mk hI; have HB2 := Aside0.mk (HB1.out.trans hb); clear hI hb) | (go_at_call 29; (with_reducible refine (wb_calls w.heap.size _ 92 92 rfl _ HI.out ?sl ?sb).mono ?_); (case sl => have := HLN.out; simp only [List.length_append, List.length_cons, List.length_nil] at this ⊢; omega); (case sb => exact HB.out.size); rintro e w1 ⟨rfl, hI, hb⟩; have HI1 := Aside0.mk hI; have HB1 := Aside0.mk (HB.out.trans hb); clear hI hb))
        go_roundw
        case rel => exact ⟨k + 1, HL.out, by rw [HX.out, wrap_nat (by have := HL.out; omega)], by rw [HC.out, qb_92 c92.out]; simpa using HI2.out, HB2.out⟩
        case measure => have := HL.out; rw [HX.out, wrap_nat (by omega)]; simp [intOf]; omega
      have e92 : ((c.toNat : Int) == 92) = false := by rw [beq_eq_false_iff_ne]; omega
      by_cases c32 : c.toNat < 32
      · have e32 : decide ((c.toNat : Int) < 32) = true := decide_eq_true (by omega)
        have h34 := Aside0.mk c34
        have h92 := Aside0.mk c92
        have hcc := Aside0.mk (show c.toNat < 32 ∨ 126 < c.toNat from .inl c32)
        go_wp2_with (first | (go_at_call 29; (with_reducible refine (wb_calls w.heap.size _ (hexd (c.toNat % 16)) _ ?sx _ HI2.out ?sl ?sb).mono ?_); (case sx => exact congrArg (fun u : UInt8 => (u.toNat : Int)) (hex_get _ _)); (case sl => have := HLN.out; simp only [List.length_append, List.length_cons, List.length_nil] at this ⊢; omega); (case sb => exact HB2.out.size); rintro e w1 ⟨rfl, hI, hb⟩; have HI3 := Aside0.mk hI; have HB3 := Aside0.mk (HB2.out.trans hb); clear hI hb) | (go_at_call 29; (with_reducible refine (wb_calls w.heap.size _ (hexd (c.toNat / 16)) _ ?sx _ HI1.out ?sl ?sb).mono ?_); (case sx => exact congrArg (fun u : UInt8 => (u.toNat : Int)) (hex_get _ _)); (case sl => have := HLN.out; simp only [List.length_append, List.length_cons, List.length_nil] at this ⊢; omega); (case sb => exact HB1.out.size); rintro e w1 ⟨rfl, hI, hb⟩; have HI2 := Aside0.mk hI; have HB2 := Aside0.mk (HB1.out.trans hb); clear hI hb) | (go_at_call 30; (with_reducible refine (ws_calls w.heap.size _ _ HI.out ?sl ?sb).mono ?_); (case sl => have := HLN.out; simp only [List.length_append, List.length_cons, List.length_nil] at this ⊢; omega); (case sb => exact HB.out.size); rintro e w1 ⟨rfl, hI, hb⟩; have HI1 := Aside0.mk hI; have HB1 := Aside0.mk (HB.out.trans hb); clear hI hb))
        go_roundw
        case rel => exact ⟨k + 1, HL.out, by rw [HX.out, wrap_nat (by have := HL.out; omega)], by rw [HC.out, qb_hex h34.out h92.out hcc.out]; simpa using HI3.out, HB3.out⟩
        case measure => have := HL.out; rw [HX.out, wrap_nat (by omega)]; simp [intOf]; omega
      have e32 : decide ((c.toNat : Int) < 32) = false := decide_eq_false (by omega)
      by_cases c126 : 126 < c.toNat
      · have e126 : decide (126 < (c.toNat : Int)) = true := decide_eq_true (by omega)
        have h34 := Aside0.mk c34
        have h92 := Aside0.mk c92
        have hcc := Aside0.mk (show c.toNat < 32 ∨ 126 < c.toNat from .inr c126)
        go_wp2_with (first | (go_at_call 29; (with_reducible refine (wb_calls w.heap.size _ (hexd (c.toNat % 16)) _ ?sx _ HI2.out ?sl ?sb).mono ?_); (case sx => exact congrArg (fun u : UInt8 => (u.toNat : Int)) (hex_get _ _)); (case sl => have := HLN.out; simp only [List.length_append, List.length_cons, List.length_nil] at this ⊢; omega); (case sb => exact HB2.out.size); rintro e w1 ⟨rfl, hI, hb⟩; have HI3 := Aside0.mk hI; have HB3 := Aside0.mk (HB2.out.trans hb); clear hI hb) | (go_at_call 29; (with_reducible refine (wb_calls w.heap.size _ (hexd (c.toNat / 16)) _ ?sx _ HI1.out ?sl ?sb).mono ?_); (case sx => exact congrArg (fun u : UInt8 => (u.toNat : Int)) (hex_get _ _)); (case sl => have := HLN.out; simp only [List.length_append, List.length_cons, List.length_nil] at this ⊢; omega); (case sb => exact HB1.out.size); rintro e w1 ⟨rfl, hI, hb⟩; have HI2 := Aside0.mk hI; have HB2 := Aside0.mk (HB1.out.trans hb); clear hI hb) | (go_at_call 30; (with_reducible refine (ws_calls w.heap.size _ _ HI.out ?sl ?sb).mono ?_); (case sl => have := HLN.out; simp only [List.length_append, List.length_cons, List.length_nil] at this ⊢; omega); (case sb => exact HB.out.size); rintro e w1 ⟨rfl, hI, hb⟩; have HI1 := Aside0.mk hI; have HB1 := Aside0.mk (HB.out.trans hb); clear hI hb))
        go_roundw
        case rel => exact ⟨k + 1, HL.out, by rw [HX.out, wrap_nat (by have := HL.out; omega)], by rw [HC.out, qb_hex h34.out h92.out hcc.out]; simpa using HI3.out, HB3.out⟩
        case measure => have := HL.out; rw [HX.out, wrap_nat (by omega)]; simp [intOf]; omega
      have e126 : decide (126 < (c.toNat : Int)) = false := decide_eq_false (by omega)
      replace c34 := Aside0.mk c34
      replace c92 := Aside0.mk c92
      replace c32 := Aside0.mk c32
      replace c126 := Aside0.mk c126
      go_wp2_with (first | (go_at_call 29; (with_reducible refine (wb_calls w.heap.size _ c _ rfl _ HI.out ?sl ?sb).mono ?_); (case sl => have := HLN.out; simp only [List.length_append, List.length_cons, List.length_nil] at this ⊢; omega); (case sb => exact HB.out.size); rintro e w1 ⟨rfl, hI, hb⟩; have HI1 := Aside0.mk hI; have HB1 := Aside0.mk (HB.out.trans hb); clear hI hb))
      go_roundw
      case rel => exact ⟨k + 1, HL.out, by rw [HX.out, wrap_nat (by have := HL.out; omega)], by rw [HC.out, qb_plain c34.out c92.out c32.out c126.out]; simpa using HI1.out, HB1.out⟩
      case measure => have := HL.out; rw [HX.out, wrap_nat (by omega)]; simp [intOf]; omega
    · have d0 : decide (x < (s.size : Int)) = false := decide_eq_false (by omega)
      have HK := Aside0.mk (show k = s.size by omega)
      clear hxk hlt
      go_wp2_with (first | (go_at_call 29; (with_reducible refine (wb_calls w.heap.size _ 34 34 rfl _ HI.out ?sc ?sa).mono ?_); (case sc => have := qbs_len (s.data.toList.take k); simp only [List.length_cons, List.length_take] at this ⊢; omega); (case sa => exact HB.out.size); rintro e w1 ⟨rfl, hI, hb⟩; have HI1 := Aside0.mk hI; have HB1 := Aside0.mk (HB.out.trans hb); clear hI hb) | (go_at_call 31; (with_reducible refine (str_calls w.heap.size _ _ HI1.out ?sn).mono ?_); (case sn => simp); rintro e w2 ⟨rfl, hb⟩; have HB2 := Aside0.mk (HB1.out.trans hb); clear hb))
      go_ret
      refine ⟨?_, HB2.out⟩
      have hl : s.data.toList.take k = s.data.toList := List.take_of_length_le (by rw [HK.out]; simp)
      have hq : quoteS s = 34 :: (qbs (s.data.toList.take k) ++ [34]) := by rw [hl]; rfl
      rw [hq]
      rfl
end Go.Proofs.YtaebjcldopoccaaDoor.En
