/- The plain laws of ExprNames. No Go and no memory here. -/
import Derived.Test.YtaebjcldopoccaaDoorEnQuote
import Derived.Test.YtaebjcldopoccaaDoorEnx1
import Derived.Test.YtaebjcldopoccaaDoorEnx2
set_option linter.unusedVariables false
set_option linter.unusedSimpArgs false
namespace Go.Proofs.YtaebjcldopoccaaDoor.En
open Go.RowKit Go.Proofs.YtaebjcldopoccaaDoorW.PrintWords

theorem ev_here {α : Type} {g : Nat → Option α} {r : α} (h : ∀ k, g (k + 1) = some r) : Ev g r := Ev.step (f := fun _ => some r) h (Ev.now r)
abbrev B (l : List UInt8) : ByteArray := ⟨l.toArray⟩
theorem ba_append (a b : List UInt8) : B a ++ B b = B (a ++ b) := by
  apply ByteArray.ext
  simp [ByteArray.data_append]
theorem ba_size (a : List UInt8) : (B a).size = a.length := by simp [B, ByteArray.size]
theorem ext_one (s : ByteArray) (k : Nat) (h : k < s.size) : s.extract k (k + 1) = B [s.data.toList[k]'(by simpa using h)] := by
  apply ByteArray.ext
  rw [ByteArray.data_extract]
  apply Array.ext'
  rw [Array.toList_extract]
  simp only [List.extract_eq_take_drop, Nat.add_sub_cancel_left]
  rw [List.drop_eq_getElem_cons (by simpa using h)]
  simp
def hexB : ByteArray := ⟨#[48, 49, 50, 51, 52, 53, 54, 55, 56, 57, 97, 98, 99, 100, 101, 102]⟩
theorem hex_ext (n : Nat) (h : n < 16) : (⟨#[48, 49, 50, 51, 52, 53, 54, 55, 56, 57, 97, 98, 99, 100, 101, 102]⟩ : ByteArray).extract n (n + 1) = B [hexd n] := by
  rw [ext_one (⟨#[48, 49, 50, 51, 52, 53, 54, 55, 56, 57, 97, 98, 99, 100, 101, 102]⟩ : ByteArray) n (show n < 16 from h)]
  have hn : n = 0 ∨ n = 1 ∨ n = 2 ∨ n = 3 ∨ n = 4 ∨ n = 5 ∨ n = 6 ∨ n = 7 ∨ n = 8 ∨ n = 9 ∨ n = 10 ∨ n = 11 ∨ n = 12 ∨ n = 13 ∨ n = 14 ∨ n = 15 := by omega
  rcases hn with h | h | h | h | h | h | h | h | h | h | h | h | h | h | h | h <;> subst h <;> rfl
theorem wr (n : Nat) (h : n < 4611686018427387904) : wrap64 (n : Int) = (n : Int) := by unfold wrap64; omega
theorem td (n : Nat) : Int.tdiv (n : Int) 16 = ((n / 16 : Nat) : Int) := rfl
theorem tm (n : Nat) : Int.tmod (n : Int) 16 = ((n % 16 : Nat) : Int) := rfl
theorem hex_step (s : ByteArray) (acc : List UInt8) (k c : Nat) (f : Nat) (hc : c < 256) (hk : k < 1000000) (ha : acc.length < 1000000) :
    gristmillref09_Quote.j1 (f + 1) s (B acc) (k : Int) (c : Int) true = gristmillref09_Quote.l0 f s (B (acc ++ [92, 120, hexd (c / 16), hexd (c % 16)])) ((k + 1 : Nat) : Int) := by
  simp only [gristmillref09_Quote.j1, if_true, td, tm]
  rw [wr (c / 16) (by omega), wrap_nat (n := c / 16) (by omega), wrap_nat (n := c % 16) (by omega), wrap_nat (n := k) (by omega)]
  simp only [Int.toNat_natCast]
  rw [hex_ext _ (by omega), hex_ext _ (by omega), show (⟨#[92, 120]⟩ : ByteArray) = B [92, 120] from rfl]
  simp only [ba_append, ba_size, List.length_append, List.length_cons, List.length_nil]
  rw [if_pos (by omega), if_pos (by omega), if_pos (by omega), if_pos (by omega), if_pos (by omega), if_pos (by omega), if_pos (by omega), if_pos (by omega), if_pos (by omega)]
  simp
theorem ref_step (s : ByteArray) (acc : List UInt8) (k : Nat) (h : k < s.size) (f : Nat) (hk : k < 1000000) (hs : s.size < 1000000) (ha : acc.length < 1000000) :
    gristmillref09_Quote.l0 (f + 2) s (B acc) (k : Int) = gristmillref09_Quote.l0 f s (B (acc ++ qb (s.data.toList[k]'(by simpa using h)))) ((k + 1 : Nat) : Int) := by
  have hb := bt_get s k h
  have he := ext_one s k h
  generalize s.data.toList[k]'(by simpa using h) = c at hb he ⊢
  have hc := c.toNat_lt
  rw [show f + 2 = (f + 1) + 1 from rfl]
  simp only [gristmillref09_Quote.l0]
  rw [if_pos (by omega), if_pos (by omega), hb, wr c.toNat (by omega)]
  by_cases c32 : c.toNat < 32
  · rw [if_pos (show (c.toNat : Int) < 32 by omega), hex_step s acc k c.toNat f (by omega) hk ha]
    rw [qb_hex (by omega) (by omega) (.inl c32)]
  rw [if_neg (show ¬ (c.toNat : Int) < 32 by omega)]
  by_cases c126 : 126 < c.toNat
  · rw [decide_eq_true (show (c.toNat : Int) > 126 by omega), hex_step s acc k c.toNat f (by omega) hk ha]
    rw [qb_hex (by omega) (by omega) (.inr c126)]
  rw [decide_eq_false (show ¬ (c.toNat : Int) > 126 by omega)]
  simp only [gristmillref09_Quote.j1, Bool.false_eq_true, if_false]
  rw [wrap_nat (n := k) (by omega)]
  simp only [Int.toNat_natCast, he]
  rw [show (⟨#[92]⟩ : ByteArray) = B [92] from rfl]
  simp only [ba_append, ba_size, List.length_append, List.length_cons, List.length_nil]
  by_cases c34 : c.toNat = 34
  · rw [if_pos (show (c.toNat : Int) = 34 by omega), if_pos (by omega), if_pos (by omega), if_pos (by omega), if_pos (by omega), if_pos (by omega), qb_34 c34]
    simp
  rw [if_neg (show ¬ (c.toNat : Int) = 34 by omega)]
  by_cases c92 : c.toNat = 92
  · rw [if_pos (show (c.toNat : Int) = 92 by omega), if_pos (by omega), if_pos (by omega), if_pos (by omega), if_pos (by omega), if_pos (by omega), qb_92 c92]
    simp
  rw [if_neg (show ¬ (c.toNat : Int) = 92 by omega), if_pos (by omega), if_pos (by omega), if_pos (by omega), if_pos (by omega), qb_plain c34 c92 c32 c126]
theorem quote_ref (s : ByteArray) (hs : s.size ≤ 100000) : Ev (fun k => gristmillref09_Quote.f k s) ⟨(quoteS s).toArray⟩ := by
  have loop : ∀ (d k : Nat) (acc : List UInt8), k + d = s.size → acc = 34 :: qbs (s.data.toList.take k) → Ev (fun f => gristmillref09_Quote.l0 f s (B acc) (k : Int)) ⟨(quoteS s).toArray⟩ := by
    intro d
    induction d with
    | zero =>
      intro k acc hk ha
      have hl := qbs_len (s.data.toList.take k)
      have hl2 : (s.data.toList.take k).length ≤ k := by rw [List.length_take]; omega
      refine ev_here fun f => ?_
      simp only [gristmillref09_Quote.l0]
      rw [if_neg (by omega), ba_size, show (⟨#[34]⟩ : ByteArray) = B [34] from rfl, ba_append, if_pos (by rw [ha, List.length_cons]; omega), ha, List.take_of_length_le (by simp; omega)]
      rfl
    | succ d ih =>
      intro k acc hk ha
      have hlt : k < s.size := by omega
      have hl := qbs_len (s.data.toList.take k)
      have hl2 : (s.data.toList.take k).length ≤ k := by rw [List.length_take]; omega
      have hn := ih (k + 1) (acc ++ qb (s.data.toList[k]'(by simpa using hlt))) (by omega) (by rw [ha, qbs_take s k hlt]; rfl)
      have h2 := fun f => ref_step s acc k hlt f (by omega) (by omega) (by rw [ha, List.length_cons]; omega)
      obtain ⟨K, hK⟩ := hn
      refine ⟨K + 2, fun n hn' => ?_⟩
      obtain ⟨m, rfl⟩ : ∃ m, n = m + 2 := ⟨n - 2, by omega⟩
      show gristmillref09_Quote.l0 (m + 2) s (B acc) (k : Int) = _
      rw [h2 m]
      exact hK m (by omega)
  exact loop s.size 0 [34] (by omega) rfl
end Go.Proofs.YtaebjcldopoccaaDoor.En
