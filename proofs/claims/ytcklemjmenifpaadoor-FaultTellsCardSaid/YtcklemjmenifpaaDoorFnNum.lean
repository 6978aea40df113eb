/- The document's numbers as texts, by the printed contract; its walk of Tell. -/
import Derived.Test.YtcklemjmenifpaaDoorFnAll
set_option linter.unusedVariables false
set_option linter.unusedSimpArgs false
namespace Go.Proofs.YtcklemjmenifpaaDoor.Fn
open Go.RowKit Go.Shelf Go.Extern.Stop Go.Stop Go.Extern Go.Proofs.YtcklemjmenifpaaDoorW.PrintWords Go.Proofs.YtcklemjmenifpaaDoorW.PrintLast Go.Proofs.YtcklemjmenifpaaDoorW.PrintMore Go.Proofs.YtcklemjmenifpaaDoor.Fs

theorem ext_one (s : ByteArray) (k : Nat) (h : k < s.size) : s.extract k (k + 1) = bs [s.data.toList[k]'(by simpa using h)] := by
  apply ByteArray.ext
  rw [ByteArray.data_extract]
  apply Array.ext'
  rw [Array.toList_extract]
  simp only [List.extract_eq_take_drop, Nat.add_sub_cancel_left]
  rw [List.drop_eq_getElem_cons (by simpa using h)]
  simp [bs]
theorem wrap_nat {n : Nat} (h : n < 9223372036854775807) : wrap64 ((n : Int) + 1) = ((n + 1 : Nat) : Int) := by
  unfold wrap64
  omega
/-! ### numbers -/
def dig (d : Nat) : UInt8 := UInt8.ofNat (48 + d)
theorem dig_ext (d : Nat) (h : d < 10) : (⟨#[48, 49, 50, 51, 52, 53, 54, 55, 56, 57]⟩ : ByteArray).extract d (d + 1) = bs [dig d] := by
  have hn : d = 0 ∨ d = 1 ∨ d = 2 ∨ d = 3 ∨ d = 4 ∨ d = 5 ∨ d = 6 ∨ d = 7 ∨ d = 8 ∨ d = 9 := by omega
  rw [ext_one (⟨#[48, 49, 50, 51, 52, 53, 54, 55, 56, 57]⟩ : ByteArray) d (show d < 10 from h)]
  rcases hn with h | h | h | h | h | h | h | h | h | h <;> subst h <;> rfl
theorem wr' (n : Int) (h0 : -4611686018427387904 ≤ n) (h : n < 4611686018427387904) : wrap64 n = n := by unfold wrap64; omega
theorem num_step (i : Int) (m : Nat) (n : Int) (hn : n = (m : Int) ∨ n = -(m : Int)) (hm : m ≤ 9223372036854775808) (s : List UInt8) (hs : s.length ≤ 1000) (f : Nat) :
    gristmillref05_Number.j1 (f + 1) i (bs s) n true = gristmillref05_Number.l0 f i (bs (dig (m % 10) :: s)) (Int.tdiv n 10) := by
  have hd : m % 10 < 10 := Nat.mod_lt _ (by decide)
  have he := dig_ext (m % 10) hd
  have hsz : (bs [dig (m % 10)]).size = 1 := rfl
  have happ : bs [dig (m % 10)] ++ bs s = bs (dig (m % 10) :: s) := bs_app _ _
  have ht : Int.tmod n 10 = (m % 10 : Nat) ∨ (Int.tmod n 10 = -((m % 10 : Nat) : Int)) := by
    rcases hn with rfl | rfl
    · exact .inl rfl
    · refine .inr ?_
      rw [Int.neg_tmod]
      rfl
  have hq : Int.tdiv n 10 = (m / 10 : Nat) ∨ (Int.tdiv n 10 = -((m / 10 : Nat) : Int)) := by
    rcases hn with rfl | rfl
    · exact .inl rfl
    · refine .inr ?_
      rw [Int.neg_tdiv]
      rfl
  have hwq : wrap64 (Int.tdiv n 10) = Int.tdiv n 10 := by
    have : m / 10 ≤ 922337203685477580 := by omega
    rcases hq with h | h <;> rw [h] <;> exact wr' _ (by omega) (by omega)
  simp only [gristmillref05_Number.j1, if_true]
  rw [hwq]
  generalize m % 10 = d at *
  rcases ht with h | h
  · rw [h]
    rw [if_neg (show ¬ ((d : Nat) : Int) < 0 by omega), if_pos (by omega), wrap_nat (n := d) (by omega), if_pos (by omega), if_pos (by omega)]
    simp only [Int.toNat_natCast]
    rw [he, hsz, bs_size, if_pos (by omega), happ]
  · rw [h]
    have hw1 : wrap64 (-(-((d : Nat) : Int))) = ((d : Nat) : Int) := by rw [Int.neg_neg]; exact wr' _ (by omega) (by omega)
    rw [hw1, wrap_nat (n := d) (by omega)]
    simp only [Int.toNat_natCast]
    rw [he, hsz, bs_size]
    by_cases h0 : -((d : Nat) : Int) < 0
    · rw [if_pos h0, if_pos (by omega), if_pos (by omega), if_pos (by omega), if_pos (by omega), happ]
    · have hd0 : d = 0 := by omega
      subst hd0
      rw [if_neg h0, if_pos (by omega)]
      simp only [Int.ofNat_eq_natCast, Int.natCast_zero, Int.neg_zero]
      have w1 : wrap64 ((0 : Int) + 1) = 1 := wr' 1 (by omega) (by omega)
      rw [w1, if_pos (by omega), if_pos (by omega)]
      have he' : (⟨#[48, 49, 50, 51, 52, 53, 54, 55, 56, 57]⟩ : ByteArray).extract (Int.toNat 0) (Int.toNat 1) = bs [dig 0] := he
      rw [he', hsz, if_pos (by omega), happ]
def signed (i : Int) (t : List UInt8) : List UInt8 := if i < 0 then 45 :: t else t
theorem num_end (i : Int) (s : List UInt8) (h0 : s ≠ []) (hs : s.length ≤ 1000) (f : Nat) : gristmillref05_Number.l0 (f + 2) i (bs s) 0 = some (bs (signed i s)) := by
  have hb : ((bs s).toList == ([] : List UInt8)) = false := by
    rw [beq_eq_false_iff_ne, ByteArray.toList_eq]
    simpa [bs] using h0
  rw [show f + 2 = (f + 1) + 1 from rfl]
  simp only [gristmillref05_Number.l0, if_true, hb]
  simp only [gristmillref05_Number.j1, Bool.false_eq_true, if_false]
  unfold signed
  by_cases hi : i < 0
  · rw [if_pos hi, if_pos (by rw [bs_size]; omega), if_pos hi]
    exact congrArg some (bs_app [45] s)
  · rw [if_neg hi, if_neg hi]
theorem num_loop (i : Int) (m : Nat) : m ≤ 9223372036854775808 → ∀ (n : Int) (s : List UInt8), (n = (m : Int) ∨ n = -(m : Int)) → m ≠ 0 → s.length + (Lib.decDigits m).length ≤ 900 →
    Ev (fun k => gristmillref05_Number.l0 k i (bs s) n) (bs (signed i (Lib.decDigits m ++ s))) := by
  induction m using Nat.strongRecOn with
  | _ m ih =>
  intro hm n s hn h0 hs
  have hn0 : n ≠ 0 := by omega
  have hdl : 1 ≤ (Lib.decDigits m).length := by
    rw [Lib.decDigits]
    split <;> simp
  by_cases h10 : m < 10
  · have hd : Lib.decDigits m = [dig (m % 10)] := by
      rw [Lib.decDigits, dif_pos h10, Nat.mod_eq_of_lt h10]
      rfl
    have hq : Int.tdiv n 10 = 0 := by
      have : m / 10 = 0 := by omega
      rcases hn with rfl | rfl
      · show ((m / 10 : Nat) : Int) = 0
        omega
      · rw [Int.neg_tdiv]
        show -((m / 10 : Nat) : Int) = 0
        omega
    rw [hd]
    refine Ev.step (f := fun k => gristmillref05_Number.j1 k i (bs s) n true) (fun k => by simp only [gristmillref05_Number.l0]; rw [if_neg hn0]) ?_
    refine Ev.step (f := fun k => gristmillref05_Number.l0 k i (bs (dig (m % 10) :: s)) (Int.tdiv n 10)) (fun k => num_step i m n hn hm s (by omega) k) ?_
    rw [hq]
    exact Ev.of (fun k => (gristmillref05_Number.mono_l k).1 i _ _) (k := 2) (num_end i _ (by simp) (by simp; omega) 0)
  · have hd : Lib.decDigits m = Lib.decDigits (m / 10) ++ [dig (m % 10)] := by
      conv => lhs; rw [Lib.decDigits]
      rw [dif_neg h10]
      rfl
    rw [hd] at hs ⊢
    simp only [List.length_append, List.length_cons, List.length_nil] at hs
    refine Ev.step (f := fun k => gristmillref05_Number.j1 k i (bs s) n true) (fun k => by simp only [gristmillref05_Number.l0]; rw [if_neg hn0]) ?_
    refine Ev.step (f := fun k => gristmillref05_Number.l0 k i (bs (dig (m % 10) :: s)) (Int.tdiv n 10)) (fun k => num_step i m n hn hm s (by omega) k) ?_
    have hq : Int.tdiv n 10 = ((m / 10 : Nat) : Int) ∨ Int.tdiv n 10 = -((m / 10 : Nat) : Int) := by
      rcases hn with rfl | rfl
      · exact .inl rfl
      · refine .inr ?_
        rw [Int.neg_tdiv]
        rfl
    have := ih (m / 10) (by omega) (by omega) (Int.tdiv n 10) (dig (m % 10) :: s) hq (by omega) (by simp only [List.length_cons]; omega)
    rw [List.append_assoc]
    exact this
theorem num_ref (i : Int) (h0 : -9223372036854775808 ≤ i) (h1 : i ≤ 9223372036854775807) : Ev (fun k => gristmillref05_Number.f k i) (bs (Lib.itoa i)) := by
  have hlen := Lib.itoa_length_le i h0 h1
  by_cases hz : i = 0
  · subst hz
    refine Ev.of (fun k => gristmillref05_Number.mono 0 k) (k := 5) ?_
    unfold gristmillref05_Number.f
    rw [show (5 : Nat) = 4 + 1 from rfl]
    simp only [gristmillref05_Number.l0, if_true]
    have hb : ((⟨#[]⟩ : ByteArray).toList == ([] : List UInt8)) = true := by
      rw [ByteArray.toList_eq]
      rfl
    rw [hb]
    have := num_step 0 0 0 (.inl rfl) (by omega) [] (by simp) 3
    refine Eq.trans this ?_
    have hi : Lib.itoa 0 = [dig 0] := by
      unfold Lib.itoa
      rw [if_neg (by omega), Lib.decDigits]
      rfl
    rw [hi]
    exact num_end 0 [dig 0] (by simp) (by simp) 1
  · have h := num_loop i i.natAbs (by omega) i [] (by omega) (by omega) (by
      unfold Lib.itoa at hlen
      split at hlen
      · simp only [List.length_cons, List.length_nil] at hlen ⊢; omega
      · have : i.natAbs = i.toNat := by omega
        rw [this]
        simp only [List.length_nil]
        omega)
    have e : signed i (Lib.decDigits i.natAbs ++ []) = Lib.itoa i := by
      unfold signed Lib.itoa
      rw [List.append_nil]
      split
      · rfl
      · have : i.natAbs = i.toNat := by omega
        rw [this]
    rw [e] at h
    exact h
theorem num_calls (i : Int) (h0 : -9223372036854775808 ≤ i) (h1 : i ≤ 9223372036854775807) (w : World) : Calls Tryd.prog 33 #[.int .i64 i] w fun e w' => e = .returned (.string (bs (Lib.itoa i))) ∧ Below w.heap.size w w' := by
  obtain ⟨k, h⟩ := (num_ref i h0 h1).rounds
  exact (gristmillref05_Number.calls k i _ w h).mono fun e w' ⟨he, hd⟩ => ⟨he, by obtain ⟨q, rfl⟩ := hd.out; exact pw_below_drewN (Below.refl _ _) q⟩
end Go.Proofs.YtcklemjmenifpaaDoor.Fn
