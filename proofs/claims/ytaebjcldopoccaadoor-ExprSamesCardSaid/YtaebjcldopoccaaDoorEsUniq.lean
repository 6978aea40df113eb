/- Two expressions that may be have one text just if they are the same. No Go and no memory here. -/
import Derived.Test.YtaebjcldopoccaaDoorEsSame
set_option linter.unusedVariables false
set_option linter.unusedSimpArgs false
namespace Go.Proofs.YtaebjcldopoccaaDoor.EsSame
open Go.RowKit Go.Proofs.YtaebjcldopoccaaDoorW.PrintWords Go.Proofs.YtaebjcldopoccaaDoorW.PrintLast Go.Proofs.YtaebjcldopoccaaDoorW.PrintMore Go.Proofs.YtaebjcldopoccaaDoor.Es Go.Proofs.YtaebjcldopoccaaDoor.EsIter Go.Proofs.YtaebjcldopoccaaDoor.EsLaw Go.Proofs.YtaebjcldopoccaaDoor.EsText Go.Proofs.YtaebjcldopoccaaDoor.EsTextC Go.Proofs.YtaebjcldopoccaaDoor.EsRefT Go.Proofs.YtaebjcldopoccaaDoor.EsLawS

/-! ### signs -/
def isNum (c : UInt8) : Bool := c.toNat == 45 || (48 ≤ c.toNat && c.toNat ≤ 57)
def isLet (c : UInt8) : Bool := 97 ≤ c.toNat && c.toNat ≤ 122
/-- What may follow a text. -/
def stop (r : List UInt8) : Prop := ∀ c t, r = c :: t → c = 32 ∨ c = 41
theorem span_eq {P : UInt8 → Bool} : ∀ {a b r s : List UInt8}, (∀ c ∈ a, P c = true) → (∀ c ∈ b, P c = true) → (∀ c t, r = c :: t → P c = false) → (∀ c t, s = c :: t → P c = false) → a ++ r = b ++ s → a = b ∧ r = s
  | [], [], r, s, _, _, _, _, h => ⟨rfl, h⟩
  | [], d :: b, r, s, _, hb, hr, _, h => by
    have := hr d (b ++ s) h
    rw [hb d List.mem_cons_self] at this
    cases this
  | c :: a, [], r, s, ha, _, _, hs, h => by
    have := hs c (a ++ r) h.symm
    rw [ha c List.mem_cons_self] at this
    cases this
  | c :: a, d :: b, r, s, ha, hb, hr, hs, h => by
    injection h with h1 h2
    obtain ⟨h3, h4⟩ := span_eq (fun x hx => ha x (List.mem_cons_of_mem _ hx)) (fun x hx => hb x (List.mem_cons_of_mem _ hx)) hr hs h2
    exact ⟨by rw [h1, h3], h4⟩

/-! ### numbers -/
def valD (l : List UInt8) : Nat := l.foldl (fun a c => 10 * a + (c.toNat - 48)) 0
theorem dig_nat (d : Nat) (h : d < 10) : (UInt8.ofNat (48 + d)).toNat = 48 + d := by
  rw [UInt8.toNat_ofNat']
  omega
theorem val_dec (n : Nat) : valD (Lib.decDigits n) = n := by
  induction n using Nat.strongRecOn with
  | _ n ih =>
  rw [Lib.decDigits]
  by_cases h : n < 10
  · rw [dif_pos h]
    unfold valD
    simp only [List.foldl_cons, List.foldl_nil, dig_nat n h]
    omega
  · rw [dif_neg h]
    have := ih (n / 10) (by omega)
    unfold valD at this ⊢
    rw [List.foldl_append, this]
    simp only [List.foldl_cons, List.foldl_nil, dig_nat (n % 10) (by omega)]
    omega
theorem dec_digits (n : Nat) : ∀ c ∈ Lib.decDigits n, 48 ≤ c.toNat ∧ c.toNat ≤ 57 := by
  induction n using Nat.strongRecOn with
  | _ n ih =>
  intro c hc
  rw [Lib.decDigits] at hc
  by_cases h : n < 10
  · rw [dif_pos h] at hc
    rw [List.mem_singleton.1 hc, dig_nat n h]
    omega
  · rw [dif_neg h] at hc
    rcases List.mem_append.1 hc with hc | hc
    · exact ih (n / 10) (by omega) c hc
    · rw [List.mem_singleton.1 hc, dig_nat (n % 10) (by omega)]
      omega
theorem dec_ne (n : Nat) : Lib.decDigits n ≠ [] := by
  rw [Lib.decDigits]
  split <;> simp
theorem itoa_num (n : Int) : ∀ c ∈ Lib.itoa n, isNum c = true := by
  intro c hc
  have hd : ∀ m, c ∈ Lib.decDigits m → isNum c = true := by
    intro m hm
    have := dec_digits m c hm
    simp [isNum, this.1, this.2]
  unfold Lib.itoa at hc
  split at hc
  · rcases List.mem_cons.1 hc with h | h
    · rw [h]; rfl
    · exact hd _ h
  · exact hd _ hc
theorem itoa_ne (n : Int) : Lib.itoa n ≠ [] := by
  unfold Lib.itoa
  split
  · simp
  · exact dec_ne _
theorem itoa_inj {n m : Int} (h : Lib.itoa n = Lib.itoa m) : n = m := by
  have hd : ∀ {a b : Nat}, Lib.decDigits a = Lib.decDigits b → a = b := fun {a b} e => by rw [← val_dec a, e, val_dec]
  have hx : ∀ {a b : Nat}, 45 :: Lib.decDigits a ≠ Lib.decDigits b := by
    intro a b e
    have := dec_digits b 45 (by rw [← e]; exact List.mem_cons_self)
    have h45 : (45 : UInt8).toNat = 45 := rfl
    omega
  unfold Lib.itoa at h
  split at h <;> split at h
  · injection h with _ h
    have := hd h
    omega
  · exact absurd h hx
  · exact absurd h.symm hx
  · have := hd h
    omega

/-! ### names -/
theorem names_let : ∀ o : Fin 28, (nameS (o.val : Int)).all isLet = true := by decide +kernel
theorem names_ne : ∀ o : Fin 28, (nameS (o.val : Int)).isEmpty = false := by decide +kernel
theorem names_inj : ∀ o p : Fin 28, nameS (o.val : Int) = nameS (p.val : Int) → o = p := by decide +kernel
theorem name_let {o : Int} (h0 : 0 ≤ o) (h1 : o ≤ 27) : ∀ c ∈ nameS o, isLet c = true := by
  have := names_let ⟨o.toNat, by omega⟩
  rw [show ((⟨o.toNat, by omega⟩ : Fin 28).val : Int) = o by simp; omega] at this
  exact List.all_eq_true.1 this
theorem name_ne {o : Int} (h0 : 0 ≤ o) (h1 : o ≤ 27) : nameS o ≠ [] := by
  have := names_ne ⟨o.toNat, by omega⟩
  rw [show ((⟨o.toNat, by omega⟩ : Fin 28).val : Int) = o by simp; omega] at this
  intro h
  rw [h] at this
  cases this
theorem name_inj {o p : Int} (h0 : 0 ≤ o) (h1 : o ≤ 27) (p0 : 0 ≤ p) (p1 : p ≤ 27) (h : nameS o = nameS p) : o = p := by
  have := names_inj ⟨o.toNat, by omega⟩ ⟨p.toNat, by omega⟩
  rw [show ((⟨o.toNat, by omega⟩ : Fin 28).val : Int) = o by simp; omega, show ((⟨p.toNat, by omega⟩ : Fin 28).val : Int) = p by simp; omega] at this
  have := congrArg Fin.val (this h)
  simp at this
  omega

/-! ### texts in marks -/
theorem hexd_inj : ∀ a b : Fin 16, En.hexd a.val = En.hexd b.val → a = b := by decide +kernel
theorem byte_of {c d : UInt8} (h1 : En.hexd (c.toNat / 16) = En.hexd (d.toNat / 16)) (h2 : En.hexd (c.toNat % 16) = En.hexd (d.toNat % 16)) : c = d := by
  have hc := c.toNat_lt
  have hd := d.toNat_lt
  have e1 := congrArg Fin.val (hexd_inj ⟨c.toNat / 16, by omega⟩ ⟨d.toNat / 16, by omega⟩ h1)
  have e2 := congrArg Fin.val (hexd_inj ⟨c.toNat % 16, by omega⟩ ⟨d.toNat % 16, by omega⟩ h2)
  simp at e1 e2
  apply UInt8.toNat_inj.1
  omega
/-- What a byte is put as: itself, or behind a stroke. -/
theorem qb_cases (c : UInt8) : (En.qb c = [c] ∧ c ≠ 34 ∧ c ≠ 92) ∨ (En.qb c = [92, c] ∧ (c = 34 ∨ c = 92)) ∨ En.qb c = [92, 120, En.hexd (c.toNat / 16), En.hexd (c.toNat % 16)] := by
  unfold En.qb
  by_cases h1 : c.toNat = 34
  · rw [if_pos h1]
    exact .inr (.inl ⟨rfl, .inl (UInt8.toNat_inj.1 h1)⟩)
  · rw [if_neg h1]
    by_cases h2 : c.toNat = 92
    · rw [if_pos h2]
      exact .inr (.inl ⟨rfl, .inr (UInt8.toNat_inj.1 h2)⟩)
    · rw [if_neg h2]
      split
      · exact .inr (.inr rfl)
      · split
        · exact .inr (.inr rfl)
        · exact .inl ⟨rfl, fun e => h1 (by rw [e]; rfl), fun e => h2 (by rw [e]; rfl)⟩
theorem qb_inj {c d : UInt8} {r s : List UInt8} (h : En.qb c ++ r = En.qb d ++ s) : c = d ∧ r = s := by
  rcases qb_cases c with ⟨e, c1, c2⟩ | ⟨e, c1⟩ | e <;> rcases qb_cases d with ⟨f, d1, d2⟩ | ⟨f, d1⟩ | f <;> rw [e, f] at h <;> simp only [List.cons_append, List.nil_append, List.cons.injEq] at h
  · exact h
  · exact absurd h.1 c2
  · exact absurd h.1 c2
  · exact absurd h.1.symm d2
  · exact ⟨h.2.1, h.2.2⟩
  · rcases c1 with rfl | rfl
    · exact absurd h.2.1 (by decide)
    · exact absurd h.2.1 (by decide)
  · exact absurd h.1.symm d2
  · rcases d1 with rfl | rfl
    · exact absurd h.2.1.symm (by decide)
    · exact absurd h.2.1.symm (by decide)
  · exact ⟨byte_of h.2.2.1 h.2.2.2.1, h.2.2.2.2⟩
theorem qb_head (c : UInt8) : ∃ d t, En.qb c = d :: t ∧ d ≠ 34 := by
  rcases qb_cases c with ⟨e, c1, _⟩ | ⟨e, _⟩ | e
  · exact ⟨c, [], e, c1⟩
  · exact ⟨92, [c], e, by decide⟩
  · exact ⟨92, _, e, by decide⟩
theorem qbs_inj : ∀ {a b r s : List UInt8}, En.qbs a ++ 34 :: r = En.qbs b ++ 34 :: s → a = b ∧ r = s
  | [], [], r, s, h => by
    simp only [En.qbs, List.flatMap_nil, List.nil_append, List.cons.injEq, true_and] at h
    exact ⟨rfl, h⟩
  | [], d :: b, r, s, h => by
    obtain ⟨x, t, e, hx⟩ := qb_head d
    simp only [En.qbs, List.flatMap_nil, List.nil_append, List.flatMap_cons, e, List.cons_append, List.append_assoc] at h
    injection h with h _
    exact absurd h.symm hx
  | c :: a, [], r, s, h => by
    obtain ⟨x, t, e, hx⟩ := qb_head c
    simp only [En.qbs, List.flatMap_nil, List.nil_append, List.flatMap_cons, e, List.cons_append, List.append_assoc] at h
    injection h with h _
    exact absurd h hx
  | c :: a, d :: b, r, s, h => by
    have h' : En.qb c ++ (En.qbs a ++ 34 :: r) = En.qb d ++ (En.qbs b ++ 34 :: s) := by
      simpa only [En.qbs, List.flatMap_cons, List.append_assoc] using h
    obtain ⟨h1, h2⟩ := qb_inj h'
    obtain ⟨h3, h4⟩ := qbs_inj h2
    exact ⟨by rw [h1, h3], h4⟩
theorem quote_inj {a b : ByteArray} {r s : List UInt8} (h : En.quoteS a ++ r = En.quoteS b ++ s) : a = b ∧ r = s := by
  unfold En.quoteS at h
  simp only [List.cons_append, List.append_assoc, List.cons.injEq, true_and, List.nil_append] at h
  obtain ⟨h1, h2⟩ := qbs_inj h
  refine ⟨?_, h2⟩
  apply ByteArray.ext
  exact Array.toList_inj.1 h1

/-! ### texts -/
/-- What a text begins with: 0 a number, 1 a mark, 2 a letter, 3 a bracket. -/
def cls (c : UInt8) : Nat := if c = 34 then 1 else if c = 40 then 3 else if isLet c then 2 else 0
def clS : S35 → Nat
  | ⟨o, v, l⟩ => if o = 0 then (if v.f0 = 0 then 0 else 1) else if l.length = 0 then 2 else 3
theorem arity_op {o : Int} {n : Nat} (h : arityS o = (n : Int)) : 0 ≤ o ∧ o ≤ 27 ∧ (o = 0 → n = 0) := by
  unfold arityS at h
  by_cases h0 : o < 0 ∨ 27 < o
  · rw [if_pos h0] at h
    omega
  · rw [if_neg h0] at h
    refine ⟨by omega, by omega, fun e => ?_⟩
    rw [e, if_pos (by omega)] at h
    omega
theorem cls_num {c : UInt8} (h : isNum c = true) : cls c = 0 := by
  have hc := c.toNat_lt
  simp only [isNum, Bool.or_eq_true, Bool.and_eq_true, beq_iff_eq, decide_eq_true_eq] at h
  unfold cls
  rw [if_neg (fun e => by rw [e] at h; revert h; decide), if_neg (fun e => by rw [e] at h; revert h; decide), if_neg (by simp only [isLet, Bool.and_eq_true, decide_eq_true_eq]; omega)]
theorem cls_let {c : UInt8} (h : isLet c = true) : cls c = 2 := by
  unfold cls
  rw [if_neg (fun e => by rw [e] at h; revert h; decide), if_neg (fun e => by rw [e] at h; revert h; decide), if_pos h]
theorem text_head (o : Int) (v : S32) (l : List S35) (h : arityS o = (l.length : Int)) : ∃ c t, textS ⟨o, v, l⟩ = c :: t ∧ cls c = clS ⟨o, v, l⟩ := by
  obtain ⟨o0, o1, oz⟩ := arity_op h
  simp only [textS, clS]
  by_cases h0 : o = 0
  · rw [if_pos h0, if_pos h0]
    by_cases h1 : v.f0 = 0
    · rw [if_pos h1, if_pos h1]
      cases hi : Lib.itoa v.f1 with
      | nil => exact absurd hi (itoa_ne _)
      | cons c t => exact ⟨c, t, rfl, cls_num (itoa_num v.f1 c (by rw [hi]; exact List.mem_cons_self))⟩
    · rw [if_neg h1, if_neg h1]
      exact ⟨34, _, rfl, rfl⟩
  · rw [if_neg h0, if_neg h0]
    by_cases h1 : l.length = 0
    · rw [if_pos h1, if_pos h1]
      cases hi : nameS o with
      | nil => exact absurd hi (name_ne o0 o1)
      | cons c t => exact ⟨c, t, rfl, cls_let (name_let o0 o1 c (by rw [hi]; exact List.mem_cons_self))⟩
    · rw [if_neg h1, if_neg h1]
      exact ⟨40, _, rfl, rfl⟩
theorem stop_num {r : List UInt8} (h : stop r) : ∀ c t, r = c :: t → isNum c = false := by
  intro c t e
  rcases h c t e with rfl | rfl <;> rfl
theorem stop_let {r : List UInt8} (h : stop r) : ∀ c t, r = c :: t → isLet c = false := by
  intro c t e
  rcases h c t e with rfl | rfl <;> rfl
theorem texts_stop (l : List S35) (r : List UInt8) : stop (textsS l ++ 41 :: r) := by
  intro c t e
  cases l with
  | nil =>
    simp only [textsS, List.nil_append] at e
    injection e with e _
    exact .inr e.symm
  | cons a s =>
    simp only [textsS, List.cons_append] at e
    injection e with e _
    exact .inl e.symm
theorem ok_kids {o : Int} {v : S32} {l : List S35} (h : (preS ⟨o, v, l⟩).all okB = true) : arityS o = (l.length : Int) ∧ ∀ a, a ∈ l → (preS a).all okB = true := by
  simp only [preS, List.all_cons, Bool.and_eq_true] at h
  obtain ⟨h1, h2⟩ := h
  refine ⟨by unfold okB at h1; simpa using h1, ?_⟩
  clear h1
  induction l with
  | nil => intro a ha; cases ha
  | cons b t ih =>
    simp only [presS, List.all_append, Bool.and_eq_true] at h2
    intro a ha
    rcases List.mem_cons.1 ha with rfl | ha
    · exact h2.1
    · exact ih h2.2 a ha
theorem text_inj (x : S35) : (preS x).all okB = true → ∀ y, (preS y).all okB = true → ∀ r s : List UInt8, stop r → stop s → textS x ++ r = textS y ++ s → sameS x y = true ∧ r = s := by
  induction x using tree_ind with
  | h o v l ih =>
  intro hx y hy r s hr hs h
  obtain ⟨p, u, m⟩ := y
  obtain ⟨ax, kx⟩ := ok_kids hx
  obtain ⟨ay, ky⟩ := ok_kids hy
  clear hx hy
  obtain ⟨o0, o1, oz⟩ := arity_op ax
  obtain ⟨p0, p1, pz⟩ := arity_op ay
  obtain ⟨c, t, ec, hc⟩ := text_head o v l ax
  obtain ⟨d, t', ed, hd⟩ := text_head p u m ay
  have hcd : clS ⟨o, v, l⟩ = clS ⟨p, u, m⟩ := by
    rw [← hc, ← hd]
    rw [ec, ed] at h
    injection h with h _
    rw [h]
  clear ec ed hc hd
  simp only [clS] at hcd
  simp only [textS] at h
  simp only [sameS]
  by_cases h0 : o = 0
  · rw [if_pos h0] at h hcd
    have hl : l = [] := List.length_eq_zero_iff.1 (oz h0)
    by_cases h1 : v.f0 = 0
    · rw [if_pos h1] at h hcd
      have g0 : p = 0 := by
        by_cases g : p = 0
        · exact g
        · rw [if_neg g] at hcd
          split at hcd <;> cases hcd
      rw [if_pos g0] at h hcd
      have g1 : u.f0 = 0 := by
        by_cases g : u.f0 = 0
        · exact g
        · rw [if_neg g] at hcd
          cases hcd
      rw [if_pos g1] at h
      have hm : m = [] := List.length_eq_zero_iff.1 (pz g0)
      obtain ⟨e1, e2⟩ := span_eq (itoa_num _) (itoa_num _) (stop_num hr) (stop_num hs) h
      refine ⟨?_, e2⟩
      rw [if_pos h0, sameV_num h1 g1, decide_eq_true (itoa_inj e1), decide_eq_true (h0.trans g0.symm), hl, hm]
      rfl
    · rw [if_neg h1] at h hcd
      have g0 : p = 0 := by
        by_cases g : p = 0
        · exact g
        · rw [if_neg g] at hcd
          split at hcd <;> cases hcd
      rw [if_pos g0] at h hcd
      have g1 : u.f0 ≠ 0 := by
        intro g
        rw [if_pos g] at hcd
        cases hcd
      rw [if_neg g1] at h
      have hm : m = [] := List.length_eq_zero_iff.1 (pz g0)
      obtain ⟨e1, e2⟩ := quote_inj h
      refine ⟨?_, e2⟩
      rw [if_pos h0, sameV_str h1 g1, decide_eq_true e1, decide_eq_true (h0.trans g0.symm), hl, hm]
      rfl
  · rw [if_neg h0] at h hcd
    have g0 : p ≠ 0 := by
      intro g
      rw [if_pos g] at hcd
      split at hcd <;> split at hcd <;> cases hcd
    rw [if_neg g0] at h hcd
    rw [if_neg h0, Bool.true_and]
    by_cases h1 : l.length = 0
    · rw [if_pos h1] at h hcd
      have g1 : m.length = 0 := by
        by_cases g : m.length = 0
        · exact g
        · rw [if_neg g] at hcd
          cases hcd
      rw [if_pos g1] at h
      obtain ⟨e1, e2⟩ := span_eq (name_let o0 o1) (name_let p0 p1) (stop_let hr) (stop_let hs) h
      refine ⟨?_, e2⟩
      rw [decide_eq_true (name_inj o0 o1 p0 p1 e1), List.length_eq_zero_iff.1 h1, List.length_eq_zero_iff.1 g1]
      rfl
    · rw [if_neg h1] at h hcd
      have g1 : ¬ m.length = 0 := by
        intro g
        rw [if_pos g] at hcd
        cases hcd
      rw [if_neg g1] at h
      simp only [List.cons_append, List.append_assoc, List.cons.injEq, true_and, List.nil_append] at h
      obtain ⟨e1, e2⟩ := span_eq (name_let o0 o1) (name_let p0 p1) (stop_let (texts_stop l r)) (stop_let (texts_stop m s)) h
      have eo := name_inj o0 o1 p0 p1 e1
      have hlen : l.length = m.length := by
        rw [eo, ay] at ax
        omega
      have key : ∀ (rest rest' : List S35), (∀ a, a ∈ rest → a ∈ l) → (∀ a, a ∈ rest' → a ∈ m) → rest.length = rest'.length → textsS rest ++ 41 :: r = textsS rest' ++ 41 :: s → samesS rest rest' = true ∧ r = s := by
        intro rest
        induction rest with
        | nil =>
          intro rest' _ _ he hh
          have : rest' = [] := List.length_eq_zero_iff.1 he.symm
          subst this
          simp only [textsS, List.nil_append, List.cons.injEq, true_and] at hh
          exact ⟨rfl, hh⟩
        | cons a t iht =>
          intro rest' hm1 hm2 he hh
          cases rest' with
          | nil => simp at he
          | cons b q =>
            simp only [textsS, List.cons_append, List.append_assoc, List.cons.injEq, true_and] at hh
            obtain ⟨k1, k2⟩ := ih a (hm1 a List.mem_cons_self) (kx a (hm1 a List.mem_cons_self)) b (ky b (hm2 b List.mem_cons_self)) _ _ (texts_stop t r) (texts_stop q s) hh
            obtain ⟨k3, k4⟩ := iht q (fun z hz => hm1 z (List.mem_cons_of_mem _ hz)) (fun z hz => hm2 z (List.mem_cons_of_mem _ hz)) (by simpa using he) k2
            exact ⟨by simp only [samesS, k1, k3, Bool.and_self], k4⟩
      obtain ⟨k1, k2⟩ := key l m (fun _ h => h) (fun _ h => h) hlen e2
      exact ⟨by rw [decide_eq_true eo, k1]; rfl, k2⟩
theorem same_text (x : S35) : ∀ y, sameS x y = true → textS x = textS y := by
  induction x using tree_ind with
  | h o v l ih =>
  intro y h
  obtain ⟨p, u, m⟩ := y
  simp only [sameS, Bool.and_eq_true, decide_eq_true_eq] at h
  obtain ⟨h1, h2, h3⟩ := h
  subst h1
  have hl := sames_len h3
  have key : ∀ (rest rest' : List S35), (∀ a, a ∈ rest → a ∈ l) → samesS rest rest' = true → textsS rest = textsS rest' := by
    intro rest
    induction rest with
    | nil =>
      intro rest' _ he
      cases rest' with
      | nil => rfl
      | cons b q => simp [samesS] at he
    | cons a t iht =>
      intro rest' hm he
      cases rest' with
      | nil => simp [samesS] at he
      | cons b q =>
        simp only [samesS, Bool.and_eq_true] at he
        simp only [textsS, ih a (hm a List.mem_cons_self) b he.1, iht q (fun z hz => hm z (List.mem_cons_of_mem _ hz)) he.2]
  simp only [textS, key l m (fun _ h => h) h3, hl]
  by_cases h0 : o = 0
  · rw [if_pos h0] at h2
    rw [if_pos h0, if_pos h0]
    by_cases h1 : v.f0 = 0
    · by_cases g1 : u.f0 = 0
      · rw [sameV_num h1 g1, decide_eq_true_eq] at h2
        rw [if_pos h1, if_pos g1, h2]
      · rw [sameV_l h1 g1] at h2
        cases h2
    · by_cases g1 : u.f0 = 0
      · rw [sameV_r h1 g1] at h2
        cases h2
      · rw [sameV_str h1 g1, decide_eq_true_eq] at h2
        rw [if_neg h1, if_neg g1, h2]
  · rw [if_neg h0, if_neg h0]
theorem rv_ok {x : S35} (h : rv x = 0) : (preS x).all okB = true := by
  unfold rv rightS endS at h
  split at h
  · cases h
  · split at h
    · cases h
    · cases hk : (preS x).all okB
      · rw [hk] at h
        cases h
      · rfl
/-- Two that may be have one text just if they are the same. -/
theorem text_same {x y : S35} (hx : rv x = 0) (hy : rv y = 0) : (textS x = textS y) ↔ sameS x y = true := by
  refine ⟨fun h => ?_, same_text x y⟩
  exact (text_inj x (rv_ok hx) y (rv_ok hy) [] [] (fun c t e => by cases e) (fun c t e => by cases e) (by rw [h])).1
end Go.Proofs.YtaebjcldopoccaaDoor.EsSame
