/- What job.Right hands back, by its walk. -/
import Derived.Test.YtejeaiplbhgfdaaCkRight
import Derived.Test.YtejeaiplbhgfdaaCkx5
import Derived.WalkLawsBesides
import Derived.WalkSpells
namespace Go.Proofs.Ytejeaiplbhgfdaa.CkIter
open Go.RowKit Go.Shelf Go.Proofs.YtejeaiplbhgfdaaW.PrintWords Go.Proofs.Ytejeaiplbhgfdaa.Ck

/-! ### depths -/
mutual
def deepS : S26 → Int
  | ⟨_, _, l⟩ => deepsS 0 l + 1
def deepsS (n : Int) : List S26 → Int
  | [] => n
  | a :: t => deepsS (mx n (deepS a)) t
end
theorem rd_at (pre rest : List S26) (a : S26) : rd_T26 (pre ++ a :: rest) (pre.length : Int) = a := by
  unfold rd_T26
  rw [Int.toNat_natCast, List.getD_eq_getElem?_getD, List.getElem?_append_right (Nat.le_refl _)]
  simp
theorem wrap_nat {n : Nat} (h : n < 9223372036854775807) : wrap64 ((n : Int) + 1) = ((n + 1 : Nat) : Int) := by
  unfold wrap64
  omega
theorem ev_here {α : Type} {g : Nat → Option α} {r : α} (h : ∀ k, g (k + 1) = some r) : Ev g r := Ev.step (f := fun _ => some r) h (Ev.now r)
theorem deep_ev (x : S26) : (preS x).length < 9223372036854775807 → Ev (fun k => expr_Deep.f k x.f0 x.f1.f0 x.f1.f1 x.f1.f2 x.f2) (deepS x) ∧ 0 ≤ deepS x ∧ deepS x ≤ ((preS x).length : Int) := by
  induction x using tree_ind with
  | h o v l ih =>
  intro hsz
  simp only [preS, List.length_cons] at hsz ⊢
  have hll : l.length ≤ (presS l).length := by
    clear ih hsz
    induction l with
    | nil => simp [presS]
    | cons a t iht =>
      have : 1 ≤ (preS a).length := by cases a; simp [preS]
      simp only [presS, List.length_append, List.length_cons]
      omega
  have key : ∀ (rest pre : List S26) (n : Int), l = pre ++ rest → 0 ≤ n → n ≤ ((presS l).length : Int) →
      Ev (fun k => expr_Deep.l0 k n l (l.length : Int) (pre.length : Int)) (deepsS n rest + 1) ∧ 0 ≤ deepsS n rest ∧ deepsS n rest ≤ ((presS l).length : Int) := by
    intro rest
    induction rest with
    | nil =>
      intro pre n hp n0 n1
      rw [List.append_nil] at hp
      subst hp
      refine ⟨ev_here fun k => ?_, n0, n1⟩
      simp only [expr_Deep.l0]
      rw [if_neg (by omega)]
      have : wrap64 (n + 1) = n + 1 := by unfold wrap64; omega
      rw [this]
      rfl
    | cons a t iht =>
      intro pre n hp n0 n1
      have hlen : l.length = pre.length + (t.length + 1) := by rw [hp]; simp
      have hpa : (preS a).length ≤ (presS l).length := by rw [hp, presS_append]; simp only [presS, List.length_append]; omega
      obtain ⟨e1, e2, e3⟩ := ih a (by rw [hp]; simp) (by omega)
      have hm0 : 0 ≤ mx n (deepS a) := by unfold mx; split <;> omega
      have hm1 : mx n (deepS a) ≤ ((presS l).length : Int) := by unfold mx; split <;> omega
      obtain ⟨d1, d2, d3⟩ := iht (pre ++ [a]) (mx n (deepS a)) (by rw [hp]; simp) hm0 hm1
      refine ⟨Ev.step (f := fun k => (expr_Deep.f k a.f0 a.f1.f0 a.f1.f1 a.f1.f2 a.f2).bind fun t104 => expr_Deep.l0 k (mx n t104) l (l.length : Int) ((pre ++ [a]).length : Int)) (fun k => ?_) (Ev.bind e1 d1), d2, d3⟩
      simp only [expr_Deep.l0]
      rw [if_pos (by omega), if_pos (by omega), if_pos (by omega)]
      have hrd : rd_T26 l (pre.length : Int) = a := by rw [hp]; exact rd_at pre t a
      rw [hrd, wrap_nat (by omega)]
      simp
  obtain ⟨d1, d2, d3⟩ := key l [] 0 rfl (by omega) (by omega)
  refine ⟨Ev.step (fun k => by simp only [expr_Deep.f]; rfl) d1, ?_, ?_⟩
  · simp only [deepS]; omega
  · simp only [deepS]; omega

/-! ### the first error of some expressions -/
def rv (x : S26) : Int := rightS x (deepS x)
def firstErr : List S26 → Int
  | [] => 0
  | x :: t => if rv x = 0 then firstErr t else rv x
theorem firstErr_ok {a : List S26} (h : firstErr a = 0) (b : List S26) : firstErr (a ++ b) = firstErr b := by
  induction a with
  | nil => rfl
  | cons x t ih =>
    by_cases hx : rv x = 0
    · have h1 : firstErr (x :: t) = firstErr t := if_pos hx
      have h2 : firstErr ((x :: t) ++ b) = firstErr (t ++ b) := if_pos hx
      rw [h2, ih (h1 ▸ h)]
    · have h1 : firstErr (x :: t) = rv x := if_neg hx
      exact absurd (h1 ▸ h) hx
theorem firstErr_bad {a : List S26} (h : firstErr a ≠ 0) (b : List S26) : firstErr (a ++ b) = firstErr a := by
  induction a with
  | nil => exact absurd rfl h
  | cons x t ih =>
    by_cases hx : rv x = 0
    · have h1 : firstErr (x :: t) = firstErr t := if_pos hx
      have h2 : firstErr ((x :: t) ++ b) = firstErr (t ++ b) := if_pos hx
      rw [h2, h1, ih (h1 ▸ h)]
    · have h1 : firstErr (x :: t) = rv x := if_neg hx
      have h2 : firstErr ((x :: t) ++ b) = rv x := if_neg hx
      rw [h1, h2]
theorem firstErr_at {a b : List S26} {x : S26} (ha : firstErr a = 0) (hx : rv x ≠ 0) : firstErr (a ++ x :: b) = rv x := by
  rw [firstErr_ok ha]
  exact if_neg hx
theorem firstErr_one (x : S26) : firstErr [x] = rv x := by
  by_cases hx : rv x = 0
  · rw [hx]; exact if_pos hx
  · exact if_neg hx
theorem firstErr_snoc {a : List S26} {x : S26} (ha : firstErr a = 0) : firstErr (a ++ [x]) = rv x := by rw [firstErr_ok ha, firstErr_one]
def three (m : S47) : List S26 := [m.f0, m.f1, m.f2]
def threes : List S47 → List S26
  | [] => []
  | m :: t => three m ++ threes t
theorem threes_append (a b : List S47) : threes (a ++ b) = threes a ++ threes b := by
  induction a with
  | nil => rfl
  | cons m t ih => simp only [List.cons_append, threes, ih, List.append_assoc]
theorem threes_take (l : List S47) (k : Nat) (h : k < l.length) : threes (l.take (k + 1)) = threes (l.take k) ++ three l[k] := by
  rw [List.take_succ_eq_append_getElem h, threes_append]
  simp [threes]

/-- expr.Right at an expression whose parts can be counted. -/
theorem rv_calls (d : Nd) (hsz : (preS d.x).length < 9223372036854775807) (w : World) (hC : Kd.C k26 w d.A d.x.f2.length d.x.f2) (hc : d.x.f2.length ≤ d.c) :
    Calls Try.prog 34 #[.agg #[.int .i64 d.x.f0, .int .u8 d.x.f1.f0, .int .i64 d.x.f1.f1, .string d.x.f1.f2, .slice d.A d.x.f2.length d.c]] w fun e W' => e = .returned (.int .i64 (rv d.x)) ∧ Below w.heap.size w W' := by
  obtain ⟨k, h⟩ := (deep_ev d.x hsz).1.rounds
  exact Right_calls d w hC hc hsz k _ h

/-- The box of a job. -/
def JB (W : World) (B : Nat) (nm : ByteArray) (ea : Int) (A2 : Option Addr) (c2 : Nat) (em : List S47) (fo : Int) (fin : S26) (A8 : Option Addr) (c8 : Nat) (co : Bool) (pa : Int) : Prop := W.heap[B]? = some (.cells #[.string nm, .int .i64 ea, .slice A2 em.length c2, .int .i64 fo, .int .i64 fin.f0, .int .u8 fin.f1.f0, .int .i64 fin.f1.f1, .string fin.f1.f2, .slice A8 fin.f2.length c8, .bool co, .int .i64 pa] 38 (0, 0))

theorem JB.cells {W : World} {B : Nat} {nm : ByteArray} {ea : Int} {A2 : Option Addr} {c2 : Nat} {em : List S47} {fo : Int} {fin : S26} {A8 : Option Addr} {c8 : Nat} {co : Bool} {pa : Int} (h : JB W B nm ea A2 c2 em fo fin A8 c8 co pa) : W.cell? ⟨B, 0, none⟩ = some (.string nm) ∧ W.cell? ⟨B, 1, none⟩ = some (.int .i64 ea) ∧ W.cell? ⟨B, 2, none⟩ = some (.slice A2 em.length c2) ∧ W.cell? ⟨B, 3, none⟩ = some (.int .i64 fo) ∧ W.cell? ⟨B, 4, none⟩ = some (.int .i64 fin.f0) ∧ W.cell? ⟨B, 5, none⟩ = some (.int .u8 fin.f1.f0) ∧ W.cell? ⟨B, 6, none⟩ = some (.int .i64 fin.f1.f1) ∧ W.cell? ⟨B, 7, none⟩ = some (.string fin.f1.f2) ∧ W.cell? ⟨B, 8, none⟩ = some (.slice A8 fin.f2.length c8) ∧ W.cell? ⟨B, 9, none⟩ = some (.bool co) ∧ W.cell? ⟨B, 10, none⟩ = some (.int .i64 pa) := by
  unfold JB at h
  refine ⟨?_, ?_, ?_, ?_, ?_, ?_, ?_, ?_, ?_, ?_, ?_⟩ <;> simp [World.cell?, h]
theorem JB.below {W W' : World} {B : Nat} {nm : ByteArray} {ea : Int} {A2 : Option Addr} {c2 : Nat} {em : List S47} {fo : Int} {fin : S26} {A8 : Option Addr} {c8 : Nat} {co : Bool} {pa : Int} (h : JB W B nm ea A2 c2 em fo fin A8 c8 co pa) (hb : Below W.heap.size W W') : JB W' B nm ea A2 c2 em fo fin A8 c8 co pa := by
  unfold JB at h ⊢
  exact (hb.block B (Array.getElem?_eq_some_iff.1 h).1).trans h
theorem JB.drewN {W : World} {B : Nat} {nm : ByteArray} {ea : Int} {A2 : Option Addr} {c2 : Nat} {em : List S47} {fo : Int} {fin : S26} {A8 : Option Addr} {c8 : Nat} {co : Bool} {pa : Int} (h : JB W B nm ea A2 c2 em fo fin A8 c8 co pa) (q : Nat) : JB (W.drewN q) B nm ea A2 c2 em fo fin A8 c8 co pa := h
theorem word_drawn {k : Nat} {nm : ByteArray} {r : Bool} (h : job_word.f k nm = some r) (W : World) : Calls Try.prog 33 #[.string nm] W fun e W' => e = .returned (.bool r) ∧ ∃ q, W' = W.drewN q := (job_word.calls k nm r W h).mono fun _ _ ⟨he, hd⟩ => ⟨he, hd.out⟩

set_option maxRecDepth 100000 in
set_option maxHeartbeats 2000000 in
theorem jr_word (nm : ByteArray) (ea : Int) (A2 : Option Addr) (c2 : Nat) (em : List S47) (fo : Int) (fin : S26) (A8 : Option Addr) (c8 : Nat) (co : Bool) (pa : Int) (w : World) (kw : Nat) (wd : Bool) (hwd : job_word.f kw nm = some wd) (fn : ByteArray) (hfn : job_Fold.f fo = some fn) (h1 : wd = false) :
    Calls Try.prog 23 #[.agg #[.string nm, .int .i64 ea, .slice A2 em.length c2, .int .i64 fo, .int .i64 fin.f0, .int .u8 fin.f1.f0, .int .i64 fin.f1.f1, .string fin.f1.f2, .slice A8 fin.f2.length c8, .bool co, .int .i64 pa]] w fun e w' => e = .returned (.int .i64 3) ∧ Below w.heap.size w w' := by
  have HW := Aside0.mk (word_drawn hwd)
  have HF := Aside0.mk (fun W => job_Fold.calls fo fn W hfn)
  have bJ : JB (w.alloc (.cells #[.string nm, .int .i64 ea, .slice A2 em.length c2, .int .i64 fo, .int .i64 fin.f0, .int .u8 fin.f1.f0, .int .i64 fin.f1.f1, .string fin.f1.f2, .slice A8 fin.f2.length c8, .bool co, .int .i64 pa] 38)) w.heap.size nm ea A2 c2 em fo fin A8 c8 co pa := World.alloc_heap_new w _
  have HJ := Aside0.mk bJ
  have hb0 : Below w.heap.size w (w.alloc (.cells #[.string nm, .int .i64 ea, .slice A2 em.length c2, .int .i64 fo, .int .i64 fin.f0, .int .u8 fin.f1.f0, .int .i64 fin.f1.f1, .string fin.f1.f2, .slice A8 fin.f2.length c8, .bool co, .int .i64 pa] 38)) := (Below.refl _ w).alloc (Nat.le_refl _) _
  have HB := Aside0.mk hb0
  clear hwd hfn bJ hb0
  subst h1
  go_enter Try.func23, Try.ntmps23
  go_wp2_with (first | (go_at_call 33; refine (HW.out _).mono ?_; rintro e w1 ⟨rfl, q, rfl⟩))
  go_ret
  exact ⟨rfl, pw_below_drewN HB.out _⟩

set_option maxRecDepth 100000 in
set_option maxHeartbeats 2000000 in
theorem jr_each0 (nm : ByteArray) (ea : Int) (A2 : Option Addr) (c2 : Nat) (em : List S47) (fo : Int) (fin : S26) (A8 : Option Addr) (c8 : Nat) (co : Bool) (pa : Int) (w : World) (kw : Nat) (wd : Bool) (hwd : job_word.f kw nm = some wd) (fn : ByteArray) (hfn : job_Fold.f fo = some fn) (h1 : wd = true) (h2 : decide (ea < -1) = true) :
    Calls Try.prog 23 #[.agg #[.string nm, .int .i64 ea, .slice A2 em.length c2, .int .i64 fo, .int .i64 fin.f0, .int .u8 fin.f1.f0, .int .i64 fin.f1.f1, .string fin.f1.f2, .slice A8 fin.f2.length c8, .bool co, .int .i64 pa]] w fun e w' => e = .returned (.int .i64 8) ∧ Below w.heap.size w w' := by
  have HW := Aside0.mk (word_drawn hwd)
  have HF := Aside0.mk (fun W => job_Fold.calls fo fn W hfn)
  have bJ : JB (w.alloc (.cells #[.string nm, .int .i64 ea, .slice A2 em.length c2, .int .i64 fo, .int .i64 fin.f0, .int .u8 fin.f1.f0, .int .i64 fin.f1.f1, .string fin.f1.f2, .slice A8 fin.f2.length c8, .bool co, .int .i64 pa] 38)) w.heap.size nm ea A2 c2 em fo fin A8 c8 co pa := World.alloc_heap_new w _
  have HJ := Aside0.mk bJ
  have hb0 : Below w.heap.size w (w.alloc (.cells #[.string nm, .int .i64 ea, .slice A2 em.length c2, .int .i64 fo, .int .i64 fin.f0, .int .u8 fin.f1.f0, .int .i64 fin.f1.f1, .string fin.f1.f2, .slice A8 fin.f2.length c8, .bool co, .int .i64 pa] 38)) := (Below.refl _ w).alloc (Nat.le_refl _) _
  have HB := Aside0.mk hb0
  clear hwd hfn bJ hb0
  subst h1
  go_enter Try.func23, Try.ntmps23
  go_wp2_with (first | (go_at_call 33; refine (HW.out _).mono ?_; rintro e w1 ⟨rfl, q, rfl⟩))
  go_ret
  exact ⟨rfl, pw_below_drewN HB.out _⟩

set_option maxRecDepth 100000 in
set_option maxHeartbeats 2000000 in
theorem jr_each1 (nm : ByteArray) (ea : Int) (A2 : Option Addr) (c2 : Nat) (em : List S47) (fo : Int) (fin : S26) (A8 : Option Addr) (c8 : Nat) (co : Bool) (pa : Int) (w : World) (kw : Nat) (wd : Bool) (hwd : job_word.f kw nm = some wd) (fn : ByteArray) (hfn : job_Fold.f fo = some fn) (h1 : wd = true) (h2 : decide (ea < -1) = false) (h3 : decide (255 < ea) = true) :
    Calls Try.prog 23 #[.agg #[.string nm, .int .i64 ea, .slice A2 em.length c2, .int .i64 fo, .int .i64 fin.f0, .int .u8 fin.f1.f0, .int .i64 fin.f1.f1, .string fin.f1.f2, .slice A8 fin.f2.length c8, .bool co, .int .i64 pa]] w fun e w' => e = .returned (.int .i64 8) ∧ Below w.heap.size w w' := by
  have HW := Aside0.mk (word_drawn hwd)
  have HF := Aside0.mk (fun W => job_Fold.calls fo fn W hfn)
  have bJ : JB (w.alloc (.cells #[.string nm, .int .i64 ea, .slice A2 em.length c2, .int .i64 fo, .int .i64 fin.f0, .int .u8 fin.f1.f0, .int .i64 fin.f1.f1, .string fin.f1.f2, .slice A8 fin.f2.length c8, .bool co, .int .i64 pa] 38)) w.heap.size nm ea A2 c2 em fo fin A8 c8 co pa := World.alloc_heap_new w _
  have HJ := Aside0.mk bJ
  have hb0 : Below w.heap.size w (w.alloc (.cells #[.string nm, .int .i64 ea, .slice A2 em.length c2, .int .i64 fo, .int .i64 fin.f0, .int .u8 fin.f1.f0, .int .i64 fin.f1.f1, .string fin.f1.f2, .slice A8 fin.f2.length c8, .bool co, .int .i64 pa] 38)) := (Below.refl _ w).alloc (Nat.le_refl _) _
  have HB := Aside0.mk hb0
  clear hwd hfn bJ hb0
  subst h1
  go_enter Try.func23, Try.ntmps23
  go_wp2_with (first | (go_at_call 33; refine (HW.out _).mono ?_; rintro e w1 ⟨rfl, q, rfl⟩))
  go_ret
  exact ⟨rfl, pw_below_drewN HB.out _⟩

set_option maxRecDepth 100000 in
set_option maxHeartbeats 2000000 in
theorem jr_parts0 (nm : ByteArray) (ea : Int) (A2 : Option Addr) (c2 : Nat) (em : List S47) (fo : Int) (fin : S26) (A8 : Option Addr) (c8 : Nat) (co : Bool) (pa : Int) (w : World) (kw : Nat) (wd : Bool) (hwd : job_word.f kw nm = some wd) (fn : ByteArray) (hfn : job_Fold.f fo = some fn) (h1 : wd = true) (h2 : decide (ea < -1) = false) (h3 : decide (255 < ea) = false) (h4 : decide (pa < 1) = true) :
    Calls Try.prog 23 #[.agg #[.string nm, .int .i64 ea, .slice A2 em.length c2, .int .i64 fo, .int .i64 fin.f0, .int .u8 fin.f1.f0, .int .i64 fin.f1.f1, .string fin.f1.f2, .slice A8 fin.f2.length c8, .bool co, .int .i64 pa]] w fun e w' => e = .returned (.int .i64 8) ∧ Below w.heap.size w w' := by
  have HW := Aside0.mk (word_drawn hwd)
  have HF := Aside0.mk (fun W => job_Fold.calls fo fn W hfn)
  have bJ : JB (w.alloc (.cells #[.string nm, .int .i64 ea, .slice A2 em.length c2, .int .i64 fo, .int .i64 fin.f0, .int .u8 fin.f1.f0, .int .i64 fin.f1.f1, .string fin.f1.f2, .slice A8 fin.f2.length c8, .bool co, .int .i64 pa] 38)) w.heap.size nm ea A2 c2 em fo fin A8 c8 co pa := World.alloc_heap_new w _
  have HJ := Aside0.mk bJ
  have hb0 : Below w.heap.size w (w.alloc (.cells #[.string nm, .int .i64 ea, .slice A2 em.length c2, .int .i64 fo, .int .i64 fin.f0, .int .u8 fin.f1.f0, .int .i64 fin.f1.f1, .string fin.f1.f2, .slice A8 fin.f2.length c8, .bool co, .int .i64 pa] 38)) := (Below.refl _ w).alloc (Nat.le_refl _) _
  have HB := Aside0.mk hb0
  clear hwd hfn bJ hb0
  subst h1
  go_enter Try.func23, Try.ntmps23
  go_wp2_with (first | (go_at_call 33; refine (HW.out _).mono ?_; rintro e w1 ⟨rfl, q, rfl⟩))
  go_ret
  exact ⟨rfl, pw_below_drewN HB.out _⟩

set_option maxRecDepth 100000 in
set_option maxHeartbeats 2000000 in
theorem jr_parts1 (nm : ByteArray) (ea : Int) (A2 : Option Addr) (c2 : Nat) (em : List S47) (fo : Int) (fin : S26) (A8 : Option Addr) (c8 : Nat) (co : Bool) (pa : Int) (w : World) (kw : Nat) (wd : Bool) (hwd : job_word.f kw nm = some wd) (fn : ByteArray) (hfn : job_Fold.f fo = some fn) (h1 : wd = true) (h2 : decide (ea < -1) = false) (h3 : decide (255 < ea) = false) (h4 : decide (pa < 1) = false) (h5 : decide (8 < pa) = true) :
    Calls Try.prog 23 #[.agg #[.string nm, .int .i64 ea, .slice A2 em.length c2, .int .i64 fo, .int .i64 fin.f0, .int .u8 fin.f1.f0, .int .i64 fin.f1.f1, .string fin.f1.f2, .slice A8 fin.f2.length c8, .bool co, .int .i64 pa]] w fun e w' => e = .returned (.int .i64 8) ∧ Below w.heap.size w w' := by
  have HW := Aside0.mk (word_drawn hwd)
  have HF := Aside0.mk (fun W => job_Fold.calls fo fn W hfn)
  have bJ : JB (w.alloc (.cells #[.string nm, .int .i64 ea, .slice A2 em.length c2, .int .i64 fo, .int .i64 fin.f0, .int .u8 fin.f1.f0, .int .i64 fin.f1.f1, .string fin.f1.f2, .slice A8 fin.f2.length c8, .bool co, .int .i64 pa] 38)) w.heap.size nm ea A2 c2 em fo fin A8 c8 co pa := World.alloc_heap_new w _
  have HJ := Aside0.mk bJ
  have hb0 : Below w.heap.size w (w.alloc (.cells #[.string nm, .int .i64 ea, .slice A2 em.length c2, .int .i64 fo, .int .i64 fin.f0, .int .u8 fin.f1.f0, .int .i64 fin.f1.f1, .string fin.f1.f2, .slice A8 fin.f2.length c8, .bool co, .int .i64 pa] 38)) := (Below.refl _ w).alloc (Nat.le_refl _) _
  have HB := Aside0.mk hb0
  clear hwd hfn bJ hb0
  subst h1
  go_enter Try.func23, Try.ntmps23
  go_wp2_with (first | (go_at_call 33; refine (HW.out _).mono ?_; rintro e w1 ⟨rfl, q, rfl⟩))
  go_ret
  exact ⟨rfl, pw_below_drewN HB.out _⟩

set_option maxRecDepth 100000 in
set_option maxHeartbeats 2000000 in
theorem jr_none (nm : ByteArray) (ea : Int) (A2 : Option Addr) (c2 : Nat) (em : List S47) (fo : Int) (fin : S26) (A8 : Option Addr) (c8 : Nat) (co : Bool) (pa : Int) (w : World) (kw : Nat) (wd : Bool) (hwd : job_word.f kw nm = some wd) (fn : ByteArray) (hfn : job_Fold.f fo = some fn) (h1 : wd = true) (h2 : decide (ea < -1) = false) (h3 : decide (255 < ea) = false) (h4 : decide (pa < 1) = false) (h5 : decide (8 < pa) = false) (h6 : fn.toList.isEmpty = false) (h7 : decide ((em.length : Int) < 1) = true) :
    Calls Try.prog 23 #[.agg #[.string nm, .int .i64 ea, .slice A2 em.length c2, .int .i64 fo, .int .i64 fin.f0, .int .u8 fin.f1.f0, .int .i64 fin.f1.f1, .string fin.f1.f2, .slice A8 fin.f2.length c8, .bool co, .int .i64 pa]] w fun e w' => e = .returned (.int .i64 9) ∧ Below w.heap.size w w' := by
  have HW := Aside0.mk (word_drawn hwd)
  have HF := Aside0.mk (fun W => job_Fold.calls fo fn W hfn)
  have bJ : JB (w.alloc (.cells #[.string nm, .int .i64 ea, .slice A2 em.length c2, .int .i64 fo, .int .i64 fin.f0, .int .u8 fin.f1.f0, .int .i64 fin.f1.f1, .string fin.f1.f2, .slice A8 fin.f2.length c8, .bool co, .int .i64 pa] 38)) w.heap.size nm ea A2 c2 em fo fin A8 c8 co pa := World.alloc_heap_new w _
  have HJ := Aside0.mk bJ
  have hb0 : Below w.heap.size w (w.alloc (.cells #[.string nm, .int .i64 ea, .slice A2 em.length c2, .int .i64 fo, .int .i64 fin.f0, .int .u8 fin.f1.f0, .int .i64 fin.f1.f1, .string fin.f1.f2, .slice A8 fin.f2.length c8, .bool co, .int .i64 pa] 38)) := (Below.refl _ w).alloc (Nat.le_refl _) _
  have HB := Aside0.mk hb0
  clear hwd hfn bJ hb0
  subst h1
  go_enter Try.func23, Try.ntmps23
  go_wp2_with (first | (go_at_call 33; refine (HW.out _).mono ?_; rintro e w1 ⟨rfl, q, rfl⟩) | (go_at_call 28; refine (HF.out _).mono ?_; rintro e w2 ⟨rfl, hb⟩; have HB2 := Aside0.mk ((pw_below_drewN HB.out _).trans (hb.mono (pw_below_drewN HB.out _).size)); obtain ⟨j0, j1, j2, j3, j4, j5, j6, j7, j8, j9, j10⟩ := ((HJ.out.drewN q).below hb).cells))
  go_ret
  exact ⟨rfl, HB2.out⟩

set_option maxRecDepth 100000 in
set_option maxHeartbeats 2000000 in
theorem jr_many (nm : ByteArray) (ea : Int) (A2 : Option Addr) (c2 : Nat) (em : List S47) (fo : Int) (fin : S26) (A8 : Option Addr) (c8 : Nat) (co : Bool) (pa : Int) (w : World) (kw : Nat) (wd : Bool) (hwd : job_word.f kw nm = some wd) (fn : ByteArray) (hfn : job_Fold.f fo = some fn) (h1 : wd = true) (h2 : decide (ea < -1) = false) (h3 : decide (255 < ea) = false) (h4 : decide (pa < 1) = false) (h5 : decide (8 < pa) = false) (h6 : fn.toList.isEmpty = false) (h7 : decide ((em.length : Int) < 1) = false) (h8 : decide ((8 : Int) < (em.length : Int)) = true) :
    Calls Try.prog 23 #[.agg #[.string nm, .int .i64 ea, .slice A2 em.length c2, .int .i64 fo, .int .i64 fin.f0, .int .u8 fin.f1.f0, .int .i64 fin.f1.f1, .string fin.f1.f2, .slice A8 fin.f2.length c8, .bool co, .int .i64 pa]] w fun e w' => e = .returned (.int .i64 9) ∧ Below w.heap.size w w' := by
  have HW := Aside0.mk (word_drawn hwd)
  have HF := Aside0.mk (fun W => job_Fold.calls fo fn W hfn)
  have bJ : JB (w.alloc (.cells #[.string nm, .int .i64 ea, .slice A2 em.length c2, .int .i64 fo, .int .i64 fin.f0, .int .u8 fin.f1.f0, .int .i64 fin.f1.f1, .string fin.f1.f2, .slice A8 fin.f2.length c8, .bool co, .int .i64 pa] 38)) w.heap.size nm ea A2 c2 em fo fin A8 c8 co pa := World.alloc_heap_new w _
  have HJ := Aside0.mk bJ
  have hb0 : Below w.heap.size w (w.alloc (.cells #[.string nm, .int .i64 ea, .slice A2 em.length c2, .int .i64 fo, .int .i64 fin.f0, .int .u8 fin.f1.f0, .int .i64 fin.f1.f1, .string fin.f1.f2, .slice A8 fin.f2.length c8, .bool co, .int .i64 pa] 38)) := (Below.refl _ w).alloc (Nat.le_refl _) _
  have HB := Aside0.mk hb0
  clear hwd hfn bJ hb0
  subst h1
  go_enter Try.func23, Try.ntmps23
  go_wp2_with (first | (go_at_call 33; refine (HW.out _).mono ?_; rintro e w1 ⟨rfl, q, rfl⟩) | (go_at_call 28; refine (HF.out _).mono ?_; rintro e w2 ⟨rfl, hb⟩; have HB2 := Aside0.mk ((pw_below_drewN HB.out _).trans (hb.mono (pw_below_drewN HB.out _).size)); obtain ⟨j0, j1, j2, j3, j4, j5, j6, j7, j8, j9, j10⟩ := ((HJ.out.drewN q).below hb).cells))
  go_ret
  exact ⟨rfl, HB2.out⟩

set_option maxRecDepth 100000 in
set_option maxHeartbeats 2000000 in
theorem jr_fold (nm : ByteArray) (ea : Int) (A2 : Option Addr) (c2 : Nat) (em : List S47) (fo : Int) (fin : S26) (A8 : Option Addr) (c8 : Nat) (co : Bool) (pa : Int) (w : World) (kw : Nat) (wd : Bool) (hwd : job_word.f kw nm = some wd) (fn : ByteArray) (hfn : job_Fold.f fo = some fn) (h1 : wd = true) (h2 : decide (ea < -1) = false) (h3 : decide (255 < ea) = false) (h4 : decide (pa < 1) = false) (h5 : decide (8 < pa) = false) (h6 : fn.toList.isEmpty = true) :
    Calls Try.prog 23 #[.agg #[.string nm, .int .i64 ea, .slice A2 em.length c2, .int .i64 fo, .int .i64 fin.f0, .int .u8 fin.f1.f0, .int .i64 fin.f1.f1, .string fin.f1.f2, .slice A8 fin.f2.length c8, .bool co, .int .i64 pa]] w fun e w' => e = .returned (.int .i64 8) ∧ Below w.heap.size w w' := by
  have HW := Aside0.mk (word_drawn hwd)
  have HF := Aside0.mk (fun W => job_Fold.calls fo fn W hfn)
  have bJ : JB (w.alloc (.cells #[.string nm, .int .i64 ea, .slice A2 em.length c2, .int .i64 fo, .int .i64 fin.f0, .int .u8 fin.f1.f0, .int .i64 fin.f1.f1, .string fin.f1.f2, .slice A8 fin.f2.length c8, .bool co, .int .i64 pa] 38)) w.heap.size nm ea A2 c2 em fo fin A8 c8 co pa := World.alloc_heap_new w _
  have HJ := Aside0.mk bJ
  have hb0 : Below w.heap.size w (w.alloc (.cells #[.string nm, .int .i64 ea, .slice A2 em.length c2, .int .i64 fo, .int .i64 fin.f0, .int .u8 fin.f1.f0, .int .i64 fin.f1.f1, .string fin.f1.f2, .slice A8 fin.f2.length c8, .bool co, .int .i64 pa] 38)) := (Below.refl _ w).alloc (Nat.le_refl _) _
  have HB := Aside0.mk hb0
  clear hwd hfn bJ hb0
  subst h1
  go_enter Try.func23, Try.ntmps23
  go_wp2_with (first | (go_at_call 33; refine (HW.out _).mono ?_; rintro e w1 ⟨rfl, q, rfl⟩) | (go_at_call 28; refine (HF.out _).mono ?_; rintro e w2 ⟨rfl, hb⟩; have HB2 := Aside0.mk ((pw_below_drewN HB.out _).trans (hb.mono (pw_below_drewN HB.out _).size))))
  go_ret
  exact ⟨rfl, HB2.out⟩

/-- Three expressions in a row of the call's own. -/
def Row3 (W : World) (B : Nat) (t : TypeId) (m : S47) (A4 A9 A14 : Option Addr) (c4 c9 c14 : Nat) : Prop := W.heap[B]? = some (.cells #[.int .i64 m.f0.f0, .int .u8 m.f0.f1.f0, .int .i64 m.f0.f1.f1, .string m.f0.f1.f2, .slice A4 m.f0.f2.length c4, .int .i64 m.f1.f0, .int .u8 m.f1.f1.f0, .int .i64 m.f1.f1.f1, .string m.f1.f1.f2, .slice A9 m.f1.f2.length c9, .int .i64 m.f2.f0, .int .u8 m.f2.f1.f0, .int .i64 m.f2.f1.f1, .string m.f2.f1.f2, .slice A14 m.f2.f2.length c14] t (0, 0))
theorem Row3.below {W W' : World} {B : Nat} {t : TypeId} {m : S47} {A4 A9 A14 : Option Addr} {c4 c9 c14 : Nat} (h : Row3 W B t m A4 A9 A14 c4 c9 c14) (hb : Below W.heap.size W W') : Row3 W' B t m A4 A9 A14 c4 c9 c14 := by
  unfold Row3 at h ⊢
  exact (hb.block B (Array.getElem?_eq_some_iff.1 h).1).trans h
theorem JB.alloc {W : World} {B : Nat} {nm : ByteArray} {ea : Int} {A2 : Option Addr} {c2 : Nat} {em : List S47} {fo : Int} {fin : S26} {A8 : Option Addr} {c8 : Nat} {co : Bool} {pa : Int} (h : JB W B nm ea A2 c2 em fo fin A8 c8 co pa) (o : Obj) : JB (W.alloc o) B nm ea A2 c2 em fo fin A8 c8 co pa := h.below ((Below.refl _ W).alloc (Nat.le_refl _) o)
theorem Row3.alloc {W : World} {B : Nat} {t : TypeId} {m : S47} {A4 A9 A14 : Option Addr} {c4 c9 c14 : Nat} (h : Row3 W B t m A4 A9 A14 c4 c9 c14) (o : Obj) : Row3 (W.alloc o) B t m A4 A9 A14 c4 c9 c14 := h.below ((Below.refl _ W).alloc (Nat.le_refl _) o)

theorem Row3.cells {W : World} {B : Nat} {t : TypeId} {m : S47} {A4 A9 A14 : Option Addr} {c4 c9 c14 : Nat} (h : Row3 W B t m A4 A9 A14 c4 c9 c14) : W.cell? ⟨B, 0, none⟩ = some (.int .i64 m.f0.f0) ∧ W.cell? ⟨B, 1, none⟩ = some (.int .u8 m.f0.f1.f0) ∧ W.cell? ⟨B, 2, none⟩ = some (.int .i64 m.f0.f1.f1) ∧ W.cell? ⟨B, 3, none⟩ = some (.string m.f0.f1.f2) ∧ W.cell? ⟨B, 4, none⟩ = some (.slice A4 m.f0.f2.length c4) ∧ W.cell? ⟨B, 5, none⟩ = some (.int .i64 m.f1.f0) ∧ W.cell? ⟨B, 6, none⟩ = some (.int .u8 m.f1.f1.f0) ∧ W.cell? ⟨B, 7, none⟩ = some (.int .i64 m.f1.f1.f1) ∧ W.cell? ⟨B, 8, none⟩ = some (.string m.f1.f1.f2) ∧ W.cell? ⟨B, 9, none⟩ = some (.slice A9 m.f1.f2.length c9) ∧ W.cell? ⟨B, 10, none⟩ = some (.int .i64 m.f2.f0) ∧ W.cell? ⟨B, 11, none⟩ = some (.int .u8 m.f2.f1.f0) ∧ W.cell? ⟨B, 12, none⟩ = some (.int .i64 m.f2.f1.f1) ∧ W.cell? ⟨B, 13, none⟩ = some (.string m.f2.f1.f2) ∧ W.cell? ⟨B, 14, none⟩ = some (.slice A14 m.f2.f2.length c14) := by
  unfold Row3 at h
  refine ⟨?_, ?_, ?_, ?_, ?_, ?_, ?_, ?_, ?_, ?_, ?_, ?_, ?_, ?_, ?_⟩ <;> simp [World.cell?, h]

set_option maxRecDepth 100000 in
set_option maxHeartbeats 2000000 in
theorem jr_loop (nm : ByteArray) (ea : Int) (A2 : Option Addr) (c2 : Nat) (em : List S47) (fo : Int) (fin : S26) (A8 : Option Addr) (c8 : Nat) (co : Bool) (pa : Int) (w : World) (kw : Nat) (wd : Bool) (hwd : job_word.f kw nm = some wd) (fn : ByteArray) (hfn : job_Fold.f fo = some fn) (h1 : wd = true) (h2 : decide (ea < -1) = false) (h3 : decide (255 < ea) = false) (h4 : decide (pa < 1) = false) (h5 : decide (8 < pa) = false) (h6 : fn.toList.isEmpty = false) (h7 : decide ((em.length : Int) < 1) = false) (h8 : decide ((8 : Int) < (em.length : Int)) = false) (hC2 : Kd.C k47 w A2 em.length em) (hC8 : Kd.C k26 w A8 fin.f2.length fin.f2) (hc8 : fin.f2.length ≤ c8) (hsm : ∀ x, x ∈ threes em ++ [fin] → (preS x).length < 9223372036854775807) :
    Calls Try.prog 23 #[.agg #[.string nm, .int .i64 ea, .slice A2 em.length c2, .int .i64 fo, .int .i64 fin.f0, .int .u8 fin.f1.f0, .int .i64 fin.f1.f1, .string fin.f1.f2, .slice A8 fin.f2.length c8, .bool co, .int .i64 pa]] w fun e w' => e = .returned (.int .i64 (firstErr (threes em ++ [fin]))) ∧ Below w.heap.size w w' := by
  have HW := Aside0.mk (word_drawn hwd)
  have HF := Aside0.mk (fun W => job_Fold.calls fo fn W hfn)
  have bJ : JB (w.alloc (.cells #[.string nm, .int .i64 ea, .slice A2 em.length c2, .int .i64 fo, .int .i64 fin.f0, .int .u8 fin.f1.f0, .int .i64 fin.f1.f1, .string fin.f1.f2, .slice A8 fin.f2.length c8, .bool co, .int .i64 pa] 38)) w.heap.size nm ea A2 c2 em fo fin A8 c8 co pa := World.alloc_heap_new w _
  have HJ := Aside0.mk bJ
  have hb0 : Below w.heap.size w (w.alloc (.cells #[.string nm, .int .i64 ea, .slice A2 em.length c2, .int .i64 fo, .int .i64 fin.f0, .int .u8 fin.f1.f0, .int .i64 fin.f1.f1, .string fin.f1.f2, .slice A8 fin.f2.length c8, .bool co, .int .i64 pa] 38)) := (Below.refl _ w).alloc (Nat.le_refl _) _
  have HB := Aside0.mk hb0
  clear hwd hfn bJ hb0
  have HC2 := Aside0.mk hC2
  have HC8 := Aside0.mk hC8
  have HS := Aside0.mk hsm
  have hlen := hC2.2.1
  clear hC2 hC8 hsm
  subst h1
  go_enter Try.func23, Try.ntmps23
  go_wp2_with (first | (go_at_call 33; refine (HW.out _).mono ?_; rintro e w1 ⟨rfl, q, rfl⟩) | (go_at_call 28; refine (HF.out _).mono ?_; rintro e w2 ⟨rfl, hb⟩; have HJ2 := Aside0.mk ((HJ.out.drewN q).below hb); have HB2 := Aside0.mk ((pw_below_drewN HB.out _).trans (hb.mono (pw_below_drewN HB.out _).size)); obtain ⟨j0, j1, j2, j3, j4, j5, j6, j7, j8, j9, j10⟩ := ((HJ.out.drewN q).below hb).cells))
  clear HJ HB HW HF j0 j1 j2 j3 j4 j5 j6 j7 j8 j9 j10 h2 h3 h4 h5 h6 h7 h8
  go_loopw [52] (fun i wr => ∃ k : Nat, k ≤ em.length ∧ i = .int .i64 k ∧ firstErr (threes (em.take k)) = 0 ∧ Below w.heap.size w wr ∧ JB wr w.heap.size nm ea A2 c2 em fo fin A8 c8 co pa)
    (fun i _ => em.length - (intOf i).toNat)
  case atStart => exact ⟨0, Nat.zero_le _, rfl, rfl, HB2.out, HJ2.out⟩
  case round =>
    clear HB2 HJ2
    obtain ⟨k, hk, rfl, hfe, hb, hj⟩ := hrel
    have HF := Aside0.mk hfe
    have HB := Aside0.mk hb
    have HJ := Aside0.mk hj
    clear hfe hb hj
    by_cases hlt : k < em.length
    · obtain ⟨ad, A4, c4, A9, c9, A14, c14, hA, g0, g1, g2, g3, g4, g5, g6, g7, g8, g9, g10, g11, g12, g13, g14, l4, C4, l9, C9, l14, C14⟩ := at_T47 HC2.out (k : Int) (by omega) (by omega)
      have hrd : rd_T47 em (k : Int) = em[k] := by
        unfold rd_T47
        rw [Int.toNat_natCast, List.getD_eq_getElem?_getD, List.getElem?_eq_getElem hlt]
        rfl
      have hthree := threes_take em k hlt
      have hmem : ∀ x, x ∈ three em[k] → (preS x).length < 9223372036854775807 := fun x hx => HS.out x (by
        obtain ⟨t, ht⟩ : ∃ t, threes em = threes (em.take (k + 1)) ++ t := ⟨threes (em.drop (k + 1)), by rw [← threes_append, List.take_append_drop]⟩
        rw [ht, hthree]
        simp [hx])
      rw [hrd] at g0 g1 g2 g3 g4 g5 g6 g7 g8 g9 g10 g11 g12 g13 g14 l4 C4 l9 C9 l14 C14
      simp only [Int.toNat_natCast] at g0 g1 g2 g3 g4 g5 g6 g7 g8 g9 g10 g11 g12 g13 g14
      clear hrd
      generalize em[k] = m at *
      have hb := HB.out
      replace g0 := (hb.cell (World.block_lt_of_cell? w _ g0)).trans g0
      replace g1 := (hb.cell (World.block_lt_of_cell? w _ g1)).trans g1
      replace g2 := (hb.cell (World.block_lt_of_cell? w _ g2)).trans g2
      replace g3 := (hb.cell (World.block_lt_of_cell? w _ g3)).trans g3
      replace g4 := (hb.cell (World.block_lt_of_cell? w _ g4)).trans g4
      replace g5 := (hb.cell (World.block_lt_of_cell? w _ g5)).trans g5
      replace g6 := (hb.cell (World.block_lt_of_cell? w _ g6)).trans g6
      replace g7 := (hb.cell (World.block_lt_of_cell? w _ g7)).trans g7
      replace g8 := (hb.cell (World.block_lt_of_cell? w _ g8)).trans g8
      replace g9 := (hb.cell (World.block_lt_of_cell? w _ g9)).trans g9
      replace g10 := (hb.cell (World.block_lt_of_cell? w _ g10)).trans g10
      replace g11 := (hb.cell (World.block_lt_of_cell? w _ g11)).trans g11
      replace g12 := (hb.cell (World.block_lt_of_cell? w _ g12)).trans g12
      replace g13 := (hb.cell (World.block_lt_of_cell? w _ g13)).trans g13
      replace g14 := (hb.cell (World.block_lt_of_cell? w _ g14)).trans g14
      clear hb
      subst hA
      have HT := Aside0.mk hthree
      have HM := Aside0.mk hmem
      clear hthree hmem
      have bB : Row3 (wr.alloc (.cells #[.int .i64 m.f0.f0, .int .u8 m.f0.f1.f0, .int .i64 m.f0.f1.f1, .string m.f0.f1.f2, .slice A4 m.f0.f2.length c4, .int .i64 m.f1.f0, .int .u8 m.f1.f1.f0, .int .i64 m.f1.f1.f1, .string m.f1.f1.f2, .slice A9 m.f1.f2.length c9, .int .i64 m.f2.f0, .int .u8 m.f2.f1.f0, .int .i64 m.f2.f1.f1, .string m.f2.f1.f2, .slice A14 m.f2.f2.length c14] 47)) wr.heap.size 47 m A4 A9 A14 c4 c9 c14 := World.alloc_heap_new wr _
      have hcut : ∃ t, threes em = threes (em.take k) ++ (three m ++ t) := ⟨threes (em.drop (k + 1)), by rw [← List.append_assoc, ← HT.out, ← threes_append, List.take_append_drop]⟩
      obtain ⟨t, ht⟩ := hcut
      have HE := Aside0.mk ht
      clear ht bB
      go_wp2
      clear g0 g1 g2 g3 g4 g5 g6 g7 g8 g9 g10 g11 g12 g13 g14
      have hw := HB.out.size
      have hb1 : Below w.heap.size w ((wr.alloc (.cells #[.int .i64 m.f0.f0, .int .u8 m.f0.f1.f0, .int .i64 m.f0.f1.f1, .string m.f0.f1.f2, .slice A4 m.f0.f2.length c4, .int .i64 m.f1.f0, .int .u8 m.f1.f1.f0, .int .i64 m.f1.f1.f1, .string m.f1.f1.f2, .slice A9 m.f1.f2.length c9, .int .i64 m.f2.f0, .int .u8 m.f2.f1.f0, .int .i64 m.f2.f1.f1, .string m.f2.f1.f2, .slice A14 m.f2.f2.length c14] 47)).alloc (.cells #[.int .i64 m.f0.f0, .int .u8 m.f0.f1.f0, .int .i64 m.f0.f1.f1, .string m.f0.f1.f2, .slice A4 m.f0.f2.length c4, .int .i64 m.f1.f0, .int .u8 m.f1.f1.f0, .int .i64 m.f1.f1.f1, .string m.f1.f1.f2, .slice A9 m.f1.f2.length c9, .int .i64 m.f2.f0, .int .u8 m.f2.f1.f0, .int .i64 m.f2.f1.f1, .string m.f2.f1.f2, .slice A14 m.f2.f2.length c14] 26)) := (HB.out.alloc hw _).alloc (by simp; omega) _
      have hj1 := (HJ.out.alloc (.cells #[.int .i64 m.f0.f0, .int .u8 m.f0.f1.f0, .int .i64 m.f0.f1.f1, .string m.f0.f1.f2, .slice A4 m.f0.f2.length c4, .int .i64 m.f1.f0, .int .u8 m.f1.f1.f0, .int .i64 m.f1.f1.f1, .string m.f1.f1.f2, .slice A9 m.f1.f2.length c9, .int .i64 m.f2.f0, .int .u8 m.f2.f1.f0, .int .i64 m.f2.f1.f1, .string m.f2.f1.f2, .slice A14 m.f2.f2.length c14] 47)).alloc (.cells #[.int .i64 m.f0.f0, .int .u8 m.f0.f1.f0, .int .i64 m.f0.f1.f1, .string m.f0.f1.f2, .slice A4 m.f0.f2.length c4, .int .i64 m.f1.f0, .int .u8 m.f1.f1.f0, .int .i64 m.f1.f1.f1, .string m.f1.f1.f2, .slice A9 m.f1.f2.length c9, .int .i64 m.f2.f0, .int .u8 m.f2.f1.f0, .int .i64 m.f2.f1.f1, .string m.f2.f1.f2, .slice A14 m.f2.f2.length c14] 26)
      have hr1 : Row3 ((wr.alloc (.cells #[.int .i64 m.f0.f0, .int .u8 m.f0.f1.f0, .int .i64 m.f0.f1.f1, .string m.f0.f1.f2, .slice A4 m.f0.f2.length c4, .int .i64 m.f1.f0, .int .u8 m.f1.f1.f0, .int .i64 m.f1.f1.f1, .string m.f1.f1.f2, .slice A9 m.f1.f2.length c9, .int .i64 m.f2.f0, .int .u8 m.f2.f1.f0, .int .i64 m.f2.f1.f1, .string m.f2.f1.f2, .slice A14 m.f2.f2.length c14] 47)).alloc (.cells #[.int .i64 m.f0.f0, .int .u8 m.f0.f1.f0, .int .i64 m.f0.f1.f1, .string m.f0.f1.f2, .slice A4 m.f0.f2.length c4, .int .i64 m.f1.f0, .int .u8 m.f1.f1.f0, .int .i64 m.f1.f1.f1, .string m.f1.f1.f2, .slice A9 m.f1.f2.length c9, .int .i64 m.f2.f0, .int .u8 m.f2.f1.f0, .int .i64 m.f2.f1.f1, .string m.f2.f1.f2, .slice A14 m.f2.f2.length c14] 26)) (wr.heap.size + 1) 26 m A4 A9 A14 c4 c9 c14 := by
        have := World.alloc_heap_new (wr.alloc (.cells #[.int .i64 m.f0.f0, .int .u8 m.f0.f1.f0, .int .i64 m.f0.f1.f1, .string m.f0.f1.f2, .slice A4 m.f0.f2.length c4, .int .i64 m.f1.f0, .int .u8 m.f1.f1.f0, .int .i64 m.f1.f1.f1, .string m.f1.f1.f2, .slice A9 m.f1.f2.length c9, .int .i64 m.f2.f0, .int .u8 m.f2.f1.f0, .int .i64 m.f2.f1.f1, .string m.f2.f1.f2, .slice A14 m.f2.f2.length c14] 47)) (.cells #[.int .i64 m.f0.f0, .int .u8 m.f0.f1.f0, .int .i64 m.f0.f1.f1, .string m.f0.f1.f2, .slice A4 m.f0.f2.length c4, .int .i64 m.f1.f0, .int .u8 m.f1.f1.f0, .int .i64 m.f1.f1.f1, .string m.f1.f1.f2, .slice A9 m.f1.f2.length c9, .int .i64 m.f2.f0, .int .u8 m.f2.f1.f0, .int .i64 m.f2.f1.f1, .string m.f2.f1.f2, .slice A14 m.f2.f2.length c14] 26)
        rwa [World.size_alloc] at this
      have HB1 := Aside0.mk hb1
      have HJ1 := Aside0.mk hj1
      have HR1 := Aside0.mk hr1
      clear hb1 hj1 hr1
      obtain ⟨wo, ho⟩ : ∃ wo : World, (wr.alloc (.cells #[.int .i64 m.f0.f0, .int .u8 m.f0.f1.f0, .int .i64 m.f0.f1.f1, .string m.f0.f1.f2, .slice A4 m.f0.f2.length c4, .int .i64 m.f1.f0, .int .u8 m.f1.f1.f0, .int .i64 m.f1.f1.f1, .string m.f1.f1.f2, .slice A9 m.f1.f2.length c9, .int .i64 m.f2.f0, .int .u8 m.f2.f1.f0, .int .i64 m.f2.f1.f1, .string m.f2.f1.f2, .slice A14 m.f2.f2.length c14] 47)).alloc (.cells #[.int .i64 m.f0.f0, .int .u8 m.f0.f1.f0, .int .i64 m.f0.f1.f1, .string m.f0.f1.f2, .slice A4 m.f0.f2.length c4, .int .i64 m.f1.f0, .int .u8 m.f1.f1.f0, .int .i64 m.f1.f1.f1, .string m.f1.f1.f2, .slice A9 m.f1.f2.length c9, .int .i64 m.f2.f0, .int .u8 m.f2.f1.f0, .int .i64 m.f2.f1.f1, .string m.f2.f1.f2, .slice A14 m.f2.f2.length c14] 26) = wo := ⟨_, rfl⟩
      rw [ho] at HB1 HJ1 HR1 ⊢
      clear ho
      obtain ⟨B, hB⟩ : ∃ B : Nat, wr.heap.size + 1 = B := ⟨_, rfl⟩
      rw [hB] at HR1 ⊢
      clear hB
      go_loopw [64] (fun i wi => ∃ q : Nat, q ≤ 3 ∧ i = .int .i64 q ∧ firstErr ((three m).take q) = 0 ∧ Below w.heap.size w wi ∧ JB wi w.heap.size nm ea (some ad) c2 em fo fin A8 c8 co pa ∧ Row3 wi B 26 m A4 A9 A14 c4 c9 c14)
        (fun i _ => 3 - (intOf i).toNat)
      case atStart => exact ⟨0, by omega, rfl, rfl, HB1.out, HJ1.out, HR1.out⟩
      case round =>
        clear HB1 HJ1 HR1
        obtain ⟨q, hq, rfl, hfe, hb, hj, hr⟩ := hrel
        have HF1 := Aside0.mk hfe
        have HB1 := Aside0.mk hb
        have HJ1 := Aside0.mk hj
        have HR1 := Aside0.mk hr
        obtain ⟨r0, r1, r2, r3, r4, r5, r6, r7, r8, r9, r10, r11, r12, r13, r14⟩ := hr.cells
        clear hfe hb hj hr
        have hq4 : q = 0 ∨ q = 1 ∨ q = 2 ∨ q = 3 := by omega
        rcases hq4 with rfl | rfl | rfl | rfl
        · have hcall := fun W hC => rv_calls ⟨m.f0, A4, c4⟩ (HM.out m.f0 (by simp [three])) W hC l4
          have HC := Aside0.mk hcall
          clear hcall
          by_cases hz : rv m.f0 = 0
          · have hz1 : (rv m.f0 != 0) = false := bne_eq_false_iff_eq.2 hz
            have HZ := Aside0.mk hz
            clear hz
            go_wp2_with (go_at_call 34; refine (HC.out _ (Kd.C_below C4 (HB1.out.alloc HB1.out.size _))).mono ?_; rintro e w2 ⟨rfl, hb⟩; have HB2 := Aside0.mk ((HB1.out.alloc HB1.out.size _).trans (hb.mono (HB1.out.alloc HB1.out.size _).size)); have HJ2 := Aside0.mk ((HJ1.out.alloc _).below hb); have HR2 := Aside0.mk ((HR1.out.alloc _).below hb); clear hb)
            go_roundw
            case rel => exact ⟨1, by omega, by first | rfl | go_num, by have := firstErr_snoc (x := m.f0) HF1.out; rw [HZ.out] at this; exact this, HB2.out, HJ2.out, HR2.out⟩
            case measure => simp [intOf]
          · have hz1 : (rv m.f0 != 0) = true := bne_iff_ne.2 hz
            have HZ := Aside0.mk hz
            clear hz
            go_wp2_with (go_at_call 34; refine (HC.out _ (Kd.C_below C4 (HB1.out.alloc HB1.out.size _))).mono ?_; rintro e w2 ⟨rfl, hb⟩; have HB2 := Aside0.mk ((HB1.out.alloc HB1.out.size _).trans (hb.mono (HB1.out.alloc HB1.out.size _).size)); clear hb)
            go_ret
            refine ⟨?_, HB2.out⟩
            have h1 : firstErr (threes (em.take k) ++ []) = 0 := by rw [firstErr_ok HF.out]; exact HF1.out
            have h2 : threes em ++ [fin] = (threes (em.take k) ++ []) ++ m.f0 :: (m.f1 :: m.f2 :: (t ++ [fin])) := by rw [HE.out]; simp [three]
            rw [h2, firstErr_at h1 HZ.out]
            rfl
        · have hcall := fun W hC => rv_calls ⟨m.f1, A9, c9⟩ (HM.out m.f1 (by simp [three])) W hC l9
          have HC := Aside0.mk hcall
          clear hcall
          by_cases hz : rv m.f1 = 0
          · have hz1 : (rv m.f1 != 0) = false := bne_eq_false_iff_eq.2 hz
            have HZ := Aside0.mk hz
            clear hz
            go_wp2_with (go_at_call 34; refine (HC.out _ (Kd.C_below C9 (HB1.out.alloc HB1.out.size _))).mono ?_; rintro e w2 ⟨rfl, hb⟩; have HB2 := Aside0.mk ((HB1.out.alloc HB1.out.size _).trans (hb.mono (HB1.out.alloc HB1.out.size _).size)); have HJ2 := Aside0.mk ((HJ1.out.alloc _).below hb); have HR2 := Aside0.mk ((HR1.out.alloc _).below hb); clear hb)
            go_roundw
            case rel => exact ⟨2, by omega, by first | rfl | go_num, by have := firstErr_snoc (x := m.f1) HF1.out; rw [HZ.out] at this; exact this, HB2.out, HJ2.out, HR2.out⟩
            case measure => simp [intOf]
          · have hz1 : (rv m.f1 != 0) = true := bne_iff_ne.2 hz
            have HZ := Aside0.mk hz
            clear hz
            go_wp2_with (go_at_call 34; refine (HC.out _ (Kd.C_below C9 (HB1.out.alloc HB1.out.size _))).mono ?_; rintro e w2 ⟨rfl, hb⟩; have HB2 := Aside0.mk ((HB1.out.alloc HB1.out.size _).trans (hb.mono (HB1.out.alloc HB1.out.size _).size)); clear hb)
            go_ret
            refine ⟨?_, HB2.out⟩
            have h1 : firstErr (threes (em.take k) ++ [m.f0]) = 0 := by rw [firstErr_ok HF.out]; exact HF1.out
            have h2 : threes em ++ [fin] = (threes (em.take k) ++ [m.f0]) ++ m.f1 :: (m.f2 :: (t ++ [fin])) := by rw [HE.out]; simp [three]
            rw [h2, firstErr_at h1 HZ.out]
            rfl
        · have hcall := fun W hC => rv_calls ⟨m.f2, A14, c14⟩ (HM.out m.f2 (by simp [three])) W hC l14
          have HC := Aside0.mk hcall
          clear hcall
          by_cases hz : rv m.f2 = 0
          · have hz1 : (rv m.f2 != 0) = false := bne_eq_false_iff_eq.2 hz
            have HZ := Aside0.mk hz
            clear hz
            go_wp2_with (go_at_call 34; refine (HC.out _ (Kd.C_below C14 (HB1.out.alloc HB1.out.size _))).mono ?_; rintro e w2 ⟨rfl, hb⟩; have HB2 := Aside0.mk ((HB1.out.alloc HB1.out.size _).trans (hb.mono (HB1.out.alloc HB1.out.size _).size)); have HJ2 := Aside0.mk ((HJ1.out.alloc _).below hb); have HR2 := Aside0.mk ((HR1.out.alloc _).below hb); clear hb)
            go_roundw
            case rel => exact ⟨3, by omega, by first | rfl | go_num, by have := firstErr_snoc (x := m.f2) HF1.out; rw [HZ.out] at this; exact this, HB2.out, HJ2.out, HR2.out⟩
            case measure => simp [intOf]
          · have hz1 : (rv m.f2 != 0) = true := bne_iff_ne.2 hz
            have HZ := Aside0.mk hz
            clear hz
            go_wp2_with (go_at_call 34; refine (HC.out _ (Kd.C_below C14 (HB1.out.alloc HB1.out.size _))).mono ?_; rintro e w2 ⟨rfl, hb⟩; have HB2 := Aside0.mk ((HB1.out.alloc HB1.out.size _).trans (hb.mono (HB1.out.alloc HB1.out.size _).size)); clear hb)
            go_ret
            refine ⟨?_, HB2.out⟩
            have h1 : firstErr (threes (em.take k) ++ [m.f0, m.f1]) = 0 := by rw [firstErr_ok HF.out]; exact HF1.out
            have h2 : threes em ++ [fin] = (threes (em.take k) ++ [m.f0, m.f1]) ++ m.f2 :: ((t ++ [fin])) := by rw [HE.out]; simp [three]
            rw [h2, firstErr_at h1 HZ.out]
            rfl
        · go_wp2
          go_roundw
          case rel => exact ⟨k + 1, by omega, by go_num, by rw [HT.out, firstErr_ok HF.out]; exact HF1.out, HB1.out, HJ1.out⟩
          case measure => simp [intOf]; omega
    · obtain rfl : k = em.length := by omega
      have hcall := fun W hC => rv_calls ⟨fin, A8, c8⟩ (HS.out fin (by simp)) W hC hc8
      have HC := Aside0.mk hcall
      clear hcall
      obtain ⟨j0, j1, j2, j3, j4, j5, j6, j7, j8, j9, j10⟩ := HJ.out.cells
      go_wp2_with (go_at_call 34; refine (HC.out _ (Kd.C_below HC8.out HB.out)).mono ?_; rintro e w2 ⟨rfl, hb⟩; have HB2 := Aside0.mk (HB.out.trans (hb.mono HB.out.size)); clear hb)
      go_ret
      refine ⟨?_, HB2.out⟩
      have h1 := HF.out
      rw [List.take_length] at h1
      rw [firstErr_snoc h1]
      rfl

end Go.Proofs.Ytejeaiplbhgfdaa.CkIter
