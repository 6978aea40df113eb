/- The parts of an expression, one behind the other: what expr.walk, expr.parts and what ranges over them do to memory and hand back. -/
import Derived.RangeFuncNested
import Derived.RangeFuncBound
import Derived.RangeFuncCalls
import Derived.RangeFuncLeaves
import Derived.RangeFuncBox
import Derived.Shelf.Abstract
import Derived.Shelf.RegionOpen
import Derived.WalkKit
import Derived.OwnWalkIn
import Derived.TacticsInMore
import Derived.LoopNIn
import Derived.LoopIn
import Derived.Test.YtaebjcldopoccaaDoorEsx1
namespace Go.Proofs.YtaebjcldopoccaaDoor.EsIter
open Go.RowKit Go.Shelf Go.Proofs.YtaebjcldopoccaaDoorW.PrintWords Go.Proofs.YtaebjcldopoccaaDoor.Es
attribute [local go_sem] Oper.semAt_some

theorem tree_ind {P : S35 → Prop} (h : ∀ o v l, (∀ a, a ∈ l → P a) → P ⟨o, v, l⟩) : ∀ x, P x
  | ⟨o, v, l⟩ => h o v l (fun a _ => tree_ind h a)
termination_by x => SizeOf.sizeOf x
decreasing_by
  have := List.sizeOf_lt_of_mem ‹a ∈ l›
  simp
  omega

/- An expression, itself first, and all in it. -/
mutual
def preS : S35 → List S35
  | ⟨o, v, l⟩ => ⟨o, v, l⟩ :: presS l
def presS : List S35 → List S35
  | [] => []
  | a :: t => preS a ++ presS t
end
theorem presS_append (a b : List S35) : presS (a ++ b) = presS a ++ presS b := by
  induction a with
  | nil => rfl
  | cons x t ih => simp only [List.cons_append, presS, ih, List.append_assoc]
theorem presS_take (l : List S35) (k : Nat) (h : k < l.length) : presS (l.take (k + 1)) = presS (l.take k) ++ preS l[k] := by
  rw [List.take_succ_eq_append_getElem h, presS_append]
  simp [presS]
theorem presS_prefix (l : List S35) (k : Nat) : ∃ t, presS l = presS (l.take k) ++ t := ⟨presS (l.drop k), by rw [← presS_append, List.take_append_drop]⟩

/-- A part as it comes: the tree, and where its row of arguments lies. -/
structure Nd where
  x : S35
  A : Option Addr
  c : Nat
def encs (n : Nd) : Array Value := #[.agg #[.int .i64 n.x.f0, .int .u8 n.x.f1.f0, .int .i64 n.x.f1.f1, .string n.x.f1.f2, .slice n.A n.x.f2.length n.c]]

/-- What a round that goes on keeps: what lay below n₀, and every block of cells from n₁ on. -/
def KpC (n₀ n₁ : Nat) (W W' : World) : Prop := Below n₀ W W' ∧ ∀ (k : Nat) (c : Array Value) (t : TypeId) (fr : Nat × Nat), n₁ ≤ k → W.heap[k]? = some (.cells c t fr) → W'.heap[k]? = some (.cells c t fr)
theorem KpC.refl (n₀ n₁ : Nat) (W : World) : KpC n₀ n₁ W W := ⟨Below.refl _ _, fun _ _ _ _ _ h => h⟩
theorem KpC.trans {n₀ n₁ : Nat} {A B C : World} (h : KpC n₀ n₁ A B) (k : KpC n₀ n₁ B C) : KpC n₀ n₁ A C := ⟨h.1.trans k.1, fun j c t fr hj hc => k.2 j c t fr hj (h.2 j c t fr hj hc)⟩
theorem KpC.alloc {n₀ n₁ : Nat} {A B : World} (h : KpC n₀ n₁ A B) (hn : n₀ ≤ B.heap.size) (o : Obj) : KpC n₀ n₁ A (B.alloc o) :=
  ⟨h.1.alloc hn o, fun j c t fr hj hc => (Below.heap_alloc B o j (Array.getElem?_eq_some_iff.1 (h.2 j c t fr hj hc)).1).trans (h.2 j c t fr hj hc)⟩
theorem KpC.putObj {n₀ n₁ : Nat} {w : World} (hn : n₀ ≤ w.heap.size) (W : World) (l : Nat) (o o' : Obj) (hl : w.heap.size ≤ l) (h : W.heap[l]? = some o) (hc : o.isCells = false) (hw : o.isWalk = false) : KpC n₀ n₁ W (W.putObj l o') :=
  ⟨belowK_b hn W l o o' hl h hc hw, fun j c t fr _ hj => by
    by_cases e : j = l
    · subst e
      rw [h] at hj
      cases hj
      cases hc
    · exact (World.putObj_heap_other e).trans hj⟩
theorem KpC.drewN {n₀ n₁ : Nat} {A B : World} (h : KpC n₀ n₁ A B) (q : Nat) : KpC n₀ n₁ A (B.drewN q) := ⟨pw_below_drewN h.1 q, h.2⟩
theorem KpC.set {n₀ n₁ : Nat} {A B : World} (h : KpC n₀ n₁ A B) {b : Nat} (h0 : n₀ ≤ b) (h1 : b < n₁) (j : Nat) (v : Value) : KpC n₀ n₁ A (B.setCell ⟨b, j, none⟩ v) :=
  ⟨h.1.setCell (p := ⟨b, j, none⟩) h0 v, fun k c t fr hk hc => (Below.heap_setCell B _ v k (fun e => by simp at e; omega)).trans (h.2 k c t fr hk hc)⟩

/-- A box of five cells: an expression as a value. -/
def Box5 (W : World) (B : Nat) (n : Nd) : Prop := W.heap[B]? = some (.cells #[.int .i64 n.x.f0, .int .u8 n.x.f1.f0, .int .i64 n.x.f1.f1, .string n.x.f1.f2, .slice n.A n.x.f2.length n.c] 35 (0, 0))
theorem Box5.cells {W : World} {B : Nat} {n : Nd} (h : Box5 W B n) : W.cell? ⟨B, 0, none⟩ = some (.int .i64 n.x.f0) ∧ W.cell? ⟨B, 1, none⟩ = some (.int .u8 n.x.f1.f0) ∧ W.cell? ⟨B, 2, none⟩ = some (.int .i64 n.x.f1.f1) ∧ W.cell? ⟨B, 3, none⟩ = some (.string n.x.f1.f2) ∧ W.cell? ⟨B, 4, none⟩ = some (.slice n.A n.x.f2.length n.c) := by
  unfold Box5 at h
  refine ⟨?_, ?_, ?_, ?_, ?_⟩ <;> simp [World.cell?, h]
theorem Box5.new (W : World) (n : Nd) : Box5 (W.alloc (.cells #[.int .i64 n.x.f0, .int .u8 n.x.f1.f0, .int .i64 n.x.f1.f1, .string n.x.f1.f2, .slice n.A n.x.f2.length n.c] 35)) W.heap.size n := World.alloc_heap_new W _
theorem Box5.lt {W : World} {B : Nat} {n : Nd} (h : Box5 W B n) : B < W.heap.size := (Array.getElem?_eq_some_iff.1 h).1
theorem Box5.alloc {W : World} {B : Nat} {n : Nd} (h : Box5 W B n) (o : Obj) : Box5 (W.alloc o) B n := (Below.heap_alloc W o B h.lt).trans h
theorem Box5.kept {W W' : World} {B : Nat} {n : Nd} (h : Box5 W B n) {n₀ n₁ : Nat} (hk : KpC n₀ n₁ W W') (hB : n₁ ≤ B) : Box5 W' B n := hk.2 B _ _ _ hB h
theorem Box5.below {W W' : World} {B : Nat} {n : Nd} (h : Box5 W B n) {m : Nat} (hb : Below m W W') (hB : B < m) : Box5 W' B n := by
  unfold Box5 at h ⊢
  exact (hb.block B hB).trans h

set_option maxRecDepth 100000 in
set_option maxHeartbeats 2000000 in
/-- 'expr.walk': by induction on the tree. -/
theorem walk_in (F : Fence) (hd : F.depth = none) (hw : F.fn 49) (hro : F.round = none) (l : Nat) (w0 : World) (n₁ N : Nat) (hn1 : w0.heap.size ≤ n₁) (J Jx : List Nd → World → Prop)
    (hJa : ∀ s W o, J s W → J s (W.alloc o))
    (hY : ∀ m pre x W, J pre W → pre.length < N → YieldAt F m Tryd.prog l (encs x) W fun e W' =>
      (e = .returned (.bool true) ∧ J (pre ++ [x]) W' ∧ KpC w0.heap.size n₁ W W') ∨ (e = .returned (.bool false) ∧ Jx (pre ++ [x]) W')) (x : S35) :
    ∀ (n : Nat) (A : Option Addr) (c : Nat) (pre : List Nd) (W : World), Kd.C k35 w0 A x.f2.length x.f2 → J pre W → Below w0.heap.size w0 W → n₁ ≤ W.heap.size → pre.length + (preS x).length ≤ N →
      CallsIn F n Tryd.prog 49 #[.agg #[.int .i64 x.f0, .int .u8 x.f1.f0, .int .i64 x.f1.f1, .string x.f1.f2, .slice A x.f2.length c], .func (.yield l) #[] #[]] W fun e W' =>
        (e = .returned (.bool true) ∧ ∃ q : List Nd, q.map (·.x) = preS x ∧ J (pre ++ q) W' ∧ KpC w0.heap.size n₁ W W') ∨ (e = .returned (.bool false) ∧ ∃ q : List Nd, q.map (·.x) <+: preS x ∧ Jx (pre ++ q) W') := by
  induction x using tree_ind with
  | h o v ch ih =>
  intro n A c pre W hC hJ hb hn hN
  have hdd : ∀ k : Nat, (F.depth.isSome = true → 1 ≤ k) := fun k h => by rw [hd] at h; cases h
  have hch := hC.2.1
  simp only [preS, List.length_cons] at hN
  -- the box, and the round at this part
  have hJ1 := hJa pre W (.cells #[.int .i64 o, .int .u8 v.f0, .int .i64 v.f1, .string v.f2, .slice A ch.length c] 35) hJ
  have hx1 : Box5 (W.alloc (.cells #[.int .i64 o, .int .u8 v.f0, .int .i64 v.f1, .string v.f2, .slice A ch.length c] 35)) W.heap.size ⟨⟨o, v, ch⟩, A, c⟩ := Box5.new W ⟨⟨o, v, ch⟩, A, c⟩
  have hk1 : KpC w0.heap.size n₁ W (W.alloc (.cells #[.int .i64 o, .int .u8 v.f0, .int .i64 v.f1, .string v.f2, .slice A ch.length c] 35)) := (KpC.refl _ _ W).alloc (by omega) _
  obtain ⟨fn, tmps, assign, body, hy, hR⟩ := hY (n - 1) pre ⟨⟨o, v, ch⟩, A, c⟩ _ hJ1 (by omega)
  dsimp only [encs] at hy
  have hR := hR.mono (R' := fun e W2 => (e = .returned (.bool true) ∧ J (pre ++ [(⟨⟨o, v, ch⟩, A, c⟩ : Nd)]) W2 ∧ KpC w0.heap.size n₁ W W2 ∧ W2.cell? ⟨W.heap.size, 4, none⟩ = some (.slice A ch.length c)) ∨ (e = .returned (.bool false) ∧ Jx (pre ++ [(⟨⟨o, v, ch⟩, A, c⟩ : Nd)]) W2))
    (fun e W2 h => h.elim (fun ⟨he, hj, hk⟩ => .inl ⟨he, hj, hk1.trans hk, ((hx1.kept hk hn).cells).2.2.2.2⟩) .inr)
  have HC := Aside0.mk hC
  clear hC hx1 hk1 hJ1
  refine callsIn_of_wp Tryd.func49 rfl hw ?_ hro
  simp only [Tryd.ntmps49, List.size_toArray, List.length_cons, List.length_nil, Nat.reduceAdd, Nat.reduceSub, Array.replicate_succ, Array.replicate_zero, List.push_toArray, List.append_toArray, List.nil_append, List.cons_append]
  gi_wp2_with ((try refine ⟨hdd _, ?_⟩); refine hR.mono ?_; clear hR; rintro e W2 (⟨rfl, hJ2, hk2, hc4⟩ | ⟨rfl, hx2⟩))
  · clear hy
    have hn2 : n₁ ≤ W2.heap.size := Nat.le_trans hn (Nat.le_trans hk2.1.size (Nat.le_refl _))
    gi_loopw [14] (fun i wr => ∃ (k : Nat) (q : List Nd), k ≤ ch.length ∧ i = .int .i64 k ∧ q.map (·.x) = presS (ch.take k) ∧ J (pre ++ [(⟨⟨o, v, ch⟩, A, c⟩ : Nd)] ++ q) wr ∧ KpC w0.heap.size n₁ W wr)
      (fun i _ => ch.length - (intOf i).toNat)
    case atStart => exact ⟨0, [], Nat.zero_le _, rfl, rfl, by simpa using hJ2, hk2⟩
    case round =>
      obtain ⟨k, q, hk, rfl, hq, hJ3, hk3⟩ := hrel
      by_cases hlt : k < ch.length
      · obtain ⟨ad, A4, c4, hA, g0, g1, g2, g3, g4, hl4, hC4⟩ := at_T35 HC.out (k : Int) (by omega) (by omega)
        have hrd : rd_T35 ch (k : Int) = ch[k] := by
          unfold rd_T35
          rw [Int.toNat_natCast, List.getD_eq_getElem?_getD, List.getElem?_eq_getElem hlt]
          rfl
        have hmem : ch[k] ∈ ch := List.getElem_mem hlt
        have hsum := presS_take ch k hlt
        rw [hrd] at g0 g1 g2 g3 g4 hl4 hC4
        simp only [Int.toNat_natCast] at g0 g1 g2 g3 g4
        generalize ch[k] = a at *
        have hb3 : Below w0.heap.size w0 wr := hb.trans hk3.1
        replace g0 := (hb3.cell (World.block_lt_of_cell? w0 _ g0)).trans g0
        replace g1 := (hb3.cell (World.block_lt_of_cell? w0 _ g1)).trans g1
        replace g2 := (hb3.cell (World.block_lt_of_cell? w0 _ g2)).trans g2
        replace g3 := (hb3.cell (World.block_lt_of_cell? w0 _ g3)).trans g3
        replace g4 := (hb3.cell (World.block_lt_of_cell? w0 _ g4)).trans g4
        subst hA
        have hn3 : n₁ ≤ wr.heap.size := Nat.le_trans hn hk3.1.size
        obtain ⟨t, ht⟩ := presS_prefix ch (k + 1)
        have hcount : (pre ++ [(⟨⟨o, v, ch⟩, some ad, c⟩ : Nd)] ++ q).length + (preS a).length ≤ N := by
          have h1 : q.length = (presS (ch.take k)).length := by rw [← hq, List.length_map]
          have h2 : (presS ch).length = (presS (ch.take k)).length + (preS a).length + t.length := by rw [ht, hsum, List.length_append, List.length_append]
          simp only [List.length_append, List.length_cons, List.length_nil]
          omega
        have hcall := ih a hmem (n - 1) A4 c4 (pre ++ [(⟨⟨o, v, ch⟩, some ad, c⟩ : Nd)] ++ q) (wr.alloc (.cells #[.int .i64 a.f0, .int .u8 a.f1.f0, .int .i64 a.f1.f1, .string a.f1.f2, .slice A4 a.f2.length c4] 35)) hC4 (hJa _ _ _ hJ3) (hb3.alloc (by omega) _) (by simp; omega) hcount
        have HQ := Aside0.mk hq
        have HT := Aside0.mk ht
        have HS := Aside0.mk hsum
        clear hq ht hsum hrd hcount ih hJ3
        gi_wp2_with ((try refine ⟨hdd _, ?_⟩); gi_at_call 49; refine hcall.mono ?_; clear hcall; rintro e W4 (⟨rfl, q', hq', hJ4, hk4⟩ | ⟨rfl, q', hq', hx4⟩))
        · go_roundw
          case rel => exact ⟨k + 1, q ++ q', by omega, by go_num, by rw [List.map_append, HQ.out, hq', HS.out], by rw [← List.append_assoc]; exact hJ4, (hk3.alloc (by omega) _).trans hk4⟩
          case measure => simp [intOf]; omega
        · go_ret
          obtain ⟨r, hr'⟩ := hq'
          refine .inr ⟨rfl, (⟨⟨o, v, ch⟩, some ad, c⟩ : Nd) :: (q ++ q'), ⟨r ++ t, ?_⟩, ?_⟩
          · simp only [preS, List.map_cons, List.map_append, HQ.out, HT.out, HS.out, List.cons_append, List.append_assoc]
            rw [← hr']
            simp
          · simpa using hx4
      · obtain rfl : k = ch.length := by omega
        gi_wp2
        go_ret
        rw [List.take_length] at hq
        exact .inl ⟨rfl, (⟨⟨o, v, ch⟩, A, c⟩ : Nd) :: q, by simp [preS, hq], by simpa using hJ3, hk3⟩
  · go_ret
    exact .inr ⟨rfl, [(⟨⟨o, v, ch⟩, A, c⟩ : Nd)], ⟨presS ch, by simp [preS]⟩, hx2⟩

theorem room_of_none {F : Fence} (hd : F.depth = none) (k : Nat) : F.room k := fun d h => by rw [hd] at h; cases h
theorem roundIn_any {F : Fence} (hd : F.depth = none) {m m' : Nat} {P : Program} {l : Nat} {f : FuncId} {tmps : Array Value} {assign body : Code} {w : World} {R : Ending → World → Prop}
    (h : RoundIn F m P l f tmps assign body w R) : RoundIn F m' P l f tmps assign body w R := ⟨h.1, fun c cs _ => h.2 c cs (room_of_none hd _)⟩
theorem yieldAt_any {F : Fence} (hd : F.depth = none) {m : Nat} (m' : Nat) {P : Program} {l : Nat} {args : Array Value} {W : World} {R : Ending → World → Prop} (h : YieldAt F m P l args W R) : YieldAt F m' P l args W R := by
  obtain ⟨fn, tmps, assign, body, hy, hR⟩ := h
  exact ⟨fn, tmps, assign, body, hy, roundIn_any hd hR⟩

set_option maxHeartbeats 1000000 in
/-- The closure that expr.parts hands back. -/
theorem parts1_in (F : Fence) (hd : F.depth = none) (h1 : F.fn 48) (hw : F.fn 49) (hro : F.round = none) (n l Bt : Nat) (w0 : World) (n₁ : Nat) (hn1 : w0.heap.size ≤ n₁) (d : Nd) (J Jx : List Nd → World → Prop)
    (hJa : ∀ s W o, J s W → J s (W.alloc o))
    (hY : ∀ pre x W, J pre W → pre.length < (preS d.x).length → YieldAt F (n - 1) Tryd.prog l (encs x) W fun e W' =>
      (e = .returned (.bool true) ∧ J (pre ++ [x]) W' ∧ KpC w0.heap.size n₁ W W') ∨ (e = .returned (.bool false) ∧ Jx (pre ++ [x]) W'))
    (W : World) (hB : Box5 W Bt d) (hC : Kd.C k35 w0 d.A d.x.f2.length d.x.f2) (hb : Below w0.heap.size w0 W) (hn : n₁ ≤ W.heap.size) (h0 : J [] W) :
    CallsIn F n Tryd.prog 48 #[.func (.yield l) #[] #[], .pointer (some ⟨Bt, 0, none⟩)] W fun e W' => (∃ v, e = .returned v) ∧
      ((∃ ys : List Nd, ys.map (·.x) = preS d.x ∧ J ys W') ∨ (∃ pre : List Nd, pre.map (·.x) <+: preS d.x ∧ Jx pre W')) := by
  have hdd : ∀ k : Nat, (F.depth.isSome = true → 1 ≤ k) := fun k h => by rw [hd] at h; cases h
  have hp := walk_in F hd hw hro l w0 n₁ (preS d.x).length hn1 J Jx hJa (fun m pre x W hj hl => yieldAt_any hd m (hY pre x W hj hl)) d.x (n - 1) d.A d.c [] W hC h0 hb hn (by simp)
  obtain ⟨b0, b1, b2, b3, b4⟩ := hB.cells
  refine callsIn_of_wp Tryd.func48 rfl h1 ?_ hro
  simp only [Tryd.ntmps48, List.size_toArray, List.length_cons, List.length_nil, Nat.reduceAdd, Nat.reduceSub, Array.replicate_succ, Array.replicate_zero, List.push_toArray, List.append_toArray, List.nil_append, List.cons_append]
  gi_wp2_with ((try refine ⟨hdd _, ?_⟩); gi_at_call 49; refine hp.mono ?_; clear hp; rintro e W1 (⟨rfl, q, hq, hJ1, _⟩ | ⟨rfl, q, hq, hx⟩))
  · go_end0
    exact ⟨⟨_, rfl⟩, .inl ⟨q, hq, by simpa using hJ1⟩⟩
  · go_end0
    exact ⟨⟨_, rfl⟩, .inr ⟨q, hq, by simpa using hx⟩⟩

set_option maxHeartbeats 1000000 in
/-- 'expr.parts': the expression is boxed; the function value captures the box. -/
theorem parts_in (F : Fence) (n : Nat) (hp : F.fn 40) (hro : F.round = none) (d : Nd) (w : World) :
    CallsIn F n Tryd.prog 40 #[.agg #[.int .i64 d.x.f0, .int .u8 d.x.f1.f0, .int .i64 d.x.f1.f1, .string d.x.f1.f2, .slice d.A d.x.f2.length d.c]] w fun e w' => e = .returned (.func (.func 48) #[] #[.pointer (some ⟨w.heap.size, 0, none⟩)]) ∧ w' = w.alloc (.cells #[.int .i64 d.x.f0, .int .u8 d.x.f1.f0, .int .i64 d.x.f1.f1, .string d.x.f1.f2, .slice d.A d.x.f2.length d.c] 35) := by
  refine callsIn_of_wp Tryd.func40 rfl hp ?_ hro
  simp only [Tryd.ntmps40, List.size_toArray, List.length_cons, List.length_nil, Nat.reduceAdd, Nat.reduceSub, Array.replicate_succ, Array.replicate_zero, List.push_toArray, List.append_toArray, List.nil_append, List.cons_append]
  gi_wp2
  go_ret
  exact ⟨rfl, rfl⟩

/-- What expr.parts hands back keeps an iterator's contract: all parts in order, or the first of them. -/
theorem parts_stops (F : Fence) (hd : F.depth = none) (n : Nat) (h1 : F.fn 48) (hw : F.fn 49) (hro : F.round = none) (Bt : Nat) (w0 : World) (d : Nd) (w : World) (hn : w0.heap.size ≤ w.heap.size) (hB : Box5 w Bt d)
    (hC : Kd.C k35 w0 d.A d.x.f2.length d.x.f2) (hb : Below w0.heap.size w0 w) :
    SeqStopsK F n Tryd.prog 48 #[.pointer (some ⟨Bt, 0, none⟩)] encs (KpC w0.heap.size w.heap.size) (fun ys => ys.map (·.x) = preS d.x) (fun pre => pre.map (·.x) <+: preS d.x) (preS d.x).length w := fun l J Jx W hW hJ _ hY h0 =>
  parts1_in F hd h1 hw hro n l Bt w0 w.heap.size hn d J Jx (fun s V o hs => hJ s V _ none hs (World.grownBy_alloc V o none) (fun r e => by cases e)) hY W (hB.below hW hB.lt) hC (hb.trans (hW.mono hn)) hW.size h0

set_option maxRecDepth 100000 in
set_option maxHeartbeats 2000000 in
/-- 'expr.Size': how many parts there are. -/
theorem Size_in (F : Fence) (hd : F.depth = none) (n : Nat) (hs : F.fn 19) (hp : F.fn 40) (h1 : F.fn 48) (hw : F.fn 49) (hro : F.round = none) (hn : 3 ≤ n) (d : Nd) (w : World) (hC : Kd.C k35 w d.A d.x.f2.length d.x.f2)
    (hsz : (preS d.x).length < 9223372036854775807) :
    CallsIn F n Tryd.prog 19 #[.agg #[.int .i64 d.x.f0, .int .u8 d.x.f1.f0, .int .i64 d.x.f1.f1, .string d.x.f1.f2, .slice d.A d.x.f2.length d.c]] w fun e W' => e = .returned (.int .i64 ((preS d.x).length : Int)) ∧ Below w.heap.size w W' := by
  have hone : 1 ≤ n := by omega
  refine callsIn_of_wp_marks Tryd.func19 rfl hs ?_ hro
  simp only [Tryd.ntmps19, List.size_toArray, List.length_cons, List.length_nil, Nat.reduceAdd, Nat.reduceSub, Array.replicate_succ, Array.replicate_zero, List.push_toArray, List.append_toArray, List.nil_append, List.cons_append]
  gi_wp2_with (gi_at_call 40; refine (parts_in F (n - 1) hp hro d _).mono ?_; rintro e w' ⟨rfl, rfl⟩)
  have bX := ((Box5.new w d).alloc (.cells #[.int .i64 0] 3)).alloc (.cells #[.int .i64 d.x.f0, .int .u8 d.x.f1.f0, .int .i64 d.x.f1.f1, .string d.x.f1.f2, .slice d.A d.x.f2.length d.c] 35)
  have bN := (Boxed.new (w.alloc (.cells #[.int .i64 d.x.f0, .int .u8 d.x.f1.f0, .int .i64 d.x.f1.f1, .string d.x.f1.f2, .slice d.A d.x.f2.length d.c] 35)) 3 (.int .i64 0)).alloc (.cells #[.int .i64 d.x.f0, .int .u8 d.x.f1.f0, .int .i64 d.x.f1.f1, .string d.x.f1.f2, .slice d.A d.x.f2.length d.c] 35)
  have bP := Box5.new ((w.alloc (.cells #[.int .i64 d.x.f0, .int .u8 d.x.f1.f0, .int .i64 d.x.f1.f1, .string d.x.f1.f2, .slice d.A d.x.f2.length d.c] 35)).alloc (.cells #[.int .i64 0] 3)) d
  have hB0 : Below w.heap.size w (((w.alloc (.cells #[.int .i64 d.x.f0, .int .u8 d.x.f1.f0, .int .i64 d.x.f1.f1, .string d.x.f1.f2, .slice d.A d.x.f2.length d.c] 35)).alloc (.cells #[.int .i64 0] 3)).alloc (.cells #[.int .i64 d.x.f0, .int .u8 d.x.f1.f0, .int .i64 d.x.f1.f1, .string d.x.f1.f2, .slice d.A d.x.f2.length d.c] 35)) := (((Below.refl _ w).alloc (Nat.le_refl _) _).alloc (by simp) _).alloc (by simp; omega) _
  have hsz0 : (((w.alloc (.cells #[.int .i64 d.x.f0, .int .u8 d.x.f1.f0, .int .i64 d.x.f1.f1, .string d.x.f1.f2, .slice d.A d.x.f2.length d.c] 35)).alloc (.cells #[.int .i64 0] 3)).alloc (.cells #[.int .i64 d.x.f0, .int .u8 d.x.f1.f0, .int .i64 d.x.f1.f1, .string d.x.f1.f2, .slice d.A d.x.f2.length d.c] 35)).heap.size = w.heap.size + 3 := by simp
  simp only [World.size_alloc] at bN bP
  obtain ⟨W0, hW0⟩ : ∃ W0, ((w.alloc (.cells #[.int .i64 d.x.f0, .int .u8 d.x.f1.f0, .int .i64 d.x.f1.f1, .string d.x.f1.f2, .slice d.A d.x.f2.length d.c] 35)).alloc (.cells #[.int .i64 0] 3)).alloc (.cells #[.int .i64 d.x.f0, .int .u8 d.x.f1.f0, .int .i64 d.x.f1.f1, .string d.x.f1.f2, .slice d.A d.x.f2.length d.c] 35) = W0 := ⟨_, rfl⟩
  rw [hW0] at bX bN bP hB0 hsz0 ⊢
  clear hW0
  refine wpIn_rangeFunc_ownH hro hone (gf := 48) (lb := #[.pointer (some ⟨w.heap.size + 1 + 1, 0, none⟩)]) rfl h1 (enters_of Tryd.func48 (by kernel_rfl) rfl)
    (parts_stops F hd (n - 1) h1 hw hro (w.heap.size + 1 + 1) w d W0 (by omega) bP hC hB0) KpC.trans (KpC.putObj (by omega)) (Below.refl _ _) (fun _ => rfl)
    (fun pre W => Boxed W (w.heap.size + 1) 3 (.int .i64 (pre.length : Int)) ∧ Below w.heap.size w W)
    (fun _ _ _ => False)
    (OwnFrom.and (Own.from (boxed_own _ _ _) _) (ownFrom_below (Nat.le_refl _) (by omega)))
    (fun _ _ _ _ _ hs _ _ => hs)
    ⟨bN, hB0⟩
    (fun x a' _ => a' = { tmps := #[.agg #[.int .i64 d.x.f0, .int .u8 d.x.f1.f0, .int .i64 d.x.f1.f1, .string d.x.f1.f2, .slice d.A d.x.f2.length d.c], .pointer (some ⟨w.heap.size, 0, none⟩), .int .i64 0, .pointer (some ⟨w.heap.size + 1, 0, none⟩), .agg #[.int .i64 d.x.f0, .int .u8 d.x.f1.f0, .int .i64 d.x.f1.f1, .string d.x.f1.f2, .slice d.A d.x.f2.length d.c], .func (.func 48) #[] #[.pointer (some ⟨w.heap.size + 1 + 1, 0, none⟩)], .agg #[.int .i64 x.x.f0, .int .u8 x.x.f1.f0, .int .i64 x.x.f1.f1, .string x.x.f1.f2, .slice x.A x.x.f2.length x.c], undef, undef, undef], defers := [] })
    (fun _ _ _ _ _ _ hs _ _ => hs)
    ?assign ?body ?done ?stop
  case assign =>
    rintro l pre x W K hi hK
    dsimp only [encs]
    gi_wp2
    exact hK _ _ (KeepsFrom.refl _ _) (KpC.refl _ _ _) hi (by simp)
  case body =>
    rintro l pre x a' W _ _ ⟨bN1, hB1⟩ rfl hlt
    have cN := bN1.cell
    have fN := bN1.frozen
    have hlt2 : pre.length < 9223372036854775807 := by omega
    gi_wp2
    refine ⟨(KeepsOthers.setCell _ _ _).from _, (KpC.refl _ _ W).set (b := w.heap.size + 1) (by omega) (by omega) 0 _, ?_, hB1.setCell (p := ⟨w.heap.size + 1, 0, none⟩) (by simp) _⟩
    have := bN1.set (.int .i64 ((pre.length : Int) + 1))
    simpa using this
  case done =>
    rintro D zs W hD hzs ⟨bN1, hB1⟩ hK
    have cN := bN1.cell
    gi_wp2
    refine ⟨by simp, .inl ⟨_, _, rfl, run_takeDeferred hK, ?_⟩⟩
    have hl : (preS d.x).length = zs.length := by rw [← hzs, List.length_map]
    exact ⟨_, results_tmp rfl _ _ _, by rw [hl]; rfl, hB1.trans (belowK_b (w := w) (Nat.le_refl _) W D _ _ (by omega) hK rfl rfl)⟩
  case stop =>
    rintro D c pre W _ _ h _
    exact h.elim

/-- .. as a plain contract. -/
theorem Size_calls (d : Nd) (w : World) (hC : Kd.C k35 w d.A d.x.f2.length d.x.f2) (hsz : (preS d.x).length < 9223372036854775807) :
    Calls Tryd.prog 19 #[.agg #[.int .i64 d.x.f0, .int .u8 d.x.f1.f0, .int .i64 d.x.f1.f1, .string d.x.f1.f2, .slice d.A d.x.f2.length d.c]] w fun e W' => e = .returned (.int .i64 ((preS d.x).length : Int)) ∧ Below w.heap.size w W' :=
  (callsIn_wide (n := 3)).1 (Size_in Fence.wide rfl 3 trivial trivial trivial trivial rfl (by omega) d w hC hsz)
end Go.Proofs.YtaebjcldopoccaaDoor.EsIter
