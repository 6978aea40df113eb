/- ExprSames answers true: in plain Lean. Two expressions that may be have one text just if they are the same. -/
import Derived.Test.YtaebjcldopoccaaDoorElSames
import Derived.Test.YtaebjcldopoccaaDoorEsUniq
namespace Go.Proofs.YtaebjcldopoccaaDoor.El
open Go.RowKit Go.Proofs.YtaebjcldopoccaaDoorW.PrintWords Go.Proofs.YtaebjcldopoccaaDoor.Es Go.Proofs.YtaebjcldopoccaaDoor.EsIter Go.Proofs.YtaebjcldopoccaaDoor.EsLaw Go.Proofs.YtaebjcldopoccaaDoor.EsText Go.Proofs.YtaebjcldopoccaaDoor.EsTextC Go.Proofs.YtaebjcldopoccaaDoor.EsRefT Go.Proofs.YtaebjcldopoccaaDoor.EsLawS Go.Proofs.YtaebjcldopoccaaDoor.EsSame
theorem bs_eq {a b : List UInt8} : (bs a).toList == (bs b).toList ↔ a = b := by
  rw [beq_iff_eq, toList_eq_iff]
  constructor
  · intro h
    have := congrArg (fun x : ByteArray => x.data.toList) h
    simpa [bs] using this
  · intro h; rw [h]
theorem sames_j1 (o : Int) (v : S32) (l : List S35) (p : Int) (u : S32) (m : List S35) (k : Nat) :
    gristmilllaw09_ExprSames.j1 (k + 1) (sameS ⟨o, v, l⟩ ⟨p, u, m⟩) false o v.f0 v.f1 v.f2 l p u.f0 u.f1 u.f2 m = some true := by
  simp only [gristmilllaw09_ExprSames.j1, Bool.false_eq_true, if_false]
  have e1 : expr_Same.f o v.f0 v.f1 v.f2 l p u.f0 u.f1 u.f2 m = some (sameS ⟨o, v, l⟩ ⟨p, u, m⟩) := rfl
  have e2 : expr_Same.f o v.f0 v.f1 v.f2 l o v.f0 v.f1 v.f2 l = some true := by
    show some (sameS ⟨o, v, l⟩ ⟨o, v, l⟩) = _
    rw [same_refl]
  rw [e1, e2]
  simp only [Option.bind_some, beq_self_eq_true, if_true, gristmilllaw09_live.f]
theorem exprSames_true (o : Int) (v : S32) (l : List S35) (p : Int) (u : S32) (m : List S35) : gristmilllaw09_ExprSames.f 2 o v.f0 v.f1 v.f2 l p u.f0 u.f1 u.f2 m = some true := by
  unfold gristmilllaw09_ExprSames.f
  have b1 : gristmillref09_Big.f o v.f0 v.f1 v.f2 l = some (bigS ⟨o, v, l⟩) := rfl
  have b2 : gristmillref09_Big.f p u.f0 u.f1 u.f2 m = some (bigS ⟨p, u, m⟩) := rfl
  rw [b1, b2, Option.bind_some, Option.bind_some]
  have jt : gristmilllaw09_ExprSames.j0 2 true o v.f0 v.f1 v.f2 l p u.f0 u.f1 u.f2 m = some true := by
    simp only [gristmilllaw09_ExprSames.j0, if_true, gristmilllaw09_live.f, Option.bind_some]
  by_cases hx : bigS ⟨o, v, l⟩ = true
  · rw [if_pos hx, jt]
  · rw [if_neg hx]
    by_cases hy : bigS ⟨p, u, m⟩ = true
    · rw [hy, jt]
    · rw [Bool.not_eq_true] at hx hy
      rw [hy]
      have x1 := small_of hx
      have x2 := small_w hx
      have y1 := small_of hy
      have y2 := small_w hy
      have e1 : gristmillref09_Same.f o v.f0 v.f1 v.f2 l p u.f0 u.f1 u.f2 m = some (sameS ⟨o, v, l⟩ ⟨p, u, m⟩) := rfl
      have e2 : gristmillref09_Right.f o v.f0 v.f1 v.f2 l = some (rv ⟨o, v, l⟩) := if_pos x1
      have e3 : gristmillref09_Right.f p u.f0 u.f1 u.f2 m = some (rv ⟨p, u, m⟩) := if_pos y1
      have e4 : expr_Text.f o v.f0 v.f1 v.f2 l = some (bs (textS ⟨o, v, l⟩)) := if_pos x2
      have e5 : expr_Text.f p u.f0 u.f1 u.f2 m = some (bs (textS ⟨p, u, m⟩)) := if_pos y2
      simp only [gristmilllaw09_ExprSames.j0, Bool.false_eq_true, if_false]
      rw [e1, e2, e3, e4, e5]
      simp only [Option.bind_some]
      by_cases r1 : rv ⟨o, v, l⟩ = 0
      · rw [if_pos r1]
        by_cases r2 : rv ⟨p, u, m⟩ = 0
        · rw [if_pos r2]
          have ht := text_same r1 r2
          have hb : (((bs (textS ⟨o, v, l⟩)).toList == (bs (textS ⟨p, u, m⟩)).toList) != sameS ⟨o, v, l⟩ ⟨p, u, m⟩) = false := by
            rw [bne_eq_false_iff_eq, Bool.eq_iff_iff, bs_eq, ht]
          rw [hb]
          exact sames_j1 o v l p u m 0
        · rw [if_neg r2]
          exact sames_j1 o v l p u m 0
      · rw [if_neg r1]
        exact sames_j1 o v l p u m 0
end Go.Proofs.YtaebjcldopoccaaDoor.El
