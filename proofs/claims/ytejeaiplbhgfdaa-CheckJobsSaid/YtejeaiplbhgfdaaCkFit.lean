/- What every expression that came in keeps. -/
import Derived.Test.YtejeaiplbhgfdaaCkx0
namespace Go.Proofs.Ytejeaiplbhgfdaa.CkFit
open Go.Proofs.Ytejeaiplbhgfdaa.Ck
/-- What every value that came in keeps: each number is of its kind, each text and list is of a length. -/
def V23 (v : S23) : Prop := 0 ≤ v.f0 ∧ v.f0 ≤ 255 ∧ -9223372036854775808 ≤ v.f1 ∧ v.f1 ≤ 9223372036854775807 ∧ v.f2.size ≤ 9223372036854775807
inductive Fit26 : S26 → Prop where
  | mk {o : Int} {v : S23} {l : List S26} : -9223372036854775808 ≤ o → o ≤ 9223372036854775807 → V23 v → l.length ≤ 9223372036854775807 → (∀ a, a ∈ l → Fit26 a) → Fit26 ⟨o, v, l⟩

def Fit47 (m : S47) : Prop := Fit26 m.f0 ∧ Fit26 m.f1 ∧ Fit26 m.f2
structure Fit38 (j : S38) : Prop where
  name : j.f0.size ≤ 9223372036854775807
  each0 : -9223372036854775808 ≤ j.f1
  each1 : j.f1 ≤ 9223372036854775807
  len : j.f2.length ≤ 9223372036854775807
  emits : ∀ m, m ∈ j.f2 → Fit47 m
  fold0 : -9223372036854775808 ≤ j.f3
  fold1 : j.f3 ≤ 9223372036854775807
  fin : Fit26 j.f4
  parts0 : -9223372036854775808 ≤ j.f6
  parts1 : j.f6 ≤ 9223372036854775807
end Go.Proofs.Ytejeaiplbhgfdaa.CkFit
