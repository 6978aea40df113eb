/-
  NARROWER THAN 'FOR EVERY INPUT', by the rows' own cells (each row's printed sentence says how): CheckKinds: loops · CheckJobs: loops · CheckWhole: loops.
  DERIVED. THE GIVEN ROWS OF THIS SEAT. 3 by the template 'for every input the law returns true; each argument reads behind the call as it read before'; 0 by the template 'total and deterministic' (their statements: YtejeaiplbhgfdaaTotals.lean).
  GIVEN WITH THE SEED: the statements are not yours to turn. If you find one false, say at which input.
  Laid BY PROGRAM, IN A SANDBOX (cutbox-rows.mjs): the forced cells as the released guide's own fill.sh prints them over the translation fb50cb54773937d3… (all of the seat's roots in one cut). By AI agents, Wed Nov 11 2026. No macro, syntax, notation, axiom, sorry.
-/
import Derived.Test.YtejeaiplbhgfdaaChecked
import GoSem.Claim
import GoSem.ClaimJoined
import GoSem.ClaimMapViews
import Derived.JoinedTies
import Derived.KernelRfl
namespace Go.Proofs.Ytejeaiplbhgfdaa
/- THE CELL 'sum', in the pinned program and in every row, IS THE sha256 OF THE DUMP (.gsa) THAT YtejeaiplbhgfdaaProg.lean LOADS. Nothing in Lean hashes anything: it is a label: what it is worth is what the hold of that sum in a sandbox is worth. -/
noncomputable def Try.pinned : Pinned := { name := "ytejeaiplbhgfdaa", sum := "fb50cb54773937d35620bba3491bdfba1f74a78ba8f6b611fed5a84332ae80ac", checked := Try.checked }
namespace Rows
def none {H : Type} : Left H := { results := [], args := [] }

/-- 'gristmilllaw12.CheckKinds': WHATEVER THE INPUT: true; the input reads as it did. -/
def checkKindsSpec : ChangeSpec := { name := "checkKinds", fn := fun _ => fun
  | [d1, d2, d3] => { results := [.lit (.bool true)], args := [d1, d2, d3] }
  | _ => none }
def checkKindsRow : OpenClaim := { program := "ytejeaiplbhgfdaa", sum := "fb50cb54773937d35620bba3491bdfba1f74a78ba8f6b611fed5a84332ae80ac", func := "gristmill/gristmilllaw12.CheckKinds", spec := "checkKinds", recurses := true, loops := true, apart := false }
def CheckKindsSaid : Prop := checkKindsRow.holds Try.pinned (OpenSpec.ofChange checkKindsSpec)

/-- ITS FALSE NEIGHBOUR: 'it returns false'. Refute it at one input. -/
def checkKindsWrong : ChangeSpec := { name := "checkKinds", fn := fun _ => fun
  | [d1, d2, d3] => { results := [.lit (.bool false)], args := [d1, d2, d3] }
  | _ => none }
def CheckKindsWrongFalsely : Prop := checkKindsRow.holds Try.pinned (OpenSpec.ofChange checkKindsWrong)

/-- 'gristmilllaw12.CheckJobs': WHATEVER THE INPUT: true; the input reads as it did. -/
def checkJobsSpec : ChangeSpec := { name := "checkJobs", fn := fun _ => fun
  | [d1, d2] => { results := [.lit (.bool true)], args := [d1, d2] }
  | _ => none }
def checkJobsRow : OpenClaim := { program := "ytejeaiplbhgfdaa", sum := "fb50cb54773937d35620bba3491bdfba1f74a78ba8f6b611fed5a84332ae80ac", func := "gristmill/gristmilllaw12.CheckJobs", spec := "checkJobs", unfollowed := true, recurses := true, loops := true, apart := false }
def CheckJobsSaid : Prop := checkJobsRow.holds Try.pinned (OpenSpec.ofChange checkJobsSpec)

/-- ITS FALSE NEIGHBOUR: 'it returns false'. Refute it at one input. -/
def checkJobsWrong : ChangeSpec := { name := "checkJobs", fn := fun _ => fun
  | [d1, d2] => { results := [.lit (.bool false)], args := [d1, d2] }
  | _ => none }
def CheckJobsWrongFalsely : Prop := checkJobsRow.holds Try.pinned (OpenSpec.ofChange checkJobsWrong)

/-- 'gristmilllaw12.CheckWhole': WHATEVER THE INPUT: true; the input reads as it did. -/
def checkWholeSpec : ChangeSpec := { name := "checkWhole", fn := fun _ => fun
  | [d] => { results := [.lit (.bool true)], args := [d] }
  | _ => none }
def checkWholeRow : OpenClaim := { program := "ytejeaiplbhgfdaa", sum := "fb50cb54773937d35620bba3491bdfba1f74a78ba8f6b611fed5a84332ae80ac", func := "gristmill/gristmilllaw12.CheckWhole", spec := "checkWhole", unfollowed := true, recurses := true, loops := true, apart := false }
def CheckWholeSaid : Prop := checkWholeRow.holds Try.pinned (OpenSpec.ofChange checkWholeSpec)

/-- ITS FALSE NEIGHBOUR: 'it returns false'. Refute it at one input. -/
def checkWholeWrong : ChangeSpec := { name := "checkWhole", fn := fun _ => fun
  | [d] => { results := [.lit (.bool false)], args := [d] }
  | _ => none }
def CheckWholeWrongFalsely : Prop := checkWholeRow.holds Try.pinned (OpenSpec.ofChange checkWholeWrong)

/- THE SECOND FORM. 'bulk': how many values and letters a reading holds, each counted each time it is reached (what is shared counts as often as it is met; a slice's spare places count too). A statement '..UptoSaid' is the law's where the arguments, and the package variables that the reading takes, are together of bulk at most 1048576: NARROWER than '..Said'. Prove '..Said' where nothing that the law and all that it calls make is longer than what came in: it says more and counts as full. Else prove '..UptoSaid'. A law counts once. -/
mutual
def uptoBulk {H : Type} : DataW H → Nat
  | .lit (.string bytes) => bytes.length + 1
  | .lit _ => 1
  | .nil => 1
  | .ptr d => uptoBulk d + 1
  | .slice elems spare => uptoBulkAll elems + uptoBulkAll spare + 1
  | .agg parts => uptoBulkAll parts + 1
  | .iface _ d => uptoBulk d + 1
  | .map entries => uptoBulkEntries entries + 1
  | .held _ => 1
def uptoBulkAll {H : Type} : List (DataW H) → Nat
  | [] => 0
  | d :: r => uptoBulk d + uptoBulkAll r
def uptoBulkEntries {H : Type} : List (Lit × DataW H) → Nat
  | [] => 0
  | x :: r => uptoBulkEntry x + uptoBulkEntries r
def uptoBulkEntry {H : Type} : Lit × DataW H → Nat
  | (.string bytes, d) => bytes.length + uptoBulk d + 1
  | (_, d) => uptoBulk d + 1
 end
def uptoSmall : (H : Type) → List (DataW H) → Bool := fun _ ds => decide (uptoBulkAll ds ≤ 1048576)
def OpenSpec.upto (s : _root_.Go.ChangeSpec) : _root_.Go.OpenSpec := { _root_.Go.OpenSpec.ofChange s with cond := some uptoSmall }

/-- 'gristmilllaw12.CheckKinds', WHERE WHAT IT READS IS OF BULK AT MOST 1048576: true; the input reads as it did. -/
def checkKindsUptoRow : OpenClaim := { program := "ytejeaiplbhgfdaa", sum := "fb50cb54773937d35620bba3491bdfba1f74a78ba8f6b611fed5a84332ae80ac", func := "gristmill/gristmilllaw12.CheckKinds", spec := "checkKinds", recurses := true, loops := true, apart := false, narrowed := true }
def CheckKindsUptoSaid : Prop := checkKindsUptoRow.holds Try.pinned (OpenSpec.upto checkKindsSpec)

/-- 'gristmilllaw12.CheckJobs', WHERE WHAT IT READS IS OF BULK AT MOST 1048576: true; the input reads as it did. -/
def checkJobsUptoRow : OpenClaim := { program := "ytejeaiplbhgfdaa", sum := "fb50cb54773937d35620bba3491bdfba1f74a78ba8f6b611fed5a84332ae80ac", func := "gristmill/gristmilllaw12.CheckJobs", spec := "checkJobs", unfollowed := true, recurses := true, loops := true, apart := false, narrowed := true }
def CheckJobsUptoSaid : Prop := checkJobsUptoRow.holds Try.pinned (OpenSpec.upto checkJobsSpec)

/-- 'gristmilllaw12.CheckWhole', WHERE WHAT IT READS IS OF BULK AT MOST 1048576: true; the input reads as it did. -/
def checkWholeUptoRow : OpenClaim := { program := "ytejeaiplbhgfdaa", sum := "fb50cb54773937d35620bba3491bdfba1f74a78ba8f6b611fed5a84332ae80ac", func := "gristmill/gristmilllaw12.CheckWhole", spec := "checkWhole", unfollowed := true, recurses := true, loops := true, apart := false, narrowed := true }
def CheckWholeUptoSaid : Prop := checkWholeUptoRow.holds Try.pinned (OpenSpec.upto checkWholeSpec)

end Rows
end Go.Proofs.Ytejeaiplbhgfdaa
