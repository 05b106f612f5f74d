/-
  NARROWER THAN 'FOR EVERY INPUT', by the rows' own cells (each row's printed sentence says how): OccurHeads: loops · OccurLists: loops · OccurOnce: loops · ArithEvals: loops · ArithFolds: loops · ArithValues: loops · ArithClosed: loops.
  DERIVED. THE GIVEN ROWS OF THIS SEAT. 9 by the template 'for every input the law returns true; each argument reads behind the call as it read before'; 0 by the template 'total and deterministic' (their statements: YtllcnpfdklbbbaaTotals.lean).
  GIVEN WITH THE SEED: the statements are not yours to turn. If you find one false, say at which input.
  Laid BY PROGRAM, IN A SANDBOX (cutbox-rows.mjs): the forced cells as the released guide's own fill.sh prints them over the translation 95588c230e507e34… (all of the seat's roots in one cut). By AI agents, Wed Nov 11 2026. No macro, syntax, notation, axiom, sorry.
-/
import Derived.Test.YtllcnpfdklbbbaaChecked
import GoSem.Claim
import GoSem.ClaimJoined
import GoSem.ClaimMapViews
import Derived.JoinedTies
import Derived.KernelRfl
namespace Go.Proofs.Ytllcnpfdklbbbaa
/- THE CELL 'sum', in the pinned program and in every row, IS THE sha256 OF THE DUMP (.gsa) THAT YtllcnpfdklbbbaaProg.lean LOADS. Nothing in Lean hashes anything: it is a label: what it is worth is what the hold of that sum in a sandbox is worth. -/
noncomputable def Try.pinned : Pinned := { name := "ytllcnpfdklbbbaa", sum := "95588c230e507e34a66a0b7caf364657934e18029ec0517ac8422ae4e9c2d860", checked := Try.checked }
namespace Rows
def none {H : Type} : Left H := { results := [], args := [] }

/-- 'constraintlaw16.OccurHeads': WHATEVER THE INPUT: true; the input reads as it did. -/
def occurHeadsSpec : ChangeSpec := { name := "occurHeads", fn := fun _ => fun
  | [d] => { results := [.lit (.bool true)], args := [d] }
  | _ => none }
def occurHeadsRow : OpenClaim := { program := "ytllcnpfdklbbbaa", sum := "95588c230e507e34a66a0b7caf364657934e18029ec0517ac8422ae4e9c2d860", func := "constraint/constraintlaw16.OccurHeads", spec := "occurHeads", unfollowed := true, recurses := true, loops := true, apart := false }
def OccurHeadsSaid : Prop := occurHeadsRow.holds Try.pinned (OpenSpec.ofChange occurHeadsSpec)

/-- ITS FALSE NEIGHBOUR: 'it returns false'. Refute it at one input. -/
def occurHeadsWrong : ChangeSpec := { name := "occurHeads", fn := fun _ => fun
  | [d] => { results := [.lit (.bool false)], args := [d] }
  | _ => none }
def OccurHeadsWrongFalsely : Prop := occurHeadsRow.holds Try.pinned (OpenSpec.ofChange occurHeadsWrong)

/-- 'constraintlaw16.OccurLists': WHATEVER THE INPUT: true; the input reads as it did. -/
def occurListsSpec : ChangeSpec := { name := "occurLists", fn := fun _ => fun
  | [d1, d2, d3] => { results := [.lit (.bool true)], args := [d1, d2, d3] }
  | _ => none }
def occurListsRow : OpenClaim := { program := "ytllcnpfdklbbbaa", sum := "95588c230e507e34a66a0b7caf364657934e18029ec0517ac8422ae4e9c2d860", func := "constraint/constraintlaw16.OccurLists", spec := "occurLists", unfollowed := true, recurses := true, loops := true, apart := false }
def OccurListsSaid : Prop := occurListsRow.holds Try.pinned (OpenSpec.ofChange occurListsSpec)

/-- ITS FALSE NEIGHBOUR: 'it returns false'. Refute it at one input. -/
def occurListsWrong : ChangeSpec := { name := "occurLists", fn := fun _ => fun
  | [d1, d2, d3] => { results := [.lit (.bool false)], args := [d1, d2, d3] }
  | _ => none }
def OccurListsWrongFalsely : Prop := occurListsRow.holds Try.pinned (OpenSpec.ofChange occurListsWrong)

/-- 'constraintlaw16.OccurOnce': WHATEVER THE INPUT: true; the input reads as it did. -/
def occurOnceSpec : ChangeSpec := { name := "occurOnce", fn := fun _ => fun
  | [d] => { results := [.lit (.bool true)], args := [d] }
  | _ => none }
def occurOnceRow : OpenClaim := { program := "ytllcnpfdklbbbaa", sum := "95588c230e507e34a66a0b7caf364657934e18029ec0517ac8422ae4e9c2d860", func := "constraint/constraintlaw16.OccurOnce", spec := "occurOnce", unfollowed := true, recurses := true, loops := true, apart := false }
def OccurOnceSaid : Prop := occurOnceRow.holds Try.pinned (OpenSpec.ofChange occurOnceSpec)

/-- ITS FALSE NEIGHBOUR: 'it returns false'. Refute it at one input. -/
def occurOnceWrong : ChangeSpec := { name := "occurOnce", fn := fun _ => fun
  | [d] => { results := [.lit (.bool false)], args := [d] }
  | _ => none }
def OccurOnceWrongFalsely : Prop := occurOnceRow.holds Try.pinned (OpenSpec.ofChange occurOnceWrong)

/-- 'constraintlaw04.ArithApplies': WHATEVER THE INPUT: true; the input reads as it did. -/
def arithAppliesSpec : ChangeSpec := { name := "arithApplies", fn := fun _ => fun
  | [d1, d2, d3] => { results := [.lit (.bool true)], args := [d1, d2, d3] }
  | _ => none }
def arithAppliesRow : OpenClaim := { program := "ytllcnpfdklbbbaa", sum := "95588c230e507e34a66a0b7caf364657934e18029ec0517ac8422ae4e9c2d860", func := "constraint/constraintlaw04.ArithApplies", spec := "arithApplies", unfollowed := true, recurses := true, apart := false }
def ArithAppliesSaid : Prop := arithAppliesRow.holds Try.pinned (OpenSpec.ofChange arithAppliesSpec)

/-- ITS FALSE NEIGHBOUR: 'it returns false'. Refute it at one input. -/
def arithAppliesWrong : ChangeSpec := { name := "arithApplies", fn := fun _ => fun
  | [d1, d2, d3] => { results := [.lit (.bool false)], args := [d1, d2, d3] }
  | _ => none }
def ArithAppliesWrongFalsely : Prop := arithAppliesRow.holds Try.pinned (OpenSpec.ofChange arithAppliesWrong)

/-- 'constraintlaw04.ArithDivides': WHATEVER THE INPUT: true; the input reads as it did. -/
def arithDividesSpec : ChangeSpec := { name := "arithDivides", fn := fun _ => fun
  | [d1, d2] => { results := [.lit (.bool true)], args := [d1, d2] }
  | _ => none }
def arithDividesRow : OpenClaim := { program := "ytllcnpfdklbbbaa", sum := "95588c230e507e34a66a0b7caf364657934e18029ec0517ac8422ae4e9c2d860", func := "constraint/constraintlaw04.ArithDivides", spec := "arithDivides", unfollowed := true, recurses := true, apart := false }
def ArithDividesSaid : Prop := arithDividesRow.holds Try.pinned (OpenSpec.ofChange arithDividesSpec)

/-- ITS FALSE NEIGHBOUR: 'it returns false'. Refute it at one input. -/
def arithDividesWrong : ChangeSpec := { name := "arithDivides", fn := fun _ => fun
  | [d1, d2] => { results := [.lit (.bool false)], args := [d1, d2] }
  | _ => none }
def ArithDividesWrongFalsely : Prop := arithDividesRow.holds Try.pinned (OpenSpec.ofChange arithDividesWrong)

/-- 'constraintlaw04.ArithEvals': WHATEVER THE INPUT: true; the input reads as it did. -/
def arithEvalsSpec : ChangeSpec := { name := "arithEvals", fn := fun _ => fun
  | [d] => { results := [.lit (.bool true)], args := [d] }
  | _ => none }
def arithEvalsRow : OpenClaim := { program := "ytllcnpfdklbbbaa", sum := "95588c230e507e34a66a0b7caf364657934e18029ec0517ac8422ae4e9c2d860", func := "constraint/constraintlaw04.ArithEvals", spec := "arithEvals", unfollowed := true, recurses := true, loops := true, apart := false }
def ArithEvalsSaid : Prop := arithEvalsRow.holds Try.pinned (OpenSpec.ofChange arithEvalsSpec)

/-- ITS FALSE NEIGHBOUR: 'it returns false'. Refute it at one input. -/
def arithEvalsWrong : ChangeSpec := { name := "arithEvals", fn := fun _ => fun
  | [d] => { results := [.lit (.bool false)], args := [d] }
  | _ => none }
def ArithEvalsWrongFalsely : Prop := arithEvalsRow.holds Try.pinned (OpenSpec.ofChange arithEvalsWrong)

/-- 'constraintlaw04.ArithFolds': WHATEVER THE INPUT: true; the input reads as it did. -/
def arithFoldsSpec : ChangeSpec := { name := "arithFolds", fn := fun _ => fun
  | [d] => { results := [.lit (.bool true)], args := [d] }
  | _ => none }
def arithFoldsRow : OpenClaim := { program := "ytllcnpfdklbbbaa", sum := "95588c230e507e34a66a0b7caf364657934e18029ec0517ac8422ae4e9c2d860", func := "constraint/constraintlaw04.ArithFolds", spec := "arithFolds", unfollowed := true, recurses := true, loops := true, apart := false }
def ArithFoldsSaid : Prop := arithFoldsRow.holds Try.pinned (OpenSpec.ofChange arithFoldsSpec)

/-- ITS FALSE NEIGHBOUR: 'it returns false'. Refute it at one input. -/
def arithFoldsWrong : ChangeSpec := { name := "arithFolds", fn := fun _ => fun
  | [d] => { results := [.lit (.bool false)], args := [d] }
  | _ => none }
def ArithFoldsWrongFalsely : Prop := arithFoldsRow.holds Try.pinned (OpenSpec.ofChange arithFoldsWrong)

/-- 'constraintlaw04.ArithValues': WHATEVER THE INPUT: true; the input reads as it did. -/
def arithValuesSpec : ChangeSpec := { name := "arithValues", fn := fun _ => fun
  | [d] => { results := [.lit (.bool true)], args := [d] }
  | _ => none }
def arithValuesRow : OpenClaim := { program := "ytllcnpfdklbbbaa", sum := "95588c230e507e34a66a0b7caf364657934e18029ec0517ac8422ae4e9c2d860", func := "constraint/constraintlaw04.ArithValues", spec := "arithValues", unfollowed := true, recurses := true, loops := true, apart := false }
def ArithValuesSaid : Prop := arithValuesRow.holds Try.pinned (OpenSpec.ofChange arithValuesSpec)

/-- ITS FALSE NEIGHBOUR: 'it returns false'. Refute it at one input. -/
def arithValuesWrong : ChangeSpec := { name := "arithValues", fn := fun _ => fun
  | [d] => { results := [.lit (.bool false)], args := [d] }
  | _ => none }
def ArithValuesWrongFalsely : Prop := arithValuesRow.holds Try.pinned (OpenSpec.ofChange arithValuesWrong)

/-- 'constraintlaw04.ArithClosed': WHATEVER THE INPUT: true; the input reads as it did. -/
def arithClosedSpec : ChangeSpec := { name := "arithClosed", fn := fun _ => fun
  | [d] => { results := [.lit (.bool true)], args := [d] }
  | _ => none }
def arithClosedRow : OpenClaim := { program := "ytllcnpfdklbbbaa", sum := "95588c230e507e34a66a0b7caf364657934e18029ec0517ac8422ae4e9c2d860", func := "constraint/constraintlaw04.ArithClosed", spec := "arithClosed", unfollowed := true, recurses := true, loops := true, apart := false }
def ArithClosedSaid : Prop := arithClosedRow.holds Try.pinned (OpenSpec.ofChange arithClosedSpec)

/-- ITS FALSE NEIGHBOUR: 'it returns false'. Refute it at one input. -/
def arithClosedWrong : ChangeSpec := { name := "arithClosed", fn := fun _ => fun
  | [d] => { results := [.lit (.bool false)], args := [d] }
  | _ => none }
def ArithClosedWrongFalsely : Prop := arithClosedRow.holds Try.pinned (OpenSpec.ofChange arithClosedWrong)

/- THE SECOND FORM. 'bulk': how many values and letters a reading holds, each counted each time it is reached (what is shared counts as often as it is met; a slice's spare places count too). A statement '..UptoSaid' is the law's where the arguments, and the package variables that the reading takes, are together of bulk at most 1048576: NARROWER than '..Said'. Prove '..Said' where nothing that the law and all that it calls make is longer than what came in: it says more and counts as full. Else prove '..UptoSaid'. A law counts once. -/
mutual
def uptoBulk {H : Type} : DataW H → Nat
  | .lit (.string bytes) => bytes.length + 1
  | .lit _ => 1
  | .nil => 1
  | .ptr d => uptoBulk d + 1
  | .slice elems spare => uptoBulkAll elems + uptoBulkAll spare + 1
  | .agg parts => uptoBulkAll parts + 1
  | .iface _ d => uptoBulk d + 1
  | .map entries => uptoBulkEntries entries + 1
  | .held _ => 1
def uptoBulkAll {H : Type} : List (DataW H) → Nat
  | [] => 0
  | d :: r => uptoBulk d + uptoBulkAll r
def uptoBulkEntries {H : Type} : List (Lit × DataW H) → Nat
  | [] => 0
  | x :: r => uptoBulkEntry x + uptoBulkEntries r
def uptoBulkEntry {H : Type} : Lit × DataW H → Nat
  | (.string bytes, d) => bytes.length + uptoBulk d + 1
  | (_, d) => uptoBulk d + 1
 end
def uptoSmall : (H : Type) → List (DataW H) → Bool := fun _ ds => decide (uptoBulkAll ds ≤ 1048576)
def OpenSpec.upto (s : _root_.Go.ChangeSpec) : _root_.Go.OpenSpec := { _root_.Go.OpenSpec.ofChange s with cond := some uptoSmall }

/-- 'constraintlaw16.OccurHeads', WHERE WHAT IT READS IS OF BULK AT MOST 1048576: true; the input reads as it did. -/
def occurHeadsUptoRow : OpenClaim := { program := "ytllcnpfdklbbbaa", sum := "95588c230e507e34a66a0b7caf364657934e18029ec0517ac8422ae4e9c2d860", func := "constraint/constraintlaw16.OccurHeads", spec := "occurHeads", unfollowed := true, recurses := true, loops := true, apart := false, narrowed := true }
def OccurHeadsUptoSaid : Prop := occurHeadsUptoRow.holds Try.pinned (OpenSpec.upto occurHeadsSpec)

/-- 'constraintlaw16.OccurLists', WHERE WHAT IT READS IS OF BULK AT MOST 1048576: true; the input reads as it did. -/
def occurListsUptoRow : OpenClaim := { program := "ytllcnpfdklbbbaa", sum := "95588c230e507e34a66a0b7caf364657934e18029ec0517ac8422ae4e9c2d860", func := "constraint/constraintlaw16.OccurLists", spec := "occurLists", unfollowed := true, recurses := true, loops := true, apart := false, narrowed := true }
def OccurListsUptoSaid : Prop := occurListsUptoRow.holds Try.pinned (OpenSpec.upto occurListsSpec)

/-- 'constraintlaw16.OccurOnce', WHERE WHAT IT READS IS OF BULK AT MOST 1048576: true; the input reads as it did. -/
def occurOnceUptoRow : OpenClaim := { program := "ytllcnpfdklbbbaa", sum := "95588c230e507e34a66a0b7caf364657934e18029ec0517ac8422ae4e9c2d860", func := "constraint/constraintlaw16.OccurOnce", spec := "occurOnce", unfollowed := true, recurses := true, loops := true, apart := false, narrowed := true }
def OccurOnceUptoSaid : Prop := occurOnceUptoRow.holds Try.pinned (OpenSpec.upto occurOnceSpec)

/-- 'constraintlaw04.ArithApplies', WHERE WHAT IT READS IS OF BULK AT MOST 1048576: true; the input reads as it did. -/
def arithAppliesUptoRow : OpenClaim := { program := "ytllcnpfdklbbbaa", sum := "95588c230e507e34a66a0b7caf364657934e18029ec0517ac8422ae4e9c2d860", func := "constraint/constraintlaw04.ArithApplies", spec := "arithApplies", unfollowed := true, recurses := true, apart := false, narrowed := true }
def ArithAppliesUptoSaid : Prop := arithAppliesUptoRow.holds Try.pinned (OpenSpec.upto arithAppliesSpec)

/-- 'constraintlaw04.ArithDivides', WHERE WHAT IT READS IS OF BULK AT MOST 1048576: true; the input reads as it did. -/
def arithDividesUptoRow : OpenClaim := { program := "ytllcnpfdklbbbaa", sum := "95588c230e507e34a66a0b7caf364657934e18029ec0517ac8422ae4e9c2d860", func := "constraint/constraintlaw04.ArithDivides", spec := "arithDivides", unfollowed := true, recurses := true, apart := false, narrowed := true }
def ArithDividesUptoSaid : Prop := arithDividesUptoRow.holds Try.pinned (OpenSpec.upto arithDividesSpec)

/-- 'constraintlaw04.ArithEvals', WHERE WHAT IT READS IS OF BULK AT MOST 1048576: true; the input reads as it did. -/
def arithEvalsUptoRow : OpenClaim := { program := "ytllcnpfdklbbbaa", sum := "95588c230e507e34a66a0b7caf364657934e18029ec0517ac8422ae4e9c2d860", func := "constraint/constraintlaw04.ArithEvals", spec := "arithEvals", unfollowed := true, recurses := true, loops := true, apart := false, narrowed := true }
def ArithEvalsUptoSaid : Prop := arithEvalsUptoRow.holds Try.pinned (OpenSpec.upto arithEvalsSpec)

/-- 'constraintlaw04.ArithFolds', WHERE WHAT IT READS IS OF BULK AT MOST 1048576: true; the input reads as it did. -/
def arithFoldsUptoRow : OpenClaim := { program := "ytllcnpfdklbbbaa", sum := "95588c230e507e34a66a0b7caf364657934e18029ec0517ac8422ae4e9c2d860", func := "constraint/constraintlaw04.ArithFolds", spec := "arithFolds", unfollowed := true, recurses := true, loops := true, apart := false, narrowed := true }
def ArithFoldsUptoSaid : Prop := arithFoldsUptoRow.holds Try.pinned (OpenSpec.upto arithFoldsSpec)

/-- 'constraintlaw04.ArithValues', WHERE WHAT IT READS IS OF BULK AT MOST 1048576: true; the input reads as it did. -/
def arithValuesUptoRow : OpenClaim := { program := "ytllcnpfdklbbbaa", sum := "95588c230e507e34a66a0b7caf364657934e18029ec0517ac8422ae4e9c2d860", func := "constraint/constraintlaw04.ArithValues", spec := "arithValues", unfollowed := true, recurses := true, loops := true, apart := false, narrowed := true }
def ArithValuesUptoSaid : Prop := arithValuesUptoRow.holds Try.pinned (OpenSpec.upto arithValuesSpec)

/-- 'constraintlaw04.ArithClosed', WHERE WHAT IT READS IS OF BULK AT MOST 1048576: true; the input reads as it did. -/
def arithClosedUptoRow : OpenClaim := { program := "ytllcnpfdklbbbaa", sum := "95588c230e507e34a66a0b7caf364657934e18029ec0517ac8422ae4e9c2d860", func := "constraint/constraintlaw04.ArithClosed", spec := "arithClosed", unfollowed := true, recurses := true, loops := true, apart := false, narrowed := true }
def ArithClosedUptoSaid : Prop := arithClosedUptoRow.holds Try.pinned (OpenSpec.upto arithClosedSpec)

end Rows
end Go.Proofs.Ytllcnpfdklbbbaa
