/-
  NARROWER THAN 'FOR EVERY INPUT', by the rows' own cells (each row's printed sentence says how): PlanScores: loops · PlanRights: loops · PlanGreedy: loops · PlanTests: loops.
  DERIVED. THE GIVEN ROWS OF THIS SEAT. 4 by the template 'for every input the law returns true; each argument reads behind the call as it read before'; 0 by the template 'total and deterministic' (their statements: YtamhnlajkncccaaTotals.lean).
  GIVEN WITH THE SEED: the statements are not yours to turn. If you find one false, say at which input.
  Laid BY PROGRAM, IN A SANDBOX (cutbox-rows.mjs): the forced cells as the released guide's own fill.sh prints them over the translation 4695baa18434e495… (all of the seat's roots in one cut). By AI agents, Wed Nov 11 2026. No macro, syntax, notation, axiom, sorry.
-/
import Derived.Test.YtamhnlajkncccaaChecked
import GoSem.Claim
import GoSem.ClaimJoined
import GoSem.ClaimMapViews
import Derived.JoinedTies
import Derived.KernelRfl
namespace Go.Proofs.Ytamhnlajkncccaa
/- THE CELL 'sum', in the pinned program and in every row, IS THE sha256 OF THE DUMP (.gsa) THAT YtamhnlajkncccaaProg.lean LOADS. Nothing in Lean hashes anything: it is a label: what it is worth is what the hold of that sum in a sandbox is worth. -/
noncomputable def Try.pinned : Pinned := { name := "ytamhnlajkncccaa", sum := "4695baa18434e495e751967af880a4b1fb60294f6b9180f8a76047b47ba524de", checked := Try.checked }
namespace Rows
def none {H : Type} : Left H := { results := [], args := [] }

/-- 'constraintlaw29.PlanScores': WHATEVER THE INPUT: true; the input reads as it did. -/
def planScoresSpec : ChangeSpec := { name := "planScores", fn := fun _ => fun
  | [d1, d2, d3] => { results := [.lit (.bool true)], args := [d1, d2, d3] }
  | _ => none }
def planScoresRow : OpenClaim := { program := "ytamhnlajkncccaa", sum := "4695baa18434e495e751967af880a4b1fb60294f6b9180f8a76047b47ba524de", func := "constraint/constraintlaw29.PlanScores", spec := "planScores", unfollowed := true, recurses := true, loops := true, apart := false }
def PlanScoresSaid : Prop := planScoresRow.holds Try.pinned (OpenSpec.ofChange planScoresSpec)

/-- ITS FALSE NEIGHBOUR: 'it returns false'. Refute it at one input. -/
def planScoresWrong : ChangeSpec := { name := "planScores", fn := fun _ => fun
  | [d1, d2, d3] => { results := [.lit (.bool false)], args := [d1, d2, d3] }
  | _ => none }
def PlanScoresWrongFalsely : Prop := planScoresRow.holds Try.pinned (OpenSpec.ofChange planScoresWrong)

/-- 'constraintlaw29.PlanRights': WHATEVER THE INPUT: true; the input reads as it did. -/
def planRightsSpec : ChangeSpec := { name := "planRights", fn := fun _ => fun
  | [d1, d2] => { results := [.lit (.bool true)], args := [d1, d2] }
  | _ => none }
def planRightsRow : OpenClaim := { program := "ytamhnlajkncccaa", sum := "4695baa18434e495e751967af880a4b1fb60294f6b9180f8a76047b47ba524de", func := "constraint/constraintlaw29.PlanRights", spec := "planRights", unfollowed := true, recurses := true, loops := true, apart := false }
def PlanRightsSaid : Prop := planRightsRow.holds Try.pinned (OpenSpec.ofChange planRightsSpec)

/-- ITS FALSE NEIGHBOUR: 'it returns false'. Refute it at one input. -/
def planRightsWrong : ChangeSpec := { name := "planRights", fn := fun _ => fun
  | [d1, d2] => { results := [.lit (.bool false)], args := [d1, d2] }
  | _ => none }
def PlanRightsWrongFalsely : Prop := planRightsRow.holds Try.pinned (OpenSpec.ofChange planRightsWrong)

/-- 'constraintlaw29.PlanGreedy': WHATEVER THE INPUT: true; the input reads as it did. -/
def planGreedySpec : ChangeSpec := { name := "planGreedy", fn := fun _ => fun
  | [d1, d2] => { results := [.lit (.bool true)], args := [d1, d2] }
  | _ => none }
def planGreedyRow : OpenClaim := { program := "ytamhnlajkncccaa", sum := "4695baa18434e495e751967af880a4b1fb60294f6b9180f8a76047b47ba524de", func := "constraint/constraintlaw29.PlanGreedy", spec := "planGreedy", unfollowed := true, recurses := true, loops := true, apart := false }
def PlanGreedySaid : Prop := planGreedyRow.holds Try.pinned (OpenSpec.ofChange planGreedySpec)

/-- ITS FALSE NEIGHBOUR: 'it returns false'. Refute it at one input. -/
def planGreedyWrong : ChangeSpec := { name := "planGreedy", fn := fun _ => fun
  | [d1, d2] => { results := [.lit (.bool false)], args := [d1, d2] }
  | _ => none }
def PlanGreedyWrongFalsely : Prop := planGreedyRow.holds Try.pinned (OpenSpec.ofChange planGreedyWrong)

/-- 'constraintlaw29.PlanTests': WHATEVER THE INPUT: true; the input reads as it did. -/
def planTestsSpec : ChangeSpec := { name := "planTests", fn := fun _ => fun
  | [d] => { results := [.lit (.bool true)], args := [d] }
  | _ => none }
def planTestsRow : OpenClaim := { program := "ytamhnlajkncccaa", sum := "4695baa18434e495e751967af880a4b1fb60294f6b9180f8a76047b47ba524de", func := "constraint/constraintlaw29.PlanTests", spec := "planTests", unfollowed := true, recurses := true, loops := true, apart := false }
def PlanTestsSaid : Prop := planTestsRow.holds Try.pinned (OpenSpec.ofChange planTestsSpec)

/-- ITS FALSE NEIGHBOUR: 'it returns false'. Refute it at one input. -/
def planTestsWrong : ChangeSpec := { name := "planTests", fn := fun _ => fun
  | [d] => { results := [.lit (.bool false)], args := [d] }
  | _ => none }
def PlanTestsWrongFalsely : Prop := planTestsRow.holds Try.pinned (OpenSpec.ofChange planTestsWrong)

/- THE SECOND FORM. 'bulk': how many values and letters a reading holds, each counted each time it is reached (what is shared counts as often as it is met; a slice's spare places count too). A statement '..UptoSaid' is the law's where the arguments, and the package variables that the reading takes, are together of bulk at most 1048576: NARROWER than '..Said'. Prove '..Said' where nothing that the law and all that it calls make is longer than what came in: it says more and counts as full. Else prove '..UptoSaid'. A law counts once. -/
mutual
def uptoBulk {H : Type} : DataW H → Nat
  | .lit (.string bytes) => bytes.length + 1
  | .lit _ => 1
  | .nil => 1
  | .ptr d => uptoBulk d + 1
  | .slice elems spare => uptoBulkAll elems + uptoBulkAll spare + 1
  | .agg parts => uptoBulkAll parts + 1
  | .iface _ d => uptoBulk d + 1
  | .map entries => uptoBulkEntries entries + 1
  | .held _ => 1
def uptoBulkAll {H : Type} : List (DataW H) → Nat
  | [] => 0
  | d :: r => uptoBulk d + uptoBulkAll r
def uptoBulkEntries {H : Type} : List (Lit × DataW H) → Nat
  | [] => 0
  | x :: r => uptoBulkEntry x + uptoBulkEntries r
def uptoBulkEntry {H : Type} : Lit × DataW H → Nat
  | (.string bytes, d) => bytes.length + uptoBulk d + 1
  | (_, d) => uptoBulk d + 1
 end
def uptoSmall : (H : Type) → List (DataW H) → Bool := fun _ ds => decide (uptoBulkAll ds ≤ 1048576)
def OpenSpec.upto (s : _root_.Go.ChangeSpec) : _root_.Go.OpenSpec := { _root_.Go.OpenSpec.ofChange s with cond := some uptoSmall }

/-- 'constraintlaw29.PlanScores', WHERE WHAT IT READS IS OF BULK AT MOST 1048576: true; the input reads as it did. -/
def planScoresUptoRow : OpenClaim := { program := "ytamhnlajkncccaa", sum := "4695baa18434e495e751967af880a4b1fb60294f6b9180f8a76047b47ba524de", func := "constraint/constraintlaw29.PlanScores", spec := "planScores", unfollowed := true, recurses := true, loops := true, apart := false, narrowed := true }
def PlanScoresUptoSaid : Prop := planScoresUptoRow.holds Try.pinned (OpenSpec.upto planScoresSpec)

/-- 'constraintlaw29.PlanRights', WHERE WHAT IT READS IS OF BULK AT MOST 1048576: true; the input reads as it did. -/
def planRightsUptoRow : OpenClaim := { program := "ytamhnlajkncccaa", sum := "4695baa18434e495e751967af880a4b1fb60294f6b9180f8a76047b47ba524de", func := "constraint/constraintlaw29.PlanRights", spec := "planRights", unfollowed := true, recurses := true, loops := true, apart := false, narrowed := true }
def PlanRightsUptoSaid : Prop := planRightsUptoRow.holds Try.pinned (OpenSpec.upto planRightsSpec)

/-- 'constraintlaw29.PlanGreedy', WHERE WHAT IT READS IS OF BULK AT MOST 1048576: true; the input reads as it did. -/
def planGreedyUptoRow : OpenClaim := { program := "ytamhnlajkncccaa", sum := "4695baa18434e495e751967af880a4b1fb60294f6b9180f8a76047b47ba524de", func := "constraint/constraintlaw29.PlanGreedy", spec := "planGreedy", unfollowed := true, recurses := true, loops := true, apart := false, narrowed := true }
def PlanGreedyUptoSaid : Prop := planGreedyUptoRow.holds Try.pinned (OpenSpec.upto planGreedySpec)

/-- 'constraintlaw29.PlanTests', WHERE WHAT IT READS IS OF BULK AT MOST 1048576: true; the input reads as it did. -/
def planTestsUptoRow : OpenClaim := { program := "ytamhnlajkncccaa", sum := "4695baa18434e495e751967af880a4b1fb60294f6b9180f8a76047b47ba524de", func := "constraint/constraintlaw29.PlanTests", spec := "planTests", unfollowed := true, recurses := true, loops := true, apart := false, narrowed := true }
def PlanTestsUptoSaid : Prop := planTestsUptoRow.holds Try.pinned (OpenSpec.upto planTestsSpec)

end Rows
end Go.Proofs.Ytamhnlajkncccaa
