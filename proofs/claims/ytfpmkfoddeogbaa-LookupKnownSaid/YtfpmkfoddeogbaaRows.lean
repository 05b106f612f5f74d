/-
  NARROWER THAN 'FOR EVERY INPUT', by the rows' own cells (each row's printed sentence says how): LookupKnown: loops · LookupAccess: loops · WakeAffects: loops · WakePushes: loops · WakeTops: loops · WakeLess: loops · JustifyFacts: loops · JustifySplits: loops.
  DERIVED. THE GIVEN ROWS OF THIS SEAT. 11 by the template 'for every input the law returns true; each argument reads behind the call as it read before'; 0 by the template 'total and deterministic' (their statements: YtfpmkfoddeogbaaTotals.lean).
  GIVEN WITH THE SEED: the statements are not yours to turn. If you find one false, say at which input.
  Laid BY PROGRAM, IN A SANDBOX (cutbox-rows.mjs): the forced cells as the released guide's own fill.sh prints them over the translation a477334880644d66… (all of the seat's roots in one cut). By AI agents, Wed Nov 11 2026. No macro, syntax, notation, axiom, sorry.
-/
import Derived.Test.YtfpmkfoddeogbaaChecked
import GoSem.Claim
import GoSem.ClaimJoined
import GoSem.ClaimMapViews
import Derived.JoinedTies
import Derived.KernelRfl
namespace Go.Proofs.Ytfpmkfoddeogbaa
/- THE CELL 'sum', in the pinned program and in every row, IS THE sha256 OF THE DUMP (.gsa) THAT YtfpmkfoddeogbaaProg.lean LOADS. Nothing in Lean hashes anything: it is a label: what it is worth is what the hold of that sum in a sandbox is worth. -/
noncomputable def Try.pinned : Pinned := { name := "ytfpmkfoddeogbaa", sum := "a477334880644d664b1dcde3c7270b044f7a79756857bca105162d6016d77ce2", checked := Try.checked }
namespace Rows
def none {H : Type} : Left H := { results := [], args := [] }

/-- 'constraintlaw30.LookupKnown': WHATEVER THE INPUT: true; the input reads as it did. -/
def lookupKnownSpec : ChangeSpec := { name := "lookupKnown", fn := fun _ => fun
  | [d1, d2, d3] => { results := [.lit (.bool true)], args := [d1, d2, d3] }
  | _ => none }
def lookupKnownRow : OpenClaim := { program := "ytfpmkfoddeogbaa", sum := "a477334880644d664b1dcde3c7270b044f7a79756857bca105162d6016d77ce2", func := "constraint/constraintlaw30.LookupKnown", spec := "lookupKnown", unfollowed := true, recurses := true, loops := true, apart := false }
def LookupKnownSaid : Prop := lookupKnownRow.holds Try.pinned (OpenSpec.ofChange lookupKnownSpec)

/-- ITS FALSE NEIGHBOUR: 'it returns false'. Refute it at one input. -/
def lookupKnownWrong : ChangeSpec := { name := "lookupKnown", fn := fun _ => fun
  | [d1, d2, d3] => { results := [.lit (.bool false)], args := [d1, d2, d3] }
  | _ => none }
def LookupKnownWrongFalsely : Prop := lookupKnownRow.holds Try.pinned (OpenSpec.ofChange lookupKnownWrong)

/-- 'constraintlaw30.LookupAccess': WHATEVER THE INPUT: true; the input reads as it did. -/
def lookupAccessSpec : ChangeSpec := { name := "lookupAccess", fn := fun _ => fun
  | [d1, d2, d3] => { results := [.lit (.bool true)], args := [d1, d2, d3] }
  | _ => none }
def lookupAccessRow : OpenClaim := { program := "ytfpmkfoddeogbaa", sum := "a477334880644d664b1dcde3c7270b044f7a79756857bca105162d6016d77ce2", func := "constraint/constraintlaw30.LookupAccess", spec := "lookupAccess", unfollowed := true, recurses := true, loops := true, apart := false }
def LookupAccessSaid : Prop := lookupAccessRow.holds Try.pinned (OpenSpec.ofChange lookupAccessSpec)

/-- ITS FALSE NEIGHBOUR: 'it returns false'. Refute it at one input. -/
def lookupAccessWrong : ChangeSpec := { name := "lookupAccess", fn := fun _ => fun
  | [d1, d2, d3] => { results := [.lit (.bool false)], args := [d1, d2, d3] }
  | _ => none }
def LookupAccessWrongFalsely : Prop := lookupAccessRow.holds Try.pinned (OpenSpec.ofChange lookupAccessWrong)

/-- 'constraintlaw22.WakeAffects': WHATEVER THE INPUT: true; the input reads as it did. -/
def wakeAffectsSpec : ChangeSpec := { name := "wakeAffects", fn := fun _ => fun
  | [d1, d2] => { results := [.lit (.bool true)], args := [d1, d2] }
  | _ => none }
def wakeAffectsRow : OpenClaim := { program := "ytfpmkfoddeogbaa", sum := "a477334880644d664b1dcde3c7270b044f7a79756857bca105162d6016d77ce2", func := "constraint/constraintlaw22.WakeAffects", spec := "wakeAffects", unfollowed := true, recurses := true, loops := true, apart := false }
def WakeAffectsSaid : Prop := wakeAffectsRow.holds Try.pinned (OpenSpec.ofChange wakeAffectsSpec)

/-- ITS FALSE NEIGHBOUR: 'it returns false'. Refute it at one input. -/
def wakeAffectsWrong : ChangeSpec := { name := "wakeAffects", fn := fun _ => fun
  | [d1, d2] => { results := [.lit (.bool false)], args := [d1, d2] }
  | _ => none }
def WakeAffectsWrongFalsely : Prop := wakeAffectsRow.holds Try.pinned (OpenSpec.ofChange wakeAffectsWrong)

/-- 'constraintlaw22.WakePushes': WHATEVER THE INPUT: true; the input reads as it did. -/
def wakePushesSpec : ChangeSpec := { name := "wakePushes", fn := fun _ => fun
  | [d1, d2, d3] => { results := [.lit (.bool true)], args := [d1, d2, d3] }
  | _ => none }
def wakePushesRow : OpenClaim := { program := "ytfpmkfoddeogbaa", sum := "a477334880644d664b1dcde3c7270b044f7a79756857bca105162d6016d77ce2", func := "constraint/constraintlaw22.WakePushes", spec := "wakePushes", unfollowed := true, recurses := true, loops := true, apart := false }
def WakePushesSaid : Prop := wakePushesRow.holds Try.pinned (OpenSpec.ofChange wakePushesSpec)

/-- ITS FALSE NEIGHBOUR: 'it returns false'. Refute it at one input. -/
def wakePushesWrong : ChangeSpec := { name := "wakePushes", fn := fun _ => fun
  | [d1, d2, d3] => { results := [.lit (.bool false)], args := [d1, d2, d3] }
  | _ => none }
def WakePushesWrongFalsely : Prop := wakePushesRow.holds Try.pinned (OpenSpec.ofChange wakePushesWrong)

/-- 'constraintlaw22.WakeTops': WHATEVER THE INPUT: true; the input reads as it did. -/
def wakeTopsSpec : ChangeSpec := { name := "wakeTops", fn := fun _ => fun
  | [d1, d2, d3] => { results := [.lit (.bool true)], args := [d1, d2, d3] }
  | _ => none }
def wakeTopsRow : OpenClaim := { program := "ytfpmkfoddeogbaa", sum := "a477334880644d664b1dcde3c7270b044f7a79756857bca105162d6016d77ce2", func := "constraint/constraintlaw22.WakeTops", spec := "wakeTops", unfollowed := true, recurses := true, loops := true, apart := false }
def WakeTopsSaid : Prop := wakeTopsRow.holds Try.pinned (OpenSpec.ofChange wakeTopsSpec)

/-- ITS FALSE NEIGHBOUR: 'it returns false'. Refute it at one input. -/
def wakeTopsWrong : ChangeSpec := { name := "wakeTops", fn := fun _ => fun
  | [d1, d2, d3] => { results := [.lit (.bool false)], args := [d1, d2, d3] }
  | _ => none }
def WakeTopsWrongFalsely : Prop := wakeTopsRow.holds Try.pinned (OpenSpec.ofChange wakeTopsWrong)

/-- 'constraintlaw22.WakeLess': WHATEVER THE INPUT: true; the input reads as it did. -/
def wakeLessSpec : ChangeSpec := { name := "wakeLess", fn := fun _ => fun
  | [d1, d2, d3] => { results := [.lit (.bool true)], args := [d1, d2, d3] }
  | _ => none }
def wakeLessRow : OpenClaim := { program := "ytfpmkfoddeogbaa", sum := "a477334880644d664b1dcde3c7270b044f7a79756857bca105162d6016d77ce2", func := "constraint/constraintlaw22.WakeLess", spec := "wakeLess", unfollowed := true, recurses := true, loops := true, apart := false }
def WakeLessSaid : Prop := wakeLessRow.holds Try.pinned (OpenSpec.ofChange wakeLessSpec)

/-- ITS FALSE NEIGHBOUR: 'it returns false'. Refute it at one input. -/
def wakeLessWrong : ChangeSpec := { name := "wakeLess", fn := fun _ => fun
  | [d1, d2, d3] => { results := [.lit (.bool false)], args := [d1, d2, d3] }
  | _ => none }
def WakeLessWrongFalsely : Prop := wakeLessRow.holds Try.pinned (OpenSpec.ofChange wakeLessWrong)

/-- 'constraintlaw49.JustifySets': WHATEVER THE INPUT: true; the input reads as it did. -/
def justifySetsSpec : ChangeSpec := { name := "justifySets", fn := fun _ => fun
  | [d1, d2, d3] => { results := [.lit (.bool true)], args := [d1, d2, d3] }
  | _ => none }
def justifySetsRow : OpenClaim := { program := "ytfpmkfoddeogbaa", sum := "a477334880644d664b1dcde3c7270b044f7a79756857bca105162d6016d77ce2", func := "constraint/constraintlaw49.JustifySets", spec := "justifySets", recurses := true, apart := false }
def JustifySetsSaid : Prop := justifySetsRow.holds Try.pinned (OpenSpec.ofChange justifySetsSpec)

/-- ITS FALSE NEIGHBOUR: 'it returns false'. Refute it at one input. -/
def justifySetsWrong : ChangeSpec := { name := "justifySets", fn := fun _ => fun
  | [d1, d2, d3] => { results := [.lit (.bool false)], args := [d1, d2, d3] }
  | _ => none }
def JustifySetsWrongFalsely : Prop := justifySetsRow.holds Try.pinned (OpenSpec.ofChange justifySetsWrong)

/-- 'constraintlaw49.JustifyUnion': WHATEVER THE INPUT: true; the input reads as it did. -/
def justifyUnionSpec : ChangeSpec := { name := "justifyUnion", fn := fun _ => fun
  | [d1, d2, d3] => { results := [.lit (.bool true)], args := [d1, d2, d3] }
  | _ => none }
def justifyUnionRow : OpenClaim := { program := "ytfpmkfoddeogbaa", sum := "a477334880644d664b1dcde3c7270b044f7a79756857bca105162d6016d77ce2", func := "constraint/constraintlaw49.JustifyUnion", spec := "justifyUnion", recurses := true, apart := false }
def JustifyUnionSaid : Prop := justifyUnionRow.holds Try.pinned (OpenSpec.ofChange justifyUnionSpec)

/-- ITS FALSE NEIGHBOUR: 'it returns false'. Refute it at one input. -/
def justifyUnionWrong : ChangeSpec := { name := "justifyUnion", fn := fun _ => fun
  | [d1, d2, d3] => { results := [.lit (.bool false)], args := [d1, d2, d3] }
  | _ => none }
def JustifyUnionWrongFalsely : Prop := justifyUnionRow.holds Try.pinned (OpenSpec.ofChange justifyUnionWrong)

/-- 'constraintlaw49.JustifyAlgebra': WHATEVER THE INPUT: true; the input reads as it did. -/
def justifyAlgebraSpec : ChangeSpec := { name := "justifyAlgebra", fn := fun _ => fun
  | [d1, d2, d3] => { results := [.lit (.bool true)], args := [d1, d2, d3] }
  | _ => none }
def justifyAlgebraRow : OpenClaim := { program := "ytfpmkfoddeogbaa", sum := "a477334880644d664b1dcde3c7270b044f7a79756857bca105162d6016d77ce2", func := "constraint/constraintlaw49.JustifyAlgebra", spec := "justifyAlgebra", recurses := true, apart := false }
def JustifyAlgebraSaid : Prop := justifyAlgebraRow.holds Try.pinned (OpenSpec.ofChange justifyAlgebraSpec)

/-- ITS FALSE NEIGHBOUR: 'it returns false'. Refute it at one input. -/
def justifyAlgebraWrong : ChangeSpec := { name := "justifyAlgebra", fn := fun _ => fun
  | [d1, d2, d3] => { results := [.lit (.bool false)], args := [d1, d2, d3] }
  | _ => none }
def JustifyAlgebraWrongFalsely : Prop := justifyAlgebraRow.holds Try.pinned (OpenSpec.ofChange justifyAlgebraWrong)

/-- 'constraintlaw49.JustifyFacts': WHATEVER THE INPUT: true; the input reads as it did. -/
def justifyFactsSpec : ChangeSpec := { name := "justifyFacts", fn := fun _ => fun
  | [d1, d2, d3] => { results := [.lit (.bool true)], args := [d1, d2, d3] }
  | _ => none }
def justifyFactsRow : OpenClaim := { program := "ytfpmkfoddeogbaa", sum := "a477334880644d664b1dcde3c7270b044f7a79756857bca105162d6016d77ce2", func := "constraint/constraintlaw49.JustifyFacts", spec := "justifyFacts", recurses := true, loops := true, apart := false }
def JustifyFactsSaid : Prop := justifyFactsRow.holds Try.pinned (OpenSpec.ofChange justifyFactsSpec)

/-- ITS FALSE NEIGHBOUR: 'it returns false'. Refute it at one input. -/
def justifyFactsWrong : ChangeSpec := { name := "justifyFacts", fn := fun _ => fun
  | [d1, d2, d3] => { results := [.lit (.bool false)], args := [d1, d2, d3] }
  | _ => none }
def JustifyFactsWrongFalsely : Prop := justifyFactsRow.holds Try.pinned (OpenSpec.ofChange justifyFactsWrong)

/-- 'constraintlaw49.JustifySplits': WHATEVER THE INPUT: true; the input reads as it did. -/
def justifySplitsSpec : ChangeSpec := { name := "justifySplits", fn := fun _ => fun
  | [d1, d2] => { results := [.lit (.bool true)], args := [d1, d2] }
  | _ => none }
def justifySplitsRow : OpenClaim := { program := "ytfpmkfoddeogbaa", sum := "a477334880644d664b1dcde3c7270b044f7a79756857bca105162d6016d77ce2", func := "constraint/constraintlaw49.JustifySplits", spec := "justifySplits", recurses := true, loops := true, apart := false }
def JustifySplitsSaid : Prop := justifySplitsRow.holds Try.pinned (OpenSpec.ofChange justifySplitsSpec)

/-- ITS FALSE NEIGHBOUR: 'it returns false'. Refute it at one input. -/
def justifySplitsWrong : ChangeSpec := { name := "justifySplits", fn := fun _ => fun
  | [d1, d2] => { results := [.lit (.bool false)], args := [d1, d2] }
  | _ => none }
def JustifySplitsWrongFalsely : Prop := justifySplitsRow.holds Try.pinned (OpenSpec.ofChange justifySplitsWrong)

/- THE SECOND FORM. 'bulk': how many values and letters a reading holds, each counted each time it is reached (what is shared counts as often as it is met; a slice's spare places count too). A statement '..UptoSaid' is the law's where the arguments, and the package variables that the reading takes, are together of bulk at most 1048576: NARROWER than '..Said'. Prove '..Said' where nothing that the law and all that it calls make is longer than what came in: it says more and counts as full. Else prove '..UptoSaid'. A law counts once. -/
mutual
def uptoBulk {H : Type} : DataW H → Nat
  | .lit (.string bytes) => bytes.length + 1
  | .lit _ => 1
  | .nil => 1
  | .ptr d => uptoBulk d + 1
  | .slice elems spare => uptoBulkAll elems + uptoBulkAll spare + 1
  | .agg parts => uptoBulkAll parts + 1
  | .iface _ d => uptoBulk d + 1
  | .map entries => uptoBulkEntries entries + 1
  | .held _ => 1
def uptoBulkAll {H : Type} : List (DataW H) → Nat
  | [] => 0
  | d :: r => uptoBulk d + uptoBulkAll r
def uptoBulkEntries {H : Type} : List (Lit × DataW H) → Nat
  | [] => 0
  | x :: r => uptoBulkEntry x + uptoBulkEntries r
def uptoBulkEntry {H : Type} : Lit × DataW H → Nat
  | (.string bytes, d) => bytes.length + uptoBulk d + 1
  | (_, d) => uptoBulk d + 1
 end
def uptoSmall : (H : Type) → List (DataW H) → Bool := fun _ ds => decide (uptoBulkAll ds ≤ 1048576)
def OpenSpec.upto (s : _root_.Go.ChangeSpec) : _root_.Go.OpenSpec := { _root_.Go.OpenSpec.ofChange s with cond := some uptoSmall }

/-- 'constraintlaw30.LookupKnown', WHERE WHAT IT READS IS OF BULK AT MOST 1048576: true; the input reads as it did. -/
def lookupKnownUptoRow : OpenClaim := { program := "ytfpmkfoddeogbaa", sum := "a477334880644d664b1dcde3c7270b044f7a79756857bca105162d6016d77ce2", func := "constraint/constraintlaw30.LookupKnown", spec := "lookupKnown", unfollowed := true, recurses := true, loops := true, apart := false, narrowed := true }
def LookupKnownUptoSaid : Prop := lookupKnownUptoRow.holds Try.pinned (OpenSpec.upto lookupKnownSpec)

/-- 'constraintlaw30.LookupAccess', WHERE WHAT IT READS IS OF BULK AT MOST 1048576: true; the input reads as it did. -/
def lookupAccessUptoRow : OpenClaim := { program := "ytfpmkfoddeogbaa", sum := "a477334880644d664b1dcde3c7270b044f7a79756857bca105162d6016d77ce2", func := "constraint/constraintlaw30.LookupAccess", spec := "lookupAccess", unfollowed := true, recurses := true, loops := true, apart := false, narrowed := true }
def LookupAccessUptoSaid : Prop := lookupAccessUptoRow.holds Try.pinned (OpenSpec.upto lookupAccessSpec)

/-- 'constraintlaw22.WakeAffects', WHERE WHAT IT READS IS OF BULK AT MOST 1048576: true; the input reads as it did. -/
def wakeAffectsUptoRow : OpenClaim := { program := "ytfpmkfoddeogbaa", sum := "a477334880644d664b1dcde3c7270b044f7a79756857bca105162d6016d77ce2", func := "constraint/constraintlaw22.WakeAffects", spec := "wakeAffects", unfollowed := true, recurses := true, loops := true, apart := false, narrowed := true }
def WakeAffectsUptoSaid : Prop := wakeAffectsUptoRow.holds Try.pinned (OpenSpec.upto wakeAffectsSpec)

/-- 'constraintlaw22.WakePushes', WHERE WHAT IT READS IS OF BULK AT MOST 1048576: true; the input reads as it did. -/
def wakePushesUptoRow : OpenClaim := { program := "ytfpmkfoddeogbaa", sum := "a477334880644d664b1dcde3c7270b044f7a79756857bca105162d6016d77ce2", func := "constraint/constraintlaw22.WakePushes", spec := "wakePushes", unfollowed := true, recurses := true, loops := true, apart := false, narrowed := true }
def WakePushesUptoSaid : Prop := wakePushesUptoRow.holds Try.pinned (OpenSpec.upto wakePushesSpec)

/-- 'constraintlaw22.WakeTops', WHERE WHAT IT READS IS OF BULK AT MOST 1048576: true; the input reads as it did. -/
def wakeTopsUptoRow : OpenClaim := { program := "ytfpmkfoddeogbaa", sum := "a477334880644d664b1dcde3c7270b044f7a79756857bca105162d6016d77ce2", func := "constraint/constraintlaw22.WakeTops", spec := "wakeTops", unfollowed := true, recurses := true, loops := true, apart := false, narrowed := true }
def WakeTopsUptoSaid : Prop := wakeTopsUptoRow.holds Try.pinned (OpenSpec.upto wakeTopsSpec)

/-- 'constraintlaw22.WakeLess', WHERE WHAT IT READS IS OF BULK AT MOST 1048576: true; the input reads as it did. -/
def wakeLessUptoRow : OpenClaim := { program := "ytfpmkfoddeogbaa", sum := "a477334880644d664b1dcde3c7270b044f7a79756857bca105162d6016d77ce2", func := "constraint/constraintlaw22.WakeLess", spec := "wakeLess", unfollowed := true, recurses := true, loops := true, apart := false, narrowed := true }
def WakeLessUptoSaid : Prop := wakeLessUptoRow.holds Try.pinned (OpenSpec.upto wakeLessSpec)

/-- 'constraintlaw49.JustifySets', WHERE WHAT IT READS IS OF BULK AT MOST 1048576: true; the input reads as it did. -/
def justifySetsUptoRow : OpenClaim := { program := "ytfpmkfoddeogbaa", sum := "a477334880644d664b1dcde3c7270b044f7a79756857bca105162d6016d77ce2", func := "constraint/constraintlaw49.JustifySets", spec := "justifySets", recurses := true, apart := false, narrowed := true }
def JustifySetsUptoSaid : Prop := justifySetsUptoRow.holds Try.pinned (OpenSpec.upto justifySetsSpec)

/-- 'constraintlaw49.JustifyUnion', WHERE WHAT IT READS IS OF BULK AT MOST 1048576: true; the input reads as it did. -/
def justifyUnionUptoRow : OpenClaim := { program := "ytfpmkfoddeogbaa", sum := "a477334880644d664b1dcde3c7270b044f7a79756857bca105162d6016d77ce2", func := "constraint/constraintlaw49.JustifyUnion", spec := "justifyUnion", recurses := true, apart := false, narrowed := true }
def JustifyUnionUptoSaid : Prop := justifyUnionUptoRow.holds Try.pinned (OpenSpec.upto justifyUnionSpec)

/-- 'constraintlaw49.JustifyAlgebra', WHERE WHAT IT READS IS OF BULK AT MOST 1048576: true; the input reads as it did. -/
def justifyAlgebraUptoRow : OpenClaim := { program := "ytfpmkfoddeogbaa", sum := "a477334880644d664b1dcde3c7270b044f7a79756857bca105162d6016d77ce2", func := "constraint/constraintlaw49.JustifyAlgebra", spec := "justifyAlgebra", recurses := true, apart := false, narrowed := true }
def JustifyAlgebraUptoSaid : Prop := justifyAlgebraUptoRow.holds Try.pinned (OpenSpec.upto justifyAlgebraSpec)

/-- 'constraintlaw49.JustifyFacts', WHERE WHAT IT READS IS OF BULK AT MOST 1048576: true; the input reads as it did. -/
def justifyFactsUptoRow : OpenClaim := { program := "ytfpmkfoddeogbaa", sum := "a477334880644d664b1dcde3c7270b044f7a79756857bca105162d6016d77ce2", func := "constraint/constraintlaw49.JustifyFacts", spec := "justifyFacts", recurses := true, loops := true, apart := false, narrowed := true }
def JustifyFactsUptoSaid : Prop := justifyFactsUptoRow.holds Try.pinned (OpenSpec.upto justifyFactsSpec)

/-- 'constraintlaw49.JustifySplits', WHERE WHAT IT READS IS OF BULK AT MOST 1048576: true; the input reads as it did. -/
def justifySplitsUptoRow : OpenClaim := { program := "ytfpmkfoddeogbaa", sum := "a477334880644d664b1dcde3c7270b044f7a79756857bca105162d6016d77ce2", func := "constraint/constraintlaw49.JustifySplits", spec := "justifySplits", recurses := true, loops := true, apart := false, narrowed := true }
def JustifySplitsUptoSaid : Prop := justifySplitsUptoRow.holds Try.pinned (OpenSpec.upto justifySplitsSpec)

end Rows
end Go.Proofs.Ytfpmkfoddeogbaa
