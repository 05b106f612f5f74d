/-
  NARROWER THAN 'FOR EVERY INPUT', by the rows' own cells (each row's printed sentence says how): UnifySolves: loops · UnifyLists: loops · UnifyMakes: loops · UnifyGeneral: loops · UnifyFunctors: loops.
  DERIVED. THE GIVEN ROWS OF THIS SEAT. 5 by the template 'for every input the law returns true; each argument reads behind the call as it read before'; 0 by the template 'total and deterministic' (their statements: YtahooabjmaolhaaTotals.lean).
  GIVEN WITH THE SEED: the statements are not yours to turn. If you find one false, say at which input.
  Laid BY PROGRAM, IN A SANDBOX (cutbox-rows.mjs): the forced cells as the released guide's own fill.sh prints them over the translation a0772be128bbfa50… (all of the seat's roots in one cut). By AI agents, Wed Nov 11 2026. No macro, syntax, notation, axiom, sorry.
-/
import Derived.Test.YtahooabjmaolhaaChecked
import GoSem.Claim
import GoSem.ClaimJoined
import GoSem.ClaimMapViews
import Derived.JoinedTies
import Derived.KernelRfl
namespace Go.Proofs.Ytahooabjmaolhaa
/- THE CELL 'sum', in the pinned program and in every row, IS THE sha256 OF THE DUMP (.gsa) THAT YtahooabjmaolhaaProg.lean LOADS. Nothing in Lean hashes anything: it is a label: what it is worth is what the hold of that sum in a sandbox is worth. -/
noncomputable def Try.pinned : Pinned := { name := "ytahooabjmaolhaa", sum := "a0772be128bbfa50325b5fff7c4fb3bd403054abd20f1ec113e696f1e608acbf", checked := Try.checked }
namespace Rows
def none {H : Type} : Left H := { results := [], args := [] }

/-- 'constraintlaw07.UnifySolves': WHATEVER THE INPUT: true; the input reads as it did. -/
def unifySolvesSpec : ChangeSpec := { name := "unifySolves", fn := fun _ => fun
  | [d1, d2] => { results := [.lit (.bool true)], args := [d1, d2] }
  | _ => none }
def unifySolvesRow : OpenClaim := { program := "ytahooabjmaolhaa", sum := "a0772be128bbfa50325b5fff7c4fb3bd403054abd20f1ec113e696f1e608acbf", func := "constraint/constraintlaw07.UnifySolves", spec := "unifySolves", inPlace := ["internal/bytealg.IndexByteString", "internal/bytealg.IndexString"], unfollowed := true, recurses := true, named := ["internal/bytealg.MaxLen"], loops := true, apart := false }
def UnifySolvesSaid : Prop := unifySolvesRow.holds Try.pinned (OpenSpec.ofChange unifySolvesSpec)

/-- ITS FALSE NEIGHBOUR: 'it returns false'. Refute it at one input. -/
def unifySolvesWrong : ChangeSpec := { name := "unifySolves", fn := fun _ => fun
  | [d1, d2] => { results := [.lit (.bool false)], args := [d1, d2] }
  | _ => none }
def UnifySolvesWrongFalsely : Prop := unifySolvesRow.holds Try.pinned (OpenSpec.ofChange unifySolvesWrong)

/-- 'constraintlaw07.UnifyLists': WHATEVER THE INPUT: true; the input reads as it did. -/
def unifyListsSpec : ChangeSpec := { name := "unifyLists", fn := fun _ => fun
  | [d1, d2] => { results := [.lit (.bool true)], args := [d1, d2] }
  | _ => none }
def unifyListsRow : OpenClaim := { program := "ytahooabjmaolhaa", sum := "a0772be128bbfa50325b5fff7c4fb3bd403054abd20f1ec113e696f1e608acbf", func := "constraint/constraintlaw07.UnifyLists", spec := "unifyLists", inPlace := ["internal/bytealg.IndexByteString", "internal/bytealg.IndexString"], unfollowed := true, recurses := true, named := ["internal/bytealg.MaxLen"], loops := true, apart := false }
def UnifyListsSaid : Prop := unifyListsRow.holds Try.pinned (OpenSpec.ofChange unifyListsSpec)

/-- ITS FALSE NEIGHBOUR: 'it returns false'. Refute it at one input. -/
def unifyListsWrong : ChangeSpec := { name := "unifyLists", fn := fun _ => fun
  | [d1, d2] => { results := [.lit (.bool false)], args := [d1, d2] }
  | _ => none }
def UnifyListsWrongFalsely : Prop := unifyListsRow.holds Try.pinned (OpenSpec.ofChange unifyListsWrong)

/-- 'constraintlaw07.UnifyMakes': WHATEVER THE INPUT: true; the input reads as it did. -/
def unifyMakesSpec : ChangeSpec := { name := "unifyMakes", fn := fun _ => fun
  | [d1, d2] => { results := [.lit (.bool true)], args := [d1, d2] }
  | _ => none }
def unifyMakesRow : OpenClaim := { program := "ytahooabjmaolhaa", sum := "a0772be128bbfa50325b5fff7c4fb3bd403054abd20f1ec113e696f1e608acbf", func := "constraint/constraintlaw07.UnifyMakes", spec := "unifyMakes", inPlace := ["internal/bytealg.IndexByteString", "internal/bytealg.IndexString"], unfollowed := true, recurses := true, named := ["internal/bytealg.MaxLen"], loops := true, apart := false }
def UnifyMakesSaid : Prop := unifyMakesRow.holds Try.pinned (OpenSpec.ofChange unifyMakesSpec)

/-- ITS FALSE NEIGHBOUR: 'it returns false'. Refute it at one input. -/
def unifyMakesWrong : ChangeSpec := { name := "unifyMakes", fn := fun _ => fun
  | [d1, d2] => { results := [.lit (.bool false)], args := [d1, d2] }
  | _ => none }
def UnifyMakesWrongFalsely : Prop := unifyMakesRow.holds Try.pinned (OpenSpec.ofChange unifyMakesWrong)

/-- 'constraintlaw07.UnifyGeneral': WHATEVER THE INPUT: true; the input reads as it did. -/
def unifyGeneralSpec : ChangeSpec := { name := "unifyGeneral", fn := fun _ => fun
  | [d1, d2, d3] => { results := [.lit (.bool true)], args := [d1, d2, d3] }
  | _ => none }
def unifyGeneralRow : OpenClaim := { program := "ytahooabjmaolhaa", sum := "a0772be128bbfa50325b5fff7c4fb3bd403054abd20f1ec113e696f1e608acbf", func := "constraint/constraintlaw07.UnifyGeneral", spec := "unifyGeneral", inPlace := ["internal/bytealg.IndexByteString", "internal/bytealg.IndexString"], unfollowed := true, recurses := true, named := ["internal/bytealg.MaxLen"], loops := true, apart := false }
def UnifyGeneralSaid : Prop := unifyGeneralRow.holds Try.pinned (OpenSpec.ofChange unifyGeneralSpec)

/-- ITS FALSE NEIGHBOUR: 'it returns false'. Refute it at one input. -/
def unifyGeneralWrong : ChangeSpec := { name := "unifyGeneral", fn := fun _ => fun
  | [d1, d2, d3] => { results := [.lit (.bool false)], args := [d1, d2, d3] }
  | _ => none }
def UnifyGeneralWrongFalsely : Prop := unifyGeneralRow.holds Try.pinned (OpenSpec.ofChange unifyGeneralWrong)

/-- 'constraintlaw07.UnifyFunctors': WHATEVER THE INPUT: true; the input reads as it did. -/
def unifyFunctorsSpec : ChangeSpec := { name := "unifyFunctors", fn := fun _ => fun
  | [d1, d2] => { results := [.lit (.bool true)], args := [d1, d2] }
  | _ => none }
def unifyFunctorsRow : OpenClaim := { program := "ytahooabjmaolhaa", sum := "a0772be128bbfa50325b5fff7c4fb3bd403054abd20f1ec113e696f1e608acbf", func := "constraint/constraintlaw07.UnifyFunctors", spec := "unifyFunctors", inPlace := ["internal/bytealg.IndexByteString", "internal/bytealg.IndexString"], unfollowed := true, recurses := true, named := ["internal/bytealg.MaxLen"], loops := true, apart := false }
def UnifyFunctorsSaid : Prop := unifyFunctorsRow.holds Try.pinned (OpenSpec.ofChange unifyFunctorsSpec)

/-- ITS FALSE NEIGHBOUR: 'it returns false'. Refute it at one input. -/
def unifyFunctorsWrong : ChangeSpec := { name := "unifyFunctors", fn := fun _ => fun
  | [d1, d2] => { results := [.lit (.bool false)], args := [d1, d2] }
  | _ => none }
def UnifyFunctorsWrongFalsely : Prop := unifyFunctorsRow.holds Try.pinned (OpenSpec.ofChange unifyFunctorsWrong)

/- THE SECOND FORM. 'bulk': how many values and letters a reading holds, each counted each time it is reached (what is shared counts as often as it is met; a slice's spare places count too). A statement '..UptoSaid' is the law's where the arguments, and the package variables that the reading takes, are together of bulk at most 1048576: NARROWER than '..Said'. Prove '..Said' where nothing that the law and all that it calls make is longer than what came in: it says more and counts as full. Else prove '..UptoSaid'. A law counts once. -/
mutual
def uptoBulk {H : Type} : DataW H → Nat
  | .lit (.string bytes) => bytes.length + 1
  | .lit _ => 1
  | .nil => 1
  | .ptr d => uptoBulk d + 1
  | .slice elems spare => uptoBulkAll elems + uptoBulkAll spare + 1
  | .agg parts => uptoBulkAll parts + 1
  | .iface _ d => uptoBulk d + 1
  | .map entries => uptoBulkEntries entries + 1
  | .held _ => 1
def uptoBulkAll {H : Type} : List (DataW H) → Nat
  | [] => 0
  | d :: r => uptoBulk d + uptoBulkAll r
def uptoBulkEntries {H : Type} : List (Lit × DataW H) → Nat
  | [] => 0
  | x :: r => uptoBulkEntry x + uptoBulkEntries r
def uptoBulkEntry {H : Type} : Lit × DataW H → Nat
  | (.string bytes, d) => bytes.length + uptoBulk d + 1
  | (_, d) => uptoBulk d + 1
 end
def uptoSmall : (H : Type) → List (DataW H) → Bool := fun _ ds => decide (uptoBulkAll ds ≤ 1048576)
def OpenSpec.upto (s : _root_.Go.ChangeSpec) : _root_.Go.OpenSpec := { _root_.Go.OpenSpec.ofChange s with cond := some uptoSmall }

/-- 'constraintlaw07.UnifySolves', WHERE WHAT IT READS IS OF BULK AT MOST 1048576: true; the input reads as it did. -/
def unifySolvesUptoRow : OpenClaim := { program := "ytahooabjmaolhaa", sum := "a0772be128bbfa50325b5fff7c4fb3bd403054abd20f1ec113e696f1e608acbf", func := "constraint/constraintlaw07.UnifySolves", spec := "unifySolves", inPlace := ["internal/bytealg.IndexByteString", "internal/bytealg.IndexString"], unfollowed := true, recurses := true, named := ["internal/bytealg.MaxLen"], loops := true, apart := false, narrowed := true }
def UnifySolvesUptoSaid : Prop := unifySolvesUptoRow.holds Try.pinned (OpenSpec.upto unifySolvesSpec)

/-- 'constraintlaw07.UnifyLists', WHERE WHAT IT READS IS OF BULK AT MOST 1048576: true; the input reads as it did. -/
def unifyListsUptoRow : OpenClaim := { program := "ytahooabjmaolhaa", sum := "a0772be128bbfa50325b5fff7c4fb3bd403054abd20f1ec113e696f1e608acbf", func := "constraint/constraintlaw07.UnifyLists", spec := "unifyLists", inPlace := ["internal/bytealg.IndexByteString", "internal/bytealg.IndexString"], unfollowed := true, recurses := true, named := ["internal/bytealg.MaxLen"], loops := true, apart := false, narrowed := true }
def UnifyListsUptoSaid : Prop := unifyListsUptoRow.holds Try.pinned (OpenSpec.upto unifyListsSpec)

/-- 'constraintlaw07.UnifyMakes', WHERE WHAT IT READS IS OF BULK AT MOST 1048576: true; the input reads as it did. -/
def unifyMakesUptoRow : OpenClaim := { program := "ytahooabjmaolhaa", sum := "a0772be128bbfa50325b5fff7c4fb3bd403054abd20f1ec113e696f1e608acbf", func := "constraint/constraintlaw07.UnifyMakes", spec := "unifyMakes", inPlace := ["internal/bytealg.IndexByteString", "internal/bytealg.IndexString"], unfollowed := true, recurses := true, named := ["internal/bytealg.MaxLen"], loops := true, apart := false, narrowed := true }
def UnifyMakesUptoSaid : Prop := unifyMakesUptoRow.holds Try.pinned (OpenSpec.upto unifyMakesSpec)

/-- 'constraintlaw07.UnifyGeneral', WHERE WHAT IT READS IS OF BULK AT MOST 1048576: true; the input reads as it did. -/
def unifyGeneralUptoRow : OpenClaim := { program := "ytahooabjmaolhaa", sum := "a0772be128bbfa50325b5fff7c4fb3bd403054abd20f1ec113e696f1e608acbf", func := "constraint/constraintlaw07.UnifyGeneral", spec := "unifyGeneral", inPlace := ["internal/bytealg.IndexByteString", "internal/bytealg.IndexString"], unfollowed := true, recurses := true, named := ["internal/bytealg.MaxLen"], loops := true, apart := false, narrowed := true }
def UnifyGeneralUptoSaid : Prop := unifyGeneralUptoRow.holds Try.pinned (OpenSpec.upto unifyGeneralSpec)

/-- 'constraintlaw07.UnifyFunctors', WHERE WHAT IT READS IS OF BULK AT MOST 1048576: true; the input reads as it did. -/
def unifyFunctorsUptoRow : OpenClaim := { program := "ytahooabjmaolhaa", sum := "a0772be128bbfa50325b5fff7c4fb3bd403054abd20f1ec113e696f1e608acbf", func := "constraint/constraintlaw07.UnifyFunctors", spec := "unifyFunctors", inPlace := ["internal/bytealg.IndexByteString", "internal/bytealg.IndexString"], unfollowed := true, recurses := true, named := ["internal/bytealg.MaxLen"], loops := true, apart := false, narrowed := true }
def UnifyFunctorsUptoSaid : Prop := unifyFunctorsUptoRow.holds Try.pinned (OpenSpec.upto unifyFunctorsSpec)

end Rows
end Go.Proofs.Ytahooabjmaolhaa
