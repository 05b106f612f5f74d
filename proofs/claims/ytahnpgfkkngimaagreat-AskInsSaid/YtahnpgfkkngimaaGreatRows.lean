/-
  NARROWER THAN 'FOR EVERY INPUT', by the rows' own cells (each row's printed sentence says how): BindsTells: loops · BindsValues: loops · BindsOrder: loops · AskTests: loops · AskFollows: loops · AskStable: loops · AskOpposites: loops · AskIns: loops.
  DERIVED. THE GIVEN ROWS OF THIS SEAT. 8 by the template 'for every input the law returns true; each argument reads behind the call as it read before'; 0 by the template 'total and deterministic' (their statements: YtahnpgfkkngimaaGreatTotals.lean).
  GIVEN WITH THE SEED: the statements are not yours to turn. If you find one false, say at which input.
  Laid BY PROGRAM, IN A SANDBOX (cutbox-rows.mjs): the forced cells as the released guide's own fill.sh prints them over the translation 65db8716396b7c30… (all of the seat's roots in one cut). By AI agents, Wed Nov 11 2026. No macro, syntax, notation, axiom, sorry.
-/
import Derived.Test.YtahnpgfkkngimaaGreatChecked
import GoSem.Claim
import GoSem.ClaimJoined
import GoSem.ClaimMapViews
import Derived.JoinedTies
import Derived.KernelRfl
namespace Go.Proofs.YtahnpgfkkngimaaGreat
/- THE CELL 'sum', in the pinned program and in every row, IS THE sha256 OF THE DUMP (.gsa) THAT YtahnpgfkkngimaaGreatProg.lean LOADS. Nothing in Lean hashes anything: it is a label: what it is worth is what the hold of that sum in a sandbox is worth. -/
noncomputable def Tryz.pinned : Pinned := { name := "ytahnpgfkkngimaagreat", sum := "65db8716396b7c309d9cb3691675ffd36af389dd63f6284f7f174abe27186796", checked := Tryz.checked }
namespace Rows
def none {H : Type} : Left H := { results := [], args := [] }

/-- 'constraintlaw10.BindsTells': WHATEVER THE INPUT: true; the input reads as it did. -/
def bindsTellsSpec : ChangeSpec := { name := "bindsTells", fn := fun _ => fun
  | [d1, d2, d3] => { results := [.lit (.bool true)], args := [d1, d2, d3] }
  | _ => none }
def bindsTellsRow : OpenClaim := { program := "ytahnpgfkkngimaagreat", sum := "65db8716396b7c309d9cb3691675ffd36af389dd63f6284f7f174abe27186796", func := "constraint/constraintlaw10.BindsTells", spec := "bindsTells", inPlace := ["internal/bytealg.IndexByteString", "internal/bytealg.IndexString"], unfollowed := true, recurses := true, named := ["internal/bytealg.MaxLen"], loops := true, plainKeys := false, apart := false }
def BindsTellsSaid : Prop := bindsTellsRow.holds Tryz.pinned (OpenSpec.ofChange bindsTellsSpec)

/-- ITS FALSE NEIGHBOUR: 'it returns false'. Refute it at one input. -/
def bindsTellsWrong : ChangeSpec := { name := "bindsTells", fn := fun _ => fun
  | [d1, d2, d3] => { results := [.lit (.bool false)], args := [d1, d2, d3] }
  | _ => none }
def BindsTellsWrongFalsely : Prop := bindsTellsRow.holds Tryz.pinned (OpenSpec.ofChange bindsTellsWrong)

/-- 'constraintlaw10.BindsValues': WHATEVER THE INPUT: true; the input reads as it did. -/
def bindsValuesSpec : ChangeSpec := { name := "bindsValues", fn := fun _ => fun
  | [d1, d2, d3] => { results := [.lit (.bool true)], args := [d1, d2, d3] }
  | _ => none }
def bindsValuesRow : OpenClaim := { program := "ytahnpgfkkngimaagreat", sum := "65db8716396b7c309d9cb3691675ffd36af389dd63f6284f7f174abe27186796", func := "constraint/constraintlaw10.BindsValues", spec := "bindsValues", inPlace := ["internal/bytealg.IndexByteString", "internal/bytealg.IndexString"], unfollowed := true, recurses := true, named := ["internal/bytealg.MaxLen"], loops := true, plainKeys := false, apart := false }
def BindsValuesSaid : Prop := bindsValuesRow.holds Tryz.pinned (OpenSpec.ofChange bindsValuesSpec)

/-- ITS FALSE NEIGHBOUR: 'it returns false'. Refute it at one input. -/
def bindsValuesWrong : ChangeSpec := { name := "bindsValues", fn := fun _ => fun
  | [d1, d2, d3] => { results := [.lit (.bool false)], args := [d1, d2, d3] }
  | _ => none }
def BindsValuesWrongFalsely : Prop := bindsValuesRow.holds Tryz.pinned (OpenSpec.ofChange bindsValuesWrong)

/-- 'constraintlaw10.BindsOrder': WHATEVER THE INPUT: true; the input reads as it did. -/
def bindsOrderSpec : ChangeSpec := { name := "bindsOrder", fn := fun _ => fun
  | [d1, d2, d3] => { results := [.lit (.bool true)], args := [d1, d2, d3] }
  | _ => none }
def bindsOrderRow : OpenClaim := { program := "ytahnpgfkkngimaagreat", sum := "65db8716396b7c309d9cb3691675ffd36af389dd63f6284f7f174abe27186796", func := "constraint/constraintlaw10.BindsOrder", spec := "bindsOrder", inPlace := ["internal/bytealg.IndexByteString", "internal/bytealg.IndexString"], unfollowed := true, recurses := true, named := ["internal/bytealg.MaxLen"], loops := true, plainKeys := false, apart := false }
def BindsOrderSaid : Prop := bindsOrderRow.holds Tryz.pinned (OpenSpec.ofChange bindsOrderSpec)

/-- ITS FALSE NEIGHBOUR: 'it returns false'. Refute it at one input. -/
def bindsOrderWrong : ChangeSpec := { name := "bindsOrder", fn := fun _ => fun
  | [d1, d2, d3] => { results := [.lit (.bool false)], args := [d1, d2, d3] }
  | _ => none }
def BindsOrderWrongFalsely : Prop := bindsOrderRow.holds Tryz.pinned (OpenSpec.ofChange bindsOrderWrong)

/-- 'constraintlaw11.AskTests': WHATEVER THE INPUT: true; the input reads as it did. -/
def askTestsSpec : ChangeSpec := { name := "askTests", fn := fun _ => fun
  | [d] => { results := [.lit (.bool true)], args := [d] }
  | _ => none }
def askTestsRow : OpenClaim := { program := "ytahnpgfkkngimaagreat", sum := "65db8716396b7c309d9cb3691675ffd36af389dd63f6284f7f174abe27186796", func := "constraint/constraintlaw11.AskTests", spec := "askTests", inPlace := ["internal/bytealg.IndexByteString", "internal/bytealg.IndexString"], unfollowed := true, recurses := true, named := ["internal/bytealg.MaxLen"], loops := true, plainKeys := false, apart := false }
def AskTestsSaid : Prop := askTestsRow.holds Tryz.pinned (OpenSpec.ofChange askTestsSpec)

/-- ITS FALSE NEIGHBOUR: 'it returns false'. Refute it at one input. -/
def askTestsWrong : ChangeSpec := { name := "askTests", fn := fun _ => fun
  | [d] => { results := [.lit (.bool false)], args := [d] }
  | _ => none }
def AskTestsWrongFalsely : Prop := askTestsRow.holds Tryz.pinned (OpenSpec.ofChange askTestsWrong)

/-- 'constraintlaw11.AskFollows': WHATEVER THE INPUT: true; the input reads as it did. -/
def askFollowsSpec : ChangeSpec := { name := "askFollows", fn := fun _ => fun
  | [d1, d2] => { results := [.lit (.bool true)], args := [d1, d2] }
  | _ => none }
def askFollowsRow : OpenClaim := { program := "ytahnpgfkkngimaagreat", sum := "65db8716396b7c309d9cb3691675ffd36af389dd63f6284f7f174abe27186796", func := "constraint/constraintlaw11.AskFollows", spec := "askFollows", inPlace := ["internal/bytealg.IndexByteString", "internal/bytealg.IndexString"], unfollowed := true, recurses := true, named := ["internal/bytealg.MaxLen"], loops := true, plainKeys := false, apart := false }
def AskFollowsSaid : Prop := askFollowsRow.holds Tryz.pinned (OpenSpec.ofChange askFollowsSpec)

/-- ITS FALSE NEIGHBOUR: 'it returns false'. Refute it at one input. -/
def askFollowsWrong : ChangeSpec := { name := "askFollows", fn := fun _ => fun
  | [d1, d2] => { results := [.lit (.bool false)], args := [d1, d2] }
  | _ => none }
def AskFollowsWrongFalsely : Prop := askFollowsRow.holds Tryz.pinned (OpenSpec.ofChange askFollowsWrong)

/-- 'constraintlaw11.AskStable': WHATEVER THE INPUT: true; the input reads as it did. -/
def askStableSpec : ChangeSpec := { name := "askStable", fn := fun _ => fun
  | [d1, d2] => { results := [.lit (.bool true)], args := [d1, d2] }
  | _ => none }
def askStableRow : OpenClaim := { program := "ytahnpgfkkngimaagreat", sum := "65db8716396b7c309d9cb3691675ffd36af389dd63f6284f7f174abe27186796", func := "constraint/constraintlaw11.AskStable", spec := "askStable", inPlace := ["internal/bytealg.IndexByteString", "internal/bytealg.IndexString"], unfollowed := true, recurses := true, named := ["internal/bytealg.MaxLen"], loops := true, plainKeys := false, apart := false }
def AskStableSaid : Prop := askStableRow.holds Tryz.pinned (OpenSpec.ofChange askStableSpec)

/-- ITS FALSE NEIGHBOUR: 'it returns false'. Refute it at one input. -/
def askStableWrong : ChangeSpec := { name := "askStable", fn := fun _ => fun
  | [d1, d2] => { results := [.lit (.bool false)], args := [d1, d2] }
  | _ => none }
def AskStableWrongFalsely : Prop := askStableRow.holds Tryz.pinned (OpenSpec.ofChange askStableWrong)

/-- 'constraintlaw11.AskOpposites': WHATEVER THE INPUT: true; the input reads as it did. -/
def askOppositesSpec : ChangeSpec := { name := "askOpposites", fn := fun _ => fun
  | [d1, d2] => { results := [.lit (.bool true)], args := [d1, d2] }
  | _ => none }
def askOppositesRow : OpenClaim := { program := "ytahnpgfkkngimaagreat", sum := "65db8716396b7c309d9cb3691675ffd36af389dd63f6284f7f174abe27186796", func := "constraint/constraintlaw11.AskOpposites", spec := "askOpposites", inPlace := ["internal/bytealg.IndexByteString", "internal/bytealg.IndexString"], unfollowed := true, recurses := true, named := ["internal/bytealg.MaxLen"], loops := true, plainKeys := false, apart := false }
def AskOppositesSaid : Prop := askOppositesRow.holds Tryz.pinned (OpenSpec.ofChange askOppositesSpec)

/-- ITS FALSE NEIGHBOUR: 'it returns false'. Refute it at one input. -/
def askOppositesWrong : ChangeSpec := { name := "askOpposites", fn := fun _ => fun
  | [d1, d2] => { results := [.lit (.bool false)], args := [d1, d2] }
  | _ => none }
def AskOppositesWrongFalsely : Prop := askOppositesRow.holds Tryz.pinned (OpenSpec.ofChange askOppositesWrong)

/-- 'constraintlaw11.AskIns': WHATEVER THE INPUT: true; the input reads as it did. -/
def askInsSpec : ChangeSpec := { name := "askIns", fn := fun _ => fun
  | [d1, d2, d3] => { results := [.lit (.bool true)], args := [d1, d2, d3] }
  | _ => none }
def askInsRow : OpenClaim := { program := "ytahnpgfkkngimaagreat", sum := "65db8716396b7c309d9cb3691675ffd36af389dd63f6284f7f174abe27186796", func := "constraint/constraintlaw11.AskIns", spec := "askIns", inPlace := ["internal/bytealg.IndexByteString", "internal/bytealg.IndexString"], unfollowed := true, recurses := true, named := ["internal/bytealg.MaxLen"], loops := true, plainKeys := false, apart := false }
def AskInsSaid : Prop := askInsRow.holds Tryz.pinned (OpenSpec.ofChange askInsSpec)

/-- ITS FALSE NEIGHBOUR: 'it returns false'. Refute it at one input. -/
def askInsWrong : ChangeSpec := { name := "askIns", fn := fun _ => fun
  | [d1, d2, d3] => { results := [.lit (.bool false)], args := [d1, d2, d3] }
  | _ => none }
def AskInsWrongFalsely : Prop := askInsRow.holds Tryz.pinned (OpenSpec.ofChange askInsWrong)

/- THE SECOND FORM. 'bulk': how many values and letters a reading holds, each counted each time it is reached (what is shared counts as often as it is met; a slice's spare places count too). A statement '..UptoSaid' is the law's where the arguments, and the package variables that the reading takes, are together of bulk at most 1048576: NARROWER than '..Said'. Prove '..Said' where nothing that the law and all that it calls make is longer than what came in: it says more and counts as full. Else prove '..UptoSaid'. A law counts once. -/
mutual
def uptoBulk {H : Type} : DataW H → Nat
  | .lit (.string bytes) => bytes.length + 1
  | .lit _ => 1
  | .nil => 1
  | .ptr d => uptoBulk d + 1
  | .slice elems spare => uptoBulkAll elems + uptoBulkAll spare + 1
  | .agg parts => uptoBulkAll parts + 1
  | .iface _ d => uptoBulk d + 1
  | .map entries => uptoBulkEntries entries + 1
  | .held _ => 1
def uptoBulkAll {H : Type} : List (DataW H) → Nat
  | [] => 0
  | d :: r => uptoBulk d + uptoBulkAll r
def uptoBulkEntries {H : Type} : List (Lit × DataW H) → Nat
  | [] => 0
  | x :: r => uptoBulkEntry x + uptoBulkEntries r
def uptoBulkEntry {H : Type} : Lit × DataW H → Nat
  | (.string bytes, d) => bytes.length + uptoBulk d + 1
  | (_, d) => uptoBulk d + 1
 end
def uptoSmall : (H : Type) → List (DataW H) → Bool := fun _ ds => decide (uptoBulkAll ds ≤ 1048576)
def OpenSpec.upto (s : _root_.Go.ChangeSpec) : _root_.Go.OpenSpec := { _root_.Go.OpenSpec.ofChange s with cond := some uptoSmall }

/-- 'constraintlaw10.BindsTells', WHERE WHAT IT READS IS OF BULK AT MOST 1048576: true; the input reads as it did. -/
def bindsTellsUptoRow : OpenClaim := { program := "ytahnpgfkkngimaagreat", sum := "65db8716396b7c309d9cb3691675ffd36af389dd63f6284f7f174abe27186796", func := "constraint/constraintlaw10.BindsTells", spec := "bindsTells", inPlace := ["internal/bytealg.IndexByteString", "internal/bytealg.IndexString"], unfollowed := true, recurses := true, named := ["internal/bytealg.MaxLen"], loops := true, plainKeys := false, apart := false, narrowed := true }
def BindsTellsUptoSaid : Prop := bindsTellsUptoRow.holds Tryz.pinned (OpenSpec.upto bindsTellsSpec)

/-- 'constraintlaw10.BindsValues', WHERE WHAT IT READS IS OF BULK AT MOST 1048576: true; the input reads as it did. -/
def bindsValuesUptoRow : OpenClaim := { program := "ytahnpgfkkngimaagreat", sum := "65db8716396b7c309d9cb3691675ffd36af389dd63f6284f7f174abe27186796", func := "constraint/constraintlaw10.BindsValues", spec := "bindsValues", inPlace := ["internal/bytealg.IndexByteString", "internal/bytealg.IndexString"], unfollowed := true, recurses := true, named := ["internal/bytealg.MaxLen"], loops := true, plainKeys := false, apart := false, narrowed := true }
def BindsValuesUptoSaid : Prop := bindsValuesUptoRow.holds Tryz.pinned (OpenSpec.upto bindsValuesSpec)

/-- 'constraintlaw10.BindsOrder', WHERE WHAT IT READS IS OF BULK AT MOST 1048576: true; the input reads as it did. -/
def bindsOrderUptoRow : OpenClaim := { program := "ytahnpgfkkngimaagreat", sum := "65db8716396b7c309d9cb3691675ffd36af389dd63f6284f7f174abe27186796", func := "constraint/constraintlaw10.BindsOrder", spec := "bindsOrder", inPlace := ["internal/bytealg.IndexByteString", "internal/bytealg.IndexString"], unfollowed := true, recurses := true, named := ["internal/bytealg.MaxLen"], loops := true, plainKeys := false, apart := false, narrowed := true }
def BindsOrderUptoSaid : Prop := bindsOrderUptoRow.holds Tryz.pinned (OpenSpec.upto bindsOrderSpec)

/-- 'constraintlaw11.AskTests', WHERE WHAT IT READS IS OF BULK AT MOST 1048576: true; the input reads as it did. -/
def askTestsUptoRow : OpenClaim := { program := "ytahnpgfkkngimaagreat", sum := "65db8716396b7c309d9cb3691675ffd36af389dd63f6284f7f174abe27186796", func := "constraint/constraintlaw11.AskTests", spec := "askTests", inPlace := ["internal/bytealg.IndexByteString", "internal/bytealg.IndexString"], unfollowed := true, recurses := true, named := ["internal/bytealg.MaxLen"], loops := true, plainKeys := false, apart := false, narrowed := true }
def AskTestsUptoSaid : Prop := askTestsUptoRow.holds Tryz.pinned (OpenSpec.upto askTestsSpec)

/-- 'constraintlaw11.AskFollows', WHERE WHAT IT READS IS OF BULK AT MOST 1048576: true; the input reads as it did. -/
def askFollowsUptoRow : OpenClaim := { program := "ytahnpgfkkngimaagreat", sum := "65db8716396b7c309d9cb3691675ffd36af389dd63f6284f7f174abe27186796", func := "constraint/constraintlaw11.AskFollows", spec := "askFollows", inPlace := ["internal/bytealg.IndexByteString", "internal/bytealg.IndexString"], unfollowed := true, recurses := true, named := ["internal/bytealg.MaxLen"], loops := true, plainKeys := false, apart := false, narrowed := true }
def AskFollowsUptoSaid : Prop := askFollowsUptoRow.holds Tryz.pinned (OpenSpec.upto askFollowsSpec)

/-- 'constraintlaw11.AskStable', WHERE WHAT IT READS IS OF BULK AT MOST 1048576: true; the input reads as it did. -/
def askStableUptoRow : OpenClaim := { program := "ytahnpgfkkngimaagreat", sum := "65db8716396b7c309d9cb3691675ffd36af389dd63f6284f7f174abe27186796", func := "constraint/constraintlaw11.AskStable", spec := "askStable", inPlace := ["internal/bytealg.IndexByteString", "internal/bytealg.IndexString"], unfollowed := true, recurses := true, named := ["internal/bytealg.MaxLen"], loops := true, plainKeys := false, apart := false, narrowed := true }
def AskStableUptoSaid : Prop := askStableUptoRow.holds Tryz.pinned (OpenSpec.upto askStableSpec)

/-- 'constraintlaw11.AskOpposites', WHERE WHAT IT READS IS OF BULK AT MOST 1048576: true; the input reads as it did. -/
def askOppositesUptoRow : OpenClaim := { program := "ytahnpgfkkngimaagreat", sum := "65db8716396b7c309d9cb3691675ffd36af389dd63f6284f7f174abe27186796", func := "constraint/constraintlaw11.AskOpposites", spec := "askOpposites", inPlace := ["internal/bytealg.IndexByteString", "internal/bytealg.IndexString"], unfollowed := true, recurses := true, named := ["internal/bytealg.MaxLen"], loops := true, plainKeys := false, apart := false, narrowed := true }
def AskOppositesUptoSaid : Prop := askOppositesUptoRow.holds Tryz.pinned (OpenSpec.upto askOppositesSpec)

/-- 'constraintlaw11.AskIns', WHERE WHAT IT READS IS OF BULK AT MOST 1048576: true; the input reads as it did. -/
def askInsUptoRow : OpenClaim := { program := "ytahnpgfkkngimaagreat", sum := "65db8716396b7c309d9cb3691675ffd36af389dd63f6284f7f174abe27186796", func := "constraint/constraintlaw11.AskIns", spec := "askIns", inPlace := ["internal/bytealg.IndexByteString", "internal/bytealg.IndexString"], unfollowed := true, recurses := true, named := ["internal/bytealg.MaxLen"], loops := true, plainKeys := false, apart := false, narrowed := true }
def AskInsUptoSaid : Prop := askInsUptoRow.holds Tryz.pinned (OpenSpec.upto askInsSpec)

end Rows
end Go.Proofs.YtahnpgfkkngimaaGreat
