/-
  NARROWER THAN 'FOR EVERY INPUT', by the rows' own cells (each row's printed sentence says how): GuardSimplifies: loops · GuardReady: loops · GuardPlaces: loops · GuardNeeded: loops · GuardMeans: loops · GuardEnough: loops.
  DERIVED. THE GIVEN ROWS OF THIS SEAT. 6 by the template 'for every input the law returns true; each argument reads behind the call as it read before'; 0 by the template 'total and deterministic' (their statements: YtpihbplamelcnaaGreatTotals.lean).
  GIVEN WITH THE SEED: the statements are not yours to turn. If you find one false, say at which input.
  Laid BY PROGRAM, IN A SANDBOX (cutbox-rows.mjs): the forced cells as the released guide's own fill.sh prints them over the translation 6a5ca949551ffb80… (all of the seat's roots in one cut). By AI agents, Wed Nov 11 2026. No macro, syntax, notation, axiom, sorry.
-/
import Derived.Test.YtpihbplamelcnaaGreatChecked
import GoSem.Claim
import GoSem.ClaimJoined
import GoSem.ClaimMapViews
import Derived.JoinedTies
import Derived.KernelRfl
namespace Go.Proofs.YtpihbplamelcnaaGreat
/- THE CELL 'sum', in the pinned program and in every row, IS THE sha256 OF THE DUMP (.gsa) THAT YtpihbplamelcnaaGreatProg.lean LOADS. Nothing in Lean hashes anything: it is a label: what it is worth is what the hold of that sum in a sandbox is worth. -/
noncomputable def Tryz.pinned : Pinned := { name := "ytpihbplamelcnaagreat", sum := "6a5ca949551ffb80e4b1ad98f3f62096d1d73e1308fd97526f2100c17a7286a8", checked := Tryz.checked }
namespace Rows
def none {H : Type} : Left H := { results := [], args := [] }

/-- 'constraintlaw18.GuardSimplifies': WHATEVER THE INPUT: true; the input reads as it did. -/
def guardSimplifiesSpec : ChangeSpec := { name := "guardSimplifies", fn := fun _ => fun
  | [d] => { results := [.lit (.bool true)], args := [d] }
  | _ => none }
def guardSimplifiesRow : OpenClaim := { program := "ytpihbplamelcnaagreat", sum := "6a5ca949551ffb80e4b1ad98f3f62096d1d73e1308fd97526f2100c17a7286a8", func := "constraint/constraintlaw18.GuardSimplifies", spec := "guardSimplifies", inPlace := ["internal/bytealg.IndexByteString", "internal/bytealg.IndexString"], unfollowed := true, recurses := true, named := ["internal/bytealg.MaxLen"], loops := true, plainKeys := false, apart := false }
def GuardSimplifiesSaid : Prop := guardSimplifiesRow.holds Tryz.pinned (OpenSpec.ofChange guardSimplifiesSpec)

/-- ITS FALSE NEIGHBOUR: 'it returns false'. Refute it at one input. -/
def guardSimplifiesWrong : ChangeSpec := { name := "guardSimplifies", fn := fun _ => fun
  | [d] => { results := [.lit (.bool false)], args := [d] }
  | _ => none }
def GuardSimplifiesWrongFalsely : Prop := guardSimplifiesRow.holds Tryz.pinned (OpenSpec.ofChange guardSimplifiesWrong)

/-- 'constraintlaw18.GuardReady': WHATEVER THE INPUT: true; the input reads as it did. -/
def guardReadySpec : ChangeSpec := { name := "guardReady", fn := fun _ => fun
  | [d1, d2] => { results := [.lit (.bool true)], args := [d1, d2] }
  | _ => none }
def guardReadyRow : OpenClaim := { program := "ytpihbplamelcnaagreat", sum := "6a5ca949551ffb80e4b1ad98f3f62096d1d73e1308fd97526f2100c17a7286a8", func := "constraint/constraintlaw18.GuardReady", spec := "guardReady", inPlace := ["internal/bytealg.IndexByteString", "internal/bytealg.IndexString"], unfollowed := true, recurses := true, named := ["internal/bytealg.MaxLen"], loops := true, plainKeys := false, apart := false }
def GuardReadySaid : Prop := guardReadyRow.holds Tryz.pinned (OpenSpec.ofChange guardReadySpec)

/-- ITS FALSE NEIGHBOUR: 'it returns false'. Refute it at one input. -/
def guardReadyWrong : ChangeSpec := { name := "guardReady", fn := fun _ => fun
  | [d1, d2] => { results := [.lit (.bool false)], args := [d1, d2] }
  | _ => none }
def GuardReadyWrongFalsely : Prop := guardReadyRow.holds Tryz.pinned (OpenSpec.ofChange guardReadyWrong)

/-- 'constraintlaw18.GuardPlaces': WHATEVER THE INPUT: true; the input reads as it did. -/
def guardPlacesSpec : ChangeSpec := { name := "guardPlaces", fn := fun _ => fun
  | [d1, d2] => { results := [.lit (.bool true)], args := [d1, d2] }
  | _ => none }
def guardPlacesRow : OpenClaim := { program := "ytpihbplamelcnaagreat", sum := "6a5ca949551ffb80e4b1ad98f3f62096d1d73e1308fd97526f2100c17a7286a8", func := "constraint/constraintlaw18.GuardPlaces", spec := "guardPlaces", inPlace := ["internal/bytealg.IndexByteString", "internal/bytealg.IndexString"], unfollowed := true, recurses := true, named := ["internal/bytealg.MaxLen"], loops := true, plainKeys := false, apart := false }
def GuardPlacesSaid : Prop := guardPlacesRow.holds Tryz.pinned (OpenSpec.ofChange guardPlacesSpec)

/-- ITS FALSE NEIGHBOUR: 'it returns false'. Refute it at one input. -/
def guardPlacesWrong : ChangeSpec := { name := "guardPlaces", fn := fun _ => fun
  | [d1, d2] => { results := [.lit (.bool false)], args := [d1, d2] }
  | _ => none }
def GuardPlacesWrongFalsely : Prop := guardPlacesRow.holds Tryz.pinned (OpenSpec.ofChange guardPlacesWrong)

/-- 'constraintlaw18.GuardNeeded': WHATEVER THE INPUT: true; the input reads as it did. -/
def guardNeededSpec : ChangeSpec := { name := "guardNeeded", fn := fun _ => fun
  | [d1, d2] => { results := [.lit (.bool true)], args := [d1, d2] }
  | _ => none }
def guardNeededRow : OpenClaim := { program := "ytpihbplamelcnaagreat", sum := "6a5ca949551ffb80e4b1ad98f3f62096d1d73e1308fd97526f2100c17a7286a8", func := "constraint/constraintlaw18.GuardNeeded", spec := "guardNeeded", inPlace := ["internal/bytealg.IndexByteString", "internal/bytealg.IndexString"], unfollowed := true, recurses := true, named := ["internal/bytealg.MaxLen"], loops := true, plainKeys := false, apart := false }
def GuardNeededSaid : Prop := guardNeededRow.holds Tryz.pinned (OpenSpec.ofChange guardNeededSpec)

/-- ITS FALSE NEIGHBOUR: 'it returns false'. Refute it at one input. -/
def guardNeededWrong : ChangeSpec := { name := "guardNeeded", fn := fun _ => fun
  | [d1, d2] => { results := [.lit (.bool false)], args := [d1, d2] }
  | _ => none }
def GuardNeededWrongFalsely : Prop := guardNeededRow.holds Tryz.pinned (OpenSpec.ofChange guardNeededWrong)

/-- 'constraintlaw18.GuardMeans': WHATEVER THE INPUT: true; the input reads as it did. -/
def guardMeansSpec : ChangeSpec := { name := "guardMeans", fn := fun _ => fun
  | [d1, d2] => { results := [.lit (.bool true)], args := [d1, d2] }
  | _ => none }
def guardMeansRow : OpenClaim := { program := "ytpihbplamelcnaagreat", sum := "6a5ca949551ffb80e4b1ad98f3f62096d1d73e1308fd97526f2100c17a7286a8", func := "constraint/constraintlaw18.GuardMeans", spec := "guardMeans", inPlace := ["internal/bytealg.IndexByteString", "internal/bytealg.IndexString"], unfollowed := true, recurses := true, named := ["internal/bytealg.MaxLen"], loops := true, plainKeys := false, apart := false }
def GuardMeansSaid : Prop := guardMeansRow.holds Tryz.pinned (OpenSpec.ofChange guardMeansSpec)

/-- ITS FALSE NEIGHBOUR: 'it returns false'. Refute it at one input. -/
def guardMeansWrong : ChangeSpec := { name := "guardMeans", fn := fun _ => fun
  | [d1, d2] => { results := [.lit (.bool false)], args := [d1, d2] }
  | _ => none }
def GuardMeansWrongFalsely : Prop := guardMeansRow.holds Tryz.pinned (OpenSpec.ofChange guardMeansWrong)

/-- 'constraintlaw18.GuardEnough': WHATEVER THE INPUT: true; the input reads as it did. -/
def guardEnoughSpec : ChangeSpec := { name := "guardEnough", fn := fun _ => fun
  | [d1, d2] => { results := [.lit (.bool true)], args := [d1, d2] }
  | _ => none }
def guardEnoughRow : OpenClaim := { program := "ytpihbplamelcnaagreat", sum := "6a5ca949551ffb80e4b1ad98f3f62096d1d73e1308fd97526f2100c17a7286a8", func := "constraint/constraintlaw18.GuardEnough", spec := "guardEnough", inPlace := ["internal/bytealg.IndexByteString", "internal/bytealg.IndexString"], unfollowed := true, recurses := true, named := ["internal/bytealg.MaxLen"], loops := true, plainKeys := false, apart := false }
def GuardEnoughSaid : Prop := guardEnoughRow.holds Tryz.pinned (OpenSpec.ofChange guardEnoughSpec)

/-- ITS FALSE NEIGHBOUR: 'it returns false'. Refute it at one input. -/
def guardEnoughWrong : ChangeSpec := { name := "guardEnough", fn := fun _ => fun
  | [d1, d2] => { results := [.lit (.bool false)], args := [d1, d2] }
  | _ => none }
def GuardEnoughWrongFalsely : Prop := guardEnoughRow.holds Tryz.pinned (OpenSpec.ofChange guardEnoughWrong)

/- THE SECOND FORM. 'bulk': how many values and letters a reading holds, each counted each time it is reached (what is shared counts as often as it is met; a slice's spare places count too). A statement '..UptoSaid' is the law's where the arguments, and the package variables that the reading takes, are together of bulk at most 1048576: NARROWER than '..Said'. Prove '..Said' where nothing that the law and all that it calls make is longer than what came in: it says more and counts as full. Else prove '..UptoSaid'. A law counts once. -/
mutual
def uptoBulk {H : Type} : DataW H → Nat
  | .lit (.string bytes) => bytes.length + 1
  | .lit _ => 1
  | .nil => 1
  | .ptr d => uptoBulk d + 1
  | .slice elems spare => uptoBulkAll elems + uptoBulkAll spare + 1
  | .agg parts => uptoBulkAll parts + 1
  | .iface _ d => uptoBulk d + 1
  | .map entries => uptoBulkEntries entries + 1
  | .held _ => 1
def uptoBulkAll {H : Type} : List (DataW H) → Nat
  | [] => 0
  | d :: r => uptoBulk d + uptoBulkAll r
def uptoBulkEntries {H : Type} : List (Lit × DataW H) → Nat
  | [] => 0
  | x :: r => uptoBulkEntry x + uptoBulkEntries r
def uptoBulkEntry {H : Type} : Lit × DataW H → Nat
  | (.string bytes, d) => bytes.length + uptoBulk d + 1
  | (_, d) => uptoBulk d + 1
 end
def uptoSmall : (H : Type) → List (DataW H) → Bool := fun _ ds => decide (uptoBulkAll ds ≤ 1048576)
def OpenSpec.upto (s : _root_.Go.ChangeSpec) : _root_.Go.OpenSpec := { _root_.Go.OpenSpec.ofChange s with cond := some uptoSmall }

/-- 'constraintlaw18.GuardSimplifies', WHERE WHAT IT READS IS OF BULK AT MOST 1048576: true; the input reads as it did. -/
def guardSimplifiesUptoRow : OpenClaim := { program := "ytpihbplamelcnaagreat", sum := "6a5ca949551ffb80e4b1ad98f3f62096d1d73e1308fd97526f2100c17a7286a8", func := "constraint/constraintlaw18.GuardSimplifies", spec := "guardSimplifies", inPlace := ["internal/bytealg.IndexByteString", "internal/bytealg.IndexString"], unfollowed := true, recurses := true, named := ["internal/bytealg.MaxLen"], loops := true, plainKeys := false, apart := false, narrowed := true }
def GuardSimplifiesUptoSaid : Prop := guardSimplifiesUptoRow.holds Tryz.pinned (OpenSpec.upto guardSimplifiesSpec)

/-- 'constraintlaw18.GuardReady', WHERE WHAT IT READS IS OF BULK AT MOST 1048576: true; the input reads as it did. -/
def guardReadyUptoRow : OpenClaim := { program := "ytpihbplamelcnaagreat", sum := "6a5ca949551ffb80e4b1ad98f3f62096d1d73e1308fd97526f2100c17a7286a8", func := "constraint/constraintlaw18.GuardReady", spec := "guardReady", inPlace := ["internal/bytealg.IndexByteString", "internal/bytealg.IndexString"], unfollowed := true, recurses := true, named := ["internal/bytealg.MaxLen"], loops := true, plainKeys := false, apart := false, narrowed := true }
def GuardReadyUptoSaid : Prop := guardReadyUptoRow.holds Tryz.pinned (OpenSpec.upto guardReadySpec)

/-- 'constraintlaw18.GuardPlaces', WHERE WHAT IT READS IS OF BULK AT MOST 1048576: true; the input reads as it did. -/
def guardPlacesUptoRow : OpenClaim := { program := "ytpihbplamelcnaagreat", sum := "6a5ca949551ffb80e4b1ad98f3f62096d1d73e1308fd97526f2100c17a7286a8", func := "constraint/constraintlaw18.GuardPlaces", spec := "guardPlaces", inPlace := ["internal/bytealg.IndexByteString", "internal/bytealg.IndexString"], unfollowed := true, recurses := true, named := ["internal/bytealg.MaxLen"], loops := true, plainKeys := false, apart := false, narrowed := true }
def GuardPlacesUptoSaid : Prop := guardPlacesUptoRow.holds Tryz.pinned (OpenSpec.upto guardPlacesSpec)

/-- 'constraintlaw18.GuardNeeded', WHERE WHAT IT READS IS OF BULK AT MOST 1048576: true; the input reads as it did. -/
def guardNeededUptoRow : OpenClaim := { program := "ytpihbplamelcnaagreat", sum := "6a5ca949551ffb80e4b1ad98f3f62096d1d73e1308fd97526f2100c17a7286a8", func := "constraint/constraintlaw18.GuardNeeded", spec := "guardNeeded", inPlace := ["internal/bytealg.IndexByteString", "internal/bytealg.IndexString"], unfollowed := true, recurses := true, named := ["internal/bytealg.MaxLen"], loops := true, plainKeys := false, apart := false, narrowed := true }
def GuardNeededUptoSaid : Prop := guardNeededUptoRow.holds Tryz.pinned (OpenSpec.upto guardNeededSpec)

/-- 'constraintlaw18.GuardMeans', WHERE WHAT IT READS IS OF BULK AT MOST 1048576: true; the input reads as it did. -/
def guardMeansUptoRow : OpenClaim := { program := "ytpihbplamelcnaagreat", sum := "6a5ca949551ffb80e4b1ad98f3f62096d1d73e1308fd97526f2100c17a7286a8", func := "constraint/constraintlaw18.GuardMeans", spec := "guardMeans", inPlace := ["internal/bytealg.IndexByteString", "internal/bytealg.IndexString"], unfollowed := true, recurses := true, named := ["internal/bytealg.MaxLen"], loops := true, plainKeys := false, apart := false, narrowed := true }
def GuardMeansUptoSaid : Prop := guardMeansUptoRow.holds Tryz.pinned (OpenSpec.upto guardMeansSpec)

/-- 'constraintlaw18.GuardEnough', WHERE WHAT IT READS IS OF BULK AT MOST 1048576: true; the input reads as it did. -/
def guardEnoughUptoRow : OpenClaim := { program := "ytpihbplamelcnaagreat", sum := "6a5ca949551ffb80e4b1ad98f3f62096d1d73e1308fd97526f2100c17a7286a8", func := "constraint/constraintlaw18.GuardEnough", spec := "guardEnough", inPlace := ["internal/bytealg.IndexByteString", "internal/bytealg.IndexString"], unfollowed := true, recurses := true, named := ["internal/bytealg.MaxLen"], loops := true, plainKeys := false, apart := false, narrowed := true }
def GuardEnoughUptoSaid : Prop := guardEnoughUptoRow.holds Tryz.pinned (OpenSpec.upto guardEnoughSpec)

end Rows
end Go.Proofs.YtpihbplamelcnaaGreat
