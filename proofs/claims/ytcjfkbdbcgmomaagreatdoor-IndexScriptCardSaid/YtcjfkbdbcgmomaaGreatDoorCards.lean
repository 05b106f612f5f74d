/-
  DERIVED. GIVEN WITH THE SEED: THE CARDS: each row of YtcjfkbdbcgmomaaGreatDoorRows.lean that lists a variable, with what it lists TIED to the program's text (the seventh form; the later family's looks); each row that meets fmt, with fmt's text TOLD by the authors' own Lean function (tested against real Go, not proved from fmt's source: count such statements apart). THE CARD IS WHAT COUNTS. Prove the row's statement (the work); the ties are given (YtcjfkbdbcgmomaaGreatDoorTie.lean); close each card by the builder's one call (the guide's Derived/Test/ToyasCard.lean, 'card_holds'). Laid BY PROGRAM, IN A SANDBOX (cutbox-door.mjs). By AI agents, Wed Nov 11 2026. No macro, syntax, notation, axiom, sorry.
-/
import Derived.Test.YtcjfkbdbcgmomaaGreatDoorRows
import GoSem.ClaimSeven
namespace Go.Proofs.YtcjfkbdbcgmomaaGreatDoor
namespace Rows

/-- THE TIED CARD OF 'constraintlaw20.IndexBack'. -/
def indexBackCard : Claim7 := { stood := { row := indexBackRow, standIns := [], harness := (true, "4e8b7be7fd92dbad85faa9621b0d5cedcc4577fb319bb06b0cb1974a84b9f198"), looks := false }, kinds := [], alts := [], laidByText := true, laidKinds := [.data, .data, .data], laidTests := true, laidLooks := .later }
def IndexBackCardSaid : Prop := Claim7.holds Tryz.pinned (.plain (OpenSpec.ofChange indexBackSpec)) indexBackCard

/-- THE TIED CARD OF 'constraintlaw30.LookupPlans'. -/
def lookupPlansCard : Claim7 := { stood := { row := lookupPlansRow, standIns := [], harness := (true, "4e8b7be7fd92dbad85faa9621b0d5cedcc4577fb319bb06b0cb1974a84b9f198"), looks := false }, kinds := [], alts := [], laidByText := true, laidKinds := [.data, .data, .data], laidTests := true, laidLooks := .later }
def LookupPlansCardSaid : Prop := Claim7.holds Tryz.pinned (.plain (OpenSpec.ofChange lookupPlansSpec)) lookupPlansCard

/-- THE TIED CARD OF 'constraintlaw30.LookupFinds'. -/
def lookupFindsCard : Claim7 := { stood := { row := lookupFindsRow, standIns := [], harness := (true, "4e8b7be7fd92dbad85faa9621b0d5cedcc4577fb319bb06b0cb1974a84b9f198"), looks := false }, kinds := [], alts := [], laidByText := true, laidKinds := [.data, .data, .data], laidTests := true, laidLooks := .later }
def LookupFindsCardSaid : Prop := Claim7.holds Tryz.pinned (.plain (OpenSpec.ofChange lookupFindsSpec)) lookupFindsCard

/-- THE TIED CARD OF 'constraintlaw20.IndexScript'. -/
def indexScriptCard : Claim7 := { stood := { row := indexScriptRow, standIns := [], harness := (true, "4e8b7be7fd92dbad85faa9621b0d5cedcc4577fb319bb06b0cb1974a84b9f198"), looks := false }, kinds := [], alts := [], laidByText := true, laidKinds := [.data, .data, .data], laidTests := true, laidLooks := .later }
def IndexScriptCardSaid : Prop := Claim7.holds Tryz.pinned (.plain (OpenSpec.ofChange indexScriptSpec)) indexScriptCard

/-- THE TIED CARD OF 'constraintlaw20.IndexOwn'. -/
def indexOwnCard : Claim7 := { stood := { row := indexOwnRow, standIns := [], harness := (true, "4e8b7be7fd92dbad85faa9621b0d5cedcc4577fb319bb06b0cb1974a84b9f198"), looks := false }, kinds := [], alts := [], laidByText := true, laidKinds := [.data, .data, .data], laidTests := true, laidLooks := .later }
def IndexOwnCardSaid : Prop := Claim7.holds Tryz.pinned (.plain (OpenSpec.ofChange indexOwnSpec)) indexOwnCard

/-- THE TIED CARD OF 'constraintlaw20.IndexFull'. -/
def indexFullCard : Claim7 := { stood := { row := indexFullRow, standIns := [], harness := (true, "4e8b7be7fd92dbad85faa9621b0d5cedcc4577fb319bb06b0cb1974a84b9f198"), looks := false }, kinds := [], alts := [], laidByText := true, laidKinds := [.data, .data, .data], laidTests := true, laidLooks := .later }
def IndexFullCardSaid : Prop := Claim7.holds Tryz.pinned (.plain (OpenSpec.ofChange indexFullSpec)) indexFullCard

/-- THE SECOND FORM's CARD OF 'constraintlaw20.IndexBack'. -/
def indexBackUptoCard : Claim7 := { stood := { row := indexBackUptoRow, standIns := [], harness := (true, "4e8b7be7fd92dbad85faa9621b0d5cedcc4577fb319bb06b0cb1974a84b9f198"), looks := false }, kinds := [], alts := [], laidByText := true, laidKinds := [.data, .data, .data], laidTests := true, laidLooks := .later }
def IndexBackUptoCardSaid : Prop := Claim7.holds Tryz.pinned (.plain (OpenSpec.upto indexBackSpec)) indexBackUptoCard

/-- THE SECOND FORM's CARD OF 'constraintlaw30.LookupPlans'. -/
def lookupPlansUptoCard : Claim7 := { stood := { row := lookupPlansUptoRow, standIns := [], harness := (true, "4e8b7be7fd92dbad85faa9621b0d5cedcc4577fb319bb06b0cb1974a84b9f198"), looks := false }, kinds := [], alts := [], laidByText := true, laidKinds := [.data, .data, .data], laidTests := true, laidLooks := .later }
def LookupPlansUptoCardSaid : Prop := Claim7.holds Tryz.pinned (.plain (OpenSpec.upto lookupPlansSpec)) lookupPlansUptoCard

/-- THE SECOND FORM's CARD OF 'constraintlaw30.LookupFinds'. -/
def lookupFindsUptoCard : Claim7 := { stood := { row := lookupFindsUptoRow, standIns := [], harness := (true, "4e8b7be7fd92dbad85faa9621b0d5cedcc4577fb319bb06b0cb1974a84b9f198"), looks := false }, kinds := [], alts := [], laidByText := true, laidKinds := [.data, .data, .data], laidTests := true, laidLooks := .later }
def LookupFindsUptoCardSaid : Prop := Claim7.holds Tryz.pinned (.plain (OpenSpec.upto lookupFindsSpec)) lookupFindsUptoCard

/-- THE SECOND FORM's CARD OF 'constraintlaw20.IndexScript'. -/
def indexScriptUptoCard : Claim7 := { stood := { row := indexScriptUptoRow, standIns := [], harness := (true, "4e8b7be7fd92dbad85faa9621b0d5cedcc4577fb319bb06b0cb1974a84b9f198"), looks := false }, kinds := [], alts := [], laidByText := true, laidKinds := [.data, .data, .data], laidTests := true, laidLooks := .later }
def IndexScriptUptoCardSaid : Prop := Claim7.holds Tryz.pinned (.plain (OpenSpec.upto indexScriptSpec)) indexScriptUptoCard

/-- THE SECOND FORM's CARD OF 'constraintlaw20.IndexOwn'. -/
def indexOwnUptoCard : Claim7 := { stood := { row := indexOwnUptoRow, standIns := [], harness := (true, "4e8b7be7fd92dbad85faa9621b0d5cedcc4577fb319bb06b0cb1974a84b9f198"), looks := false }, kinds := [], alts := [], laidByText := true, laidKinds := [.data, .data, .data], laidTests := true, laidLooks := .later }
def IndexOwnUptoCardSaid : Prop := Claim7.holds Tryz.pinned (.plain (OpenSpec.upto indexOwnSpec)) indexOwnUptoCard

/-- THE SECOND FORM's CARD OF 'constraintlaw20.IndexFull'. -/
def indexFullUptoCard : Claim7 := { stood := { row := indexFullUptoRow, standIns := [], harness := (true, "4e8b7be7fd92dbad85faa9621b0d5cedcc4577fb319bb06b0cb1974a84b9f198"), looks := false }, kinds := [], alts := [], laidByText := true, laidKinds := [.data, .data, .data], laidTests := true, laidLooks := .later }
def IndexFullUptoCardSaid : Prop := Claim7.holds Tryz.pinned (.plain (OpenSpec.upto indexFullSpec)) indexFullUptoCard
end Rows
end Go.Proofs.YtcjfkbdbcgmomaaGreatDoor
