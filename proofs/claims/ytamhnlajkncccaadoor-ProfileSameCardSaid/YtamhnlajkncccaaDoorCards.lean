/-
  DERIVED. GIVEN WITH THE SEED: THE CARDS: each row of YtamhnlajkncccaaDoorRows.lean that lists a variable, with what it lists TIED to the program's text (the seventh form; the later family's looks); each row that meets fmt, with fmt's text TOLD by the authors' own Lean function (tested against real Go, not proved from fmt's source: count such statements apart). THE CARD IS WHAT COUNTS. Prove the row's statement (the work); the ties are given (YtamhnlajkncccaaDoorTie.lean); close each card by the builder's one call (the guide's Derived/Test/ToyasCard.lean, 'card_holds'). Laid BY PROGRAM, IN A SANDBOX (cutbox-door.mjs). By AI agents, Wed Nov 11 2026. No macro, syntax, notation, axiom, sorry.
-/
import Derived.Test.YtamhnlajkncccaaDoorRows
import GoSem.ClaimSeven
namespace Go.Proofs.YtamhnlajkncccaaDoor
namespace Rows

/-- THE TIED CARD OF 'constraintlaw37.ProfileOf'. -/
def profileOfCard : Claim7 := { stood := { row := profileOfRow, standIns := [], harness := (true, "9c74b15233a4d9d4c65d2f61418d2e61e0283df13d54a0d975e5f730edccc576"), looks := false }, kinds := [], alts := [], laidByText := true, laidKinds := [.data, .data, .data], laidTests := true, laidLooks := .later }
def ProfileOfCardSaid : Prop := Claim7.holds Tryd.pinned (.plain (OpenSpec.ofChange profileOfSpec)) profileOfCard

/-- THE TIED CARD OF 'constraintlaw37.ProfileSplits'. -/
def profileSplitsCard : Claim7 := { stood := { row := profileSplitsRow, standIns := [], harness := (true, "9c74b15233a4d9d4c65d2f61418d2e61e0283df13d54a0d975e5f730edccc576"), looks := false }, kinds := [], alts := [], laidByText := true, laidKinds := [.data, .data, .data], laidTests := true, laidLooks := .later }
def ProfileSplitsCardSaid : Prop := Claim7.holds Tryd.pinned (.plain (OpenSpec.ofChange profileSplitsSpec)) profileSplitsCard

/-- THE TIED CARD OF 'constraintlaw37.ProfileAdds'. -/
def profileAddsCard : Claim7 := { stood := { row := profileAddsRow, standIns := [], harness := (true, "9c74b15233a4d9d4c65d2f61418d2e61e0283df13d54a0d975e5f730edccc576"), looks := false }, kinds := [], alts := [], laidByText := true, laidKinds := [.data, .data, .data], laidTests := true, laidLooks := .later }
def ProfileAddsCardSaid : Prop := Claim7.holds Tryd.pinned (.plain (OpenSpec.ofChange profileAddsSpec)) profileAddsCard

/-- THE TIED CARD OF 'constraintlaw37.ProfileSums'. -/
def profileSumsCard : Claim7 := { stood := { row := profileSumsRow, standIns := [], harness := (true, "9c74b15233a4d9d4c65d2f61418d2e61e0283df13d54a0d975e5f730edccc576"), looks := false }, kinds := [], alts := [], laidByText := true, laidKinds := [.data, .data, .data], laidTests := true, laidLooks := .later }
def ProfileSumsCardSaid : Prop := Claim7.holds Tryd.pinned (.plain (OpenSpec.ofChange profileSumsSpec)) profileSumsCard

/-- THE TIED CARD OF 'constraintlaw37.ProfileSame'. -/
def profileSameCard : Claim7 := { stood := { row := profileSameRow, standIns := [], harness := (true, "9c74b15233a4d9d4c65d2f61418d2e61e0283df13d54a0d975e5f730edccc576"), looks := false }, kinds := [], alts := [], laidByText := true, laidKinds := [.data, .data, .data], laidTests := true, laidLooks := .later }
def ProfileSameCardSaid : Prop := Claim7.holds Tryd.pinned (.plain (OpenSpec.ofChange profileSameSpec)) profileSameCard

/-- THE TIED CARD OF 'constraintlaw37.ProfileTexts'. -/
def profileTextsCard : Claim7 := { stood := { row := profileTextsRow, standIns := [], harness := (true, "9c74b15233a4d9d4c65d2f61418d2e61e0283df13d54a0d975e5f730edccc576"), looks := false }, kinds := [], alts := [], laidByText := true, laidKinds := [.data, .data, .data], laidTests := true, laidLooks := .later }
def ProfileTextsCardSaid : Prop := Claim7.holds Tryd.pinned (.plain (OpenSpec.ofChange profileTextsSpec)) profileTextsCard

/-- THE SECOND FORM's CARD OF 'constraintlaw37.ProfileOf'. -/
def profileOfUptoCard : Claim7 := { stood := { row := profileOfUptoRow, standIns := [], harness := (true, "9c74b15233a4d9d4c65d2f61418d2e61e0283df13d54a0d975e5f730edccc576"), looks := false }, kinds := [], alts := [], laidByText := true, laidKinds := [.data, .data, .data], laidTests := true, laidLooks := .later }
def ProfileOfUptoCardSaid : Prop := Claim7.holds Tryd.pinned (.plain (OpenSpec.upto profileOfSpec)) profileOfUptoCard

/-- THE SECOND FORM's CARD OF 'constraintlaw37.ProfileSplits'. -/
def profileSplitsUptoCard : Claim7 := { stood := { row := profileSplitsUptoRow, standIns := [], harness := (true, "9c74b15233a4d9d4c65d2f61418d2e61e0283df13d54a0d975e5f730edccc576"), looks := false }, kinds := [], alts := [], laidByText := true, laidKinds := [.data, .data, .data], laidTests := true, laidLooks := .later }
def ProfileSplitsUptoCardSaid : Prop := Claim7.holds Tryd.pinned (.plain (OpenSpec.upto profileSplitsSpec)) profileSplitsUptoCard

/-- THE SECOND FORM's CARD OF 'constraintlaw37.ProfileAdds'. -/
def profileAddsUptoCard : Claim7 := { stood := { row := profileAddsUptoRow, standIns := [], harness := (true, "9c74b15233a4d9d4c65d2f61418d2e61e0283df13d54a0d975e5f730edccc576"), looks := false }, kinds := [], alts := [], laidByText := true, laidKinds := [.data, .data, .data], laidTests := true, laidLooks := .later }
def ProfileAddsUptoCardSaid : Prop := Claim7.holds Tryd.pinned (.plain (OpenSpec.upto profileAddsSpec)) profileAddsUptoCard

/-- THE SECOND FORM's CARD OF 'constraintlaw37.ProfileSums'. -/
def profileSumsUptoCard : Claim7 := { stood := { row := profileSumsUptoRow, standIns := [], harness := (true, "9c74b15233a4d9d4c65d2f61418d2e61e0283df13d54a0d975e5f730edccc576"), looks := false }, kinds := [], alts := [], laidByText := true, laidKinds := [.data, .data, .data], laidTests := true, laidLooks := .later }
def ProfileSumsUptoCardSaid : Prop := Claim7.holds Tryd.pinned (.plain (OpenSpec.upto profileSumsSpec)) profileSumsUptoCard

/-- THE SECOND FORM's CARD OF 'constraintlaw37.ProfileSame'. -/
def profileSameUptoCard : Claim7 := { stood := { row := profileSameUptoRow, standIns := [], harness := (true, "9c74b15233a4d9d4c65d2f61418d2e61e0283df13d54a0d975e5f730edccc576"), looks := false }, kinds := [], alts := [], laidByText := true, laidKinds := [.data, .data, .data], laidTests := true, laidLooks := .later }
def ProfileSameUptoCardSaid : Prop := Claim7.holds Tryd.pinned (.plain (OpenSpec.upto profileSameSpec)) profileSameUptoCard

/-- THE SECOND FORM's CARD OF 'constraintlaw37.ProfileTexts'. -/
def profileTextsUptoCard : Claim7 := { stood := { row := profileTextsUptoRow, standIns := [], harness := (true, "9c74b15233a4d9d4c65d2f61418d2e61e0283df13d54a0d975e5f730edccc576"), looks := false }, kinds := [], alts := [], laidByText := true, laidKinds := [.data, .data, .data], laidTests := true, laidLooks := .later }
def ProfileTextsUptoCardSaid : Prop := Claim7.holds Tryd.pinned (.plain (OpenSpec.upto profileTextsSpec)) profileTextsUptoCard
end Rows
end Go.Proofs.YtamhnlajkncccaaDoor
