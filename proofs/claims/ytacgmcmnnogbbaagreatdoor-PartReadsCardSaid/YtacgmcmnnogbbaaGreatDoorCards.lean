/-
  DERIVED. GIVEN WITH THE SEED: THE CARDS: each row of YtacgmcmnnogbbaaGreatDoorRows.lean that lists a variable, with what it lists TIED to the program's text (the seventh form; the later family's looks); each row that meets fmt, with fmt's text TOLD by the authors' own Lean function (tested against real Go, not proved from fmt's source: count such statements apart). THE CARD IS WHAT COUNTS. Prove the row's statement (the work); the ties are given (YtacgmcmnnogbbaaGreatDoorTie.lean); close each card by the builder's one call (the guide's Derived/Test/ToyasCard.lean, 'card_holds'). Laid BY PROGRAM, IN A SANDBOX (cutbox-door.mjs). By AI agents, Wed Nov 11 2026. No macro, syntax, notation, axiom, sorry.
-/
import Derived.Test.YtacgmcmnnogbbaaGreatDoorRows
import GoSem.ClaimSeven
namespace Go.Proofs.YtacgmcmnnogbbaaGreatDoor
namespace Rows

/-- THE TIED CARD OF 'ambrylaw25.PartReads'. -/
def partReadsCard : Claim7 := { stood := { row := partReadsRow, standIns := [], harness := (true, "e1d30cc1a7decabdd875aea230134d0664870dc6aea1dad876c3cd9ec428a757"), looks := false }, kinds := [], alts := [], laidByText := true, laidKinds := [.data, .data, .data, .data, .listed, .data, .pinned], laidTests := true, laidLooks := .later }
def PartReadsCardSaid : Prop := Claim7.holds Tryz.pinned (.plain (OpenSpec.ofChange partReadsSpec)) partReadsCard

/-- THE TIED CARD OF 'ambrylaw25.PartApplies'. -/
def partAppliesCard : Claim7 := { stood := { row := partAppliesRow, standIns := [], harness := (true, "e1d30cc1a7decabdd875aea230134d0664870dc6aea1dad876c3cd9ec428a757"), looks := false }, kinds := [], alts := [], laidByText := true, laidKinds := [.data, .data, .data, .data, .listed, .data, .pinned], laidTests := true, laidLooks := .later }
def PartAppliesCardSaid : Prop := Claim7.holds Tryz.pinned (.plain (OpenSpec.ofChange partAppliesSpec)) partAppliesCard

/-- THE TIED CARD OF 'ambrylaw25.PartBytes'. -/
def partBytesCard : Claim7 := { stood := { row := partBytesRow, standIns := [], harness := (true, "e1d30cc1a7decabdd875aea230134d0664870dc6aea1dad876c3cd9ec428a757"), looks := false }, kinds := [], alts := [], laidByText := true, laidKinds := [.data, .data, .data, .data, .listed, .data, .pinned], laidTests := true, laidLooks := .later }
def PartBytesCardSaid : Prop := Claim7.holds Tryz.pinned (.plain (OpenSpec.ofChange partBytesSpec)) partBytesCard

/-- THE TIED CARD OF 'ambrylaw25.PartJoins'. -/
def partJoinsCard : Claim7 := { stood := { row := partJoinsRow, standIns := [], harness := (true, "e1d30cc1a7decabdd875aea230134d0664870dc6aea1dad876c3cd9ec428a757"), looks := false }, kinds := [], alts := [], laidByText := true, laidKinds := [.data, .data, .data, .data, .listed, .data, .pinned], laidTests := true, laidLooks := .later }
def PartJoinsCardSaid : Prop := Claim7.holds Tryz.pinned (.plain (OpenSpec.ofChange partJoinsSpec)) partJoinsCard

/-- THE TIED CARD OF 'ambrylaw25.PartMany'. -/
def partManyCard : Claim7 := { stood := { row := partManyRow, standIns := [], harness := (true, "e1d30cc1a7decabdd875aea230134d0664870dc6aea1dad876c3cd9ec428a757"), looks := false }, kinds := [], alts := [], laidByText := true, laidKinds := [.data, .data, .data, .data, .listed, .data, .pinned], laidTests := true, laidLooks := .later }
def PartManyCardSaid : Prop := Claim7.holds Tryz.pinned (.plain (OpenSpec.ofChange partManySpec)) partManyCard

/-- THE SECOND FORM's CARD OF 'ambrylaw25.PartReads'. -/
def partReadsUptoCard : Claim7 := { stood := { row := partReadsUptoRow, standIns := [], harness := (true, "e1d30cc1a7decabdd875aea230134d0664870dc6aea1dad876c3cd9ec428a757"), looks := false }, kinds := [], alts := [], laidByText := true, laidKinds := [.data, .data, .data, .data, .listed, .data, .pinned], laidTests := true, laidLooks := .later }
def PartReadsUptoCardSaid : Prop := Claim7.holds Tryz.pinned (.plain (OpenSpec.upto partReadsSpec)) partReadsUptoCard

/-- THE SECOND FORM's CARD OF 'ambrylaw25.PartApplies'. -/
def partAppliesUptoCard : Claim7 := { stood := { row := partAppliesUptoRow, standIns := [], harness := (true, "e1d30cc1a7decabdd875aea230134d0664870dc6aea1dad876c3cd9ec428a757"), looks := false }, kinds := [], alts := [], laidByText := true, laidKinds := [.data, .data, .data, .data, .listed, .data, .pinned], laidTests := true, laidLooks := .later }
def PartAppliesUptoCardSaid : Prop := Claim7.holds Tryz.pinned (.plain (OpenSpec.upto partAppliesSpec)) partAppliesUptoCard

/-- THE SECOND FORM's CARD OF 'ambrylaw25.PartBytes'. -/
def partBytesUptoCard : Claim7 := { stood := { row := partBytesUptoRow, standIns := [], harness := (true, "e1d30cc1a7decabdd875aea230134d0664870dc6aea1dad876c3cd9ec428a757"), looks := false }, kinds := [], alts := [], laidByText := true, laidKinds := [.data, .data, .data, .data, .listed, .data, .pinned], laidTests := true, laidLooks := .later }
def PartBytesUptoCardSaid : Prop := Claim7.holds Tryz.pinned (.plain (OpenSpec.upto partBytesSpec)) partBytesUptoCard

/-- THE SECOND FORM's CARD OF 'ambrylaw25.PartJoins'. -/
def partJoinsUptoCard : Claim7 := { stood := { row := partJoinsUptoRow, standIns := [], harness := (true, "e1d30cc1a7decabdd875aea230134d0664870dc6aea1dad876c3cd9ec428a757"), looks := false }, kinds := [], alts := [], laidByText := true, laidKinds := [.data, .data, .data, .data, .listed, .data, .pinned], laidTests := true, laidLooks := .later }
def PartJoinsUptoCardSaid : Prop := Claim7.holds Tryz.pinned (.plain (OpenSpec.upto partJoinsSpec)) partJoinsUptoCard

/-- THE SECOND FORM's CARD OF 'ambrylaw25.PartMany'. -/
def partManyUptoCard : Claim7 := { stood := { row := partManyUptoRow, standIns := [], harness := (true, "e1d30cc1a7decabdd875aea230134d0664870dc6aea1dad876c3cd9ec428a757"), looks := false }, kinds := [], alts := [], laidByText := true, laidKinds := [.data, .data, .data, .data, .listed, .data, .pinned], laidTests := true, laidLooks := .later }
def PartManyUptoCardSaid : Prop := Claim7.holds Tryz.pinned (.plain (OpenSpec.upto partManySpec)) partManyUptoCard
end Rows
end Go.Proofs.YtacgmcmnnogbbaaGreatDoor
