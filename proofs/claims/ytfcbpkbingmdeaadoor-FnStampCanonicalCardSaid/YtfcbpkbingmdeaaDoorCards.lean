/-
  DERIVED. GIVEN WITH THE SEED: THE CARDS: each row of YtfcbpkbingmdeaaDoorRows.lean that lists a variable, with what it lists TIED to the program's text (the seventh form; the later family's looks); each row that meets fmt, with fmt's text TOLD by the authors' own Lean function (tested against real Go, not proved from fmt's source: count such statements apart). THE CARD IS WHAT COUNTS. Prove the row's statement (the work); the ties are given (YtfcbpkbingmdeaaDoorTie.lean); close each card by the builder's one call (the guide's Derived/Test/ToyasCard.lean, 'card_holds'). Laid BY PROGRAM, IN A SANDBOX (cutbox-door.mjs). By AI agents, Wed Nov 11 2026. No macro, syntax, notation, axiom, sorry.
-/
import Derived.Test.YtfcbpkbingmdeaaDoorRows
import GoSem.ClaimSeven
namespace Go.Proofs.YtfcbpkbingmdeaaDoor
namespace Rows

/-- THE TIED CARD OF 'laws.FnExactEncodeStamp'. -/
def fnExactEncodeStampCard : Claim7 := { stood := { row := fnExactEncodeStampRow, standIns := [], harness := (true, "c9c5b1f6a82a7cc524e212ed48b4697eb8b45f9928fdd80dcb9169b79856399d"), looks := false }, kinds := [], alts := [], laidByText := true, laidKinds := [.data, .data, .data], laidTests := true, laidLooks := .later }
def FnExactEncodeStampCardSaid : Prop := Claim7.holds Tryd.pinned (.plain (OpenSpec.ofChange fnExactEncodeStampSpec)) fnExactEncodeStampCard

/-- THE TIED CARD OF 'laws.FnStampRoundTrip'. -/
def fnStampRoundTripCard : Claim7 := { stood := { row := fnStampRoundTripRow, standIns := [], harness := (true, "c9c5b1f6a82a7cc524e212ed48b4697eb8b45f9928fdd80dcb9169b79856399d"), looks := false }, kinds := [], alts := [], laidByText := true, laidKinds := [.data, .data, .data], laidTests := true, laidLooks := .later }
def FnStampRoundTripCardSaid : Prop := Claim7.holds Tryd.pinned (.plain (OpenSpec.ofChange fnStampRoundTripSpec)) fnStampRoundTripCard

/-- THE TIED CARD OF 'laws.FnStampCanonical'. -/
def fnStampCanonicalCard : Claim7 := { stood := { row := fnStampCanonicalRow, standIns := [], harness := (true, "c9c5b1f6a82a7cc524e212ed48b4697eb8b45f9928fdd80dcb9169b79856399d"), looks := false }, kinds := [], alts := [], laidByText := true, laidKinds := [.data, .data, .data], laidTests := true, laidLooks := .later }
def FnStampCanonicalCardSaid : Prop := Claim7.holds Tryd.pinned (.plain (OpenSpec.ofChange fnStampCanonicalSpec)) fnStampCanonicalCard

/-- THE SECOND FORM's CARD OF 'laws.FnExactEncodeStamp'. -/
def fnExactEncodeStampUptoCard : Claim7 := { stood := { row := fnExactEncodeStampUptoRow, standIns := [], harness := (true, "c9c5b1f6a82a7cc524e212ed48b4697eb8b45f9928fdd80dcb9169b79856399d"), looks := false }, kinds := [], alts := [], laidByText := true, laidKinds := [.data, .data, .data], laidTests := true, laidLooks := .later }
def FnExactEncodeStampUptoCardSaid : Prop := Claim7.holds Tryd.pinned (.plain (OpenSpec.upto fnExactEncodeStampSpec)) fnExactEncodeStampUptoCard

/-- THE SECOND FORM's CARD OF 'laws.FnStampRoundTrip'. -/
def fnStampRoundTripUptoCard : Claim7 := { stood := { row := fnStampRoundTripUptoRow, standIns := [], harness := (true, "c9c5b1f6a82a7cc524e212ed48b4697eb8b45f9928fdd80dcb9169b79856399d"), looks := false }, kinds := [], alts := [], laidByText := true, laidKinds := [.data, .data, .data], laidTests := true, laidLooks := .later }
def FnStampRoundTripUptoCardSaid : Prop := Claim7.holds Tryd.pinned (.plain (OpenSpec.upto fnStampRoundTripSpec)) fnStampRoundTripUptoCard

/-- THE SECOND FORM's CARD OF 'laws.FnStampCanonical'. -/
def fnStampCanonicalUptoCard : Claim7 := { stood := { row := fnStampCanonicalUptoRow, standIns := [], harness := (true, "c9c5b1f6a82a7cc524e212ed48b4697eb8b45f9928fdd80dcb9169b79856399d"), looks := false }, kinds := [], alts := [], laidByText := true, laidKinds := [.data, .data, .data], laidTests := true, laidLooks := .later }
def FnStampCanonicalUptoCardSaid : Prop := Claim7.holds Tryd.pinned (.plain (OpenSpec.upto fnStampCanonicalSpec)) fnStampCanonicalUptoCard
end Rows
end Go.Proofs.YtfcbpkbingmdeaaDoor
