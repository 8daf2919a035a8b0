/-
  DERIVED. GIVEN WITH THE SEED: THE CARDS: each row of YtdcnkekcdncelaaDoorRows.lean that lists a variable, with what it lists TIED to the program's text (the seventh form; the later family's looks); each row that meets fmt, with fmt's text TOLD by the authors' own Lean function (tested against real Go, not proved from fmt's source: count such statements apart). THE CARD IS WHAT COUNTS. Prove the row's statement (the work); the ties are given (YtdcnkekcdncelaaDoorTie.lean); close each card by the builder's one call (the guide's Derived/Test/ToyasCard.lean, 'card_holds'). Laid BY PROGRAM, IN A SANDBOX (cutbox-door.mjs). By AI agents, Wed Nov 11 2026. No macro, syntax, notation, axiom, sorry.
-/
import Derived.Test.YtdcnkekcdncelaaDoorRows
import GoSem.ClaimSeven
namespace Go.Proofs.YtdcnkekcdncelaaDoor
namespace Rows

/-- THE TIED CARD OF 'laws.FnExactDecodeValue'. -/
def fnExactDecodeValueCard : Claim7 := { stood := { row := fnExactDecodeValueRow, standIns := [], harness := (true, "0e8fd7cfde7037a86bb5175b703f97a5c6e80929032b839403ab3a0b05e11ce3"), looks := true }, kinds := [], alts := [], laidByText := true, laidKinds := [.data, .data, .data, .sentinel, .sentinel], laidTests := true, laidLooks := .later }
def FnExactDecodeValueCardSaid : Prop := Claim7.holds Tryd.pinned (.plain (OpenSpec.ofChange fnExactDecodeValueSpec)) fnExactDecodeValueCard

/-- THE TIED CARD OF 'laws.FnValueRoundTrip'. -/
def fnValueRoundTripCard : Claim7 := { stood := { row := fnValueRoundTripRow, standIns := [], harness := (true, "0e8fd7cfde7037a86bb5175b703f97a5c6e80929032b839403ab3a0b05e11ce3"), looks := true }, kinds := [], alts := [], laidByText := true, laidKinds := [.data, .data, .data, .sentinel, .sentinel], laidTests := true, laidLooks := .later }
def FnValueRoundTripCardSaid : Prop := Claim7.holds Tryd.pinned (.plain (OpenSpec.ofChange fnValueRoundTripSpec)) fnValueRoundTripCard

/-- THE TIED CARD OF 'laws.FnValueCanonical'. -/
def fnValueCanonicalCard : Claim7 := { stood := { row := fnValueCanonicalRow, standIns := [], harness := (true, "0e8fd7cfde7037a86bb5175b703f97a5c6e80929032b839403ab3a0b05e11ce3"), looks := true }, kinds := [], alts := [], laidByText := true, laidKinds := [.data, .data, .data, .sentinel, .sentinel], laidTests := true, laidLooks := .later }
def FnValueCanonicalCardSaid : Prop := Claim7.holds Tryd.pinned (.plain (OpenSpec.ofChange fnValueCanonicalSpec)) fnValueCanonicalCard

/-- THE SECOND FORM's CARD OF 'laws.FnExactDecodeValue'. -/
def fnExactDecodeValueUptoCard : Claim7 := { stood := { row := fnExactDecodeValueUptoRow, standIns := [], harness := (true, "0e8fd7cfde7037a86bb5175b703f97a5c6e80929032b839403ab3a0b05e11ce3"), looks := true }, kinds := [], alts := [], laidByText := true, laidKinds := [.data, .data, .data, .sentinel, .sentinel], laidTests := true, laidLooks := .later }
def FnExactDecodeValueUptoCardSaid : Prop := Claim7.holds Tryd.pinned (.plain (OpenSpec.upto fnExactDecodeValueSpec)) fnExactDecodeValueUptoCard

/-- THE SECOND FORM's CARD OF 'laws.FnValueRoundTrip'. -/
def fnValueRoundTripUptoCard : Claim7 := { stood := { row := fnValueRoundTripUptoRow, standIns := [], harness := (true, "0e8fd7cfde7037a86bb5175b703f97a5c6e80929032b839403ab3a0b05e11ce3"), looks := true }, kinds := [], alts := [], laidByText := true, laidKinds := [.data, .data, .data, .sentinel, .sentinel], laidTests := true, laidLooks := .later }
def FnValueRoundTripUptoCardSaid : Prop := Claim7.holds Tryd.pinned (.plain (OpenSpec.upto fnValueRoundTripSpec)) fnValueRoundTripUptoCard

/-- THE SECOND FORM's CARD OF 'laws.FnValueCanonical'. -/
def fnValueCanonicalUptoCard : Claim7 := { stood := { row := fnValueCanonicalUptoRow, standIns := [], harness := (true, "0e8fd7cfde7037a86bb5175b703f97a5c6e80929032b839403ab3a0b05e11ce3"), looks := true }, kinds := [], alts := [], laidByText := true, laidKinds := [.data, .data, .data, .sentinel, .sentinel], laidTests := true, laidLooks := .later }
def FnValueCanonicalUptoCardSaid : Prop := Claim7.holds Tryd.pinned (.plain (OpenSpec.upto fnValueCanonicalSpec)) fnValueCanonicalUptoCard
end Rows
end Go.Proofs.YtdcnkekcdncelaaDoor
