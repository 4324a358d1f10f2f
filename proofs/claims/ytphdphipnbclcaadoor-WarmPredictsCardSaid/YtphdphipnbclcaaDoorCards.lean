/-
  DERIVED. GIVEN WITH THE SEED: THE CARDS: each row of YtphdphipnbclcaaDoorRows.lean that lists a variable, with what it lists TIED to the program's text (the seventh form; the later family's looks); each row that meets fmt, with fmt's text TOLD by the authors' own Lean function (tested against real Go, not proved from fmt's source: count such statements apart). THE CARD IS WHAT COUNTS. Prove the row's statement (the work); the ties are given (YtphdphipnbclcaaDoorTie.lean); close each card by the builder's one call (the guide's Derived/Test/ToyasCard.lean, 'card_holds'). Laid BY PROGRAM, IN A SANDBOX (cutbox-door.mjs). By AI agents, Wed Nov 11 2026. No macro, syntax, notation, axiom, sorry.
-/
import Derived.Test.YtphdphipnbclcaaDoorRows
import GoSem.ClaimSeven
namespace Go.Proofs.YtphdphipnbclcaaDoor
namespace Rows

/-- THE TIED CARD OF 'skyfixlaw40.WarmPredicts'. -/
def warmPredictsCard : Claim7 := { stood := { row := warmPredictsRow, standIns := [], harness := (true, "3ffaf33e3b904b7427f63082830af61efa18172e20d209678bbb3f2a28354865"), looks := false }, kinds := [], alts := [], laidByText := true, laidKinds := [.data], laidTests := true, laidLooks := .later }
def WarmPredictsCardSaid : Prop := Claim7.holds Tryd.pinned (.plain (OpenSpec.ofChange warmPredictsSpec)) warmPredictsCard

/-- THE SECOND FORM's CARD OF 'skyfixlaw40.WarmPredicts'. -/
def warmPredictsUptoCard : Claim7 := { stood := { row := warmPredictsUptoRow, standIns := [], harness := (true, "3ffaf33e3b904b7427f63082830af61efa18172e20d209678bbb3f2a28354865"), looks := false }, kinds := [], alts := [], laidByText := true, laidKinds := [.data], laidTests := true, laidLooks := .later }
def WarmPredictsUptoCardSaid : Prop := Claim7.holds Tryd.pinned (.plain (OpenSpec.upto warmPredictsSpec)) warmPredictsUptoCard
end Rows
end Go.Proofs.YtphdphipnbclcaaDoor
