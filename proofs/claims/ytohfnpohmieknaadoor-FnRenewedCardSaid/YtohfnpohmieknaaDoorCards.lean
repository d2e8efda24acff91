/-
  DERIVED. GIVEN WITH THE SEED: THE CARDS: each row of YtohfnpohmieknaaDoorRows.lean that lists a variable, with what it lists TIED to the program's text (the seventh form; the later family's looks); each row that meets fmt, with fmt's text TOLD by the authors' own Lean function (tested against real Go, not proved from fmt's source: count such statements apart). THE CARD IS WHAT COUNTS. Prove the row's statement (the work); the ties are given (YtohfnpohmieknaaDoorTie.lean); close each card by the builder's one call (the guide's Derived/Test/ToyasCard.lean, 'card_holds'). Laid BY PROGRAM, IN A SANDBOX (cutbox-door.mjs). By AI agents, Wed Nov 11 2026. No macro, syntax, notation, axiom, sorry.
-/
import Derived.Test.YtohfnpohmieknaaDoorRows
import GoSem.ClaimSeven
namespace Go.Proofs.YtohfnpohmieknaaDoor
namespace Rows

/-- THE TIED CARD OF 'laws.FnRenewed'. -/
def fnRenewedCard : Claim7 := { stood := { row := fnRenewedRow, standIns := [], harness := (true, "d0e3193cb113aa1e973394234941e11c69ecc6e3e331a4daab39d2f3e3394611"), looks := false }, kinds := [], alts := [], laidByText := true, laidKinds := [.data, .pinned], laidTests := true, laidLooks := .later }
def FnRenewedCardSaid : Prop := Claim7.holds Tryd.pinned (.plain (OpenSpec.ofChange fnRenewedSpec)) fnRenewedCard

/-- THE SECOND FORM's CARD OF 'laws.FnRenewed'. -/
def fnRenewedUptoCard : Claim7 := { stood := { row := fnRenewedUptoRow, standIns := [], harness := (true, "d0e3193cb113aa1e973394234941e11c69ecc6e3e331a4daab39d2f3e3394611"), looks := false }, kinds := [], alts := [], laidByText := true, laidKinds := [.data, .pinned], laidTests := true, laidLooks := .later }
def FnRenewedUptoCardSaid : Prop := Claim7.holds Tryd.pinned (.plain (OpenSpec.upto fnRenewedSpec)) fnRenewedUptoCard
end Rows
end Go.Proofs.YtohfnpohmieknaaDoor
