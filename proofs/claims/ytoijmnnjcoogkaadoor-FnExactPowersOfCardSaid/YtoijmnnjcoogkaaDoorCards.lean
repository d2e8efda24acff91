/-
  DERIVED. GIVEN WITH THE SEED: THE CARDS: each row of YtoijmnnjcoogkaaDoorRows.lean that lists a variable, with what it lists TIED to the program's text (the seventh form; the later family's looks); each row that meets fmt, with fmt's text TOLD by the authors' own Lean function (tested against real Go, not proved from fmt's source: count such statements apart). THE CARD IS WHAT COUNTS. Prove the row's statement (the work); the ties are given (YtoijmnnjcoogkaaDoorTie.lean); close each card by the builder's one call (the guide's Derived/Test/ToyasCard.lean, 'card_holds'). Laid BY PROGRAM, IN A SANDBOX (cutbox-door.mjs). By AI agents, Wed Nov 11 2026. No macro, syntax, notation, axiom, sorry.
-/
import Derived.Test.YtoijmnnjcoogkaaDoorRows
import GoSem.ClaimSeven
namespace Go.Proofs.YtoijmnnjcoogkaaDoor
namespace Rows

/-- THE TIED CARD OF 'laws.FnExactPowersOf'. -/
def fnExactPowersOfCard : Claim7 := { stood := { row := fnExactPowersOfRow, standIns := [], harness := (true, "c620798a866f53c107a42b02dd7ff797d3ab455fc54adce4d9a32374639bda72"), looks := false }, kinds := [], alts := [], laidByText := true, laidKinds := [.data, .pinned], laidTests := true, laidLooks := .later }
def FnExactPowersOfCardSaid : Prop := Claim7.holds Tryd.pinned (.plain (OpenSpec.ofChange fnExactPowersOfSpec)) fnExactPowersOfCard

/-- THE SECOND FORM's CARD OF 'laws.FnExactPowersOf'. -/
def fnExactPowersOfUptoCard : Claim7 := { stood := { row := fnExactPowersOfUptoRow, standIns := [], harness := (true, "c620798a866f53c107a42b02dd7ff797d3ab455fc54adce4d9a32374639bda72"), looks := false }, kinds := [], alts := [], laidByText := true, laidKinds := [.data, .pinned], laidTests := true, laidLooks := .later }
def FnExactPowersOfUptoCardSaid : Prop := Claim7.holds Tryd.pinned (.plain (OpenSpec.upto fnExactPowersOfSpec)) fnExactPowersOfUptoCard
end Rows
end Go.Proofs.YtoijmnnjcoogkaaDoor
