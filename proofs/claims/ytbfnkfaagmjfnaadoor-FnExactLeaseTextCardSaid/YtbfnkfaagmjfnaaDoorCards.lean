/-
  DERIVED. GIVEN WITH THE SEED: THE CARDS: each row of YtbfnkfaagmjfnaaDoorRows.lean that lists a variable, with what it lists TIED to the program's text (the seventh form; the later family's looks); each row that meets fmt, with fmt's text TOLD by the authors' own Lean function (tested against real Go, not proved from fmt's source: count such statements apart). THE CARD IS WHAT COUNTS. Prove the row's statement (the work); the ties are given (YtbfnkfaagmjfnaaDoorTie.lean); close each card by the builder's one call (the guide's Derived/Test/ToyasCard.lean, 'card_holds'). Laid BY PROGRAM, IN A SANDBOX (cutbox-door.mjs). By AI agents, Wed Nov 11 2026. No macro, syntax, notation, axiom, sorry.
-/
import Derived.Test.YtbfnkfaagmjfnaaDoorRows
import GoSem.ClaimSeven
namespace Go.Proofs.YtbfnkfaagmjfnaaDoor
namespace Rows

/-- THE TIED CARD OF 'laws.FnExactLeaseText'. -/
def fnExactLeaseTextCard : Claim7 := { stood := { row := fnExactLeaseTextRow, standIns := [], harness := (true, "a72b37c85740228649e9e69413bf8e1bd1e6707d63334f764e12b66a4d563d13"), looks := false }, kinds := [], alts := [], laidByText := true, laidKinds := [.data, .data, .data], laidTests := true, laidLooks := .later }
def FnExactLeaseTextCardSaid : Prop := Claim7.holds Tryd.pinned (.plain (OpenSpec.ofChange fnExactLeaseTextSpec)) fnExactLeaseTextCard

/-- THE TIED CARD OF 'laws.FnExactBookOk'. -/
def fnExactBookOkCard : Claim7 := { stood := { row := fnExactBookOkRow, standIns := [], harness := (true, "a72b37c85740228649e9e69413bf8e1bd1e6707d63334f764e12b66a4d563d13"), looks := false }, kinds := [], alts := [], laidByText := true, laidKinds := [.data, .pinned], laidTests := true, laidLooks := .later }
def FnExactBookOkCardSaid : Prop := Claim7.holds Tryd.pinned (.plain (OpenSpec.ofChange fnExactBookOkSpec)) fnExactBookOkCard

/-- THE TIED CARD OF 'laws.FnExactFindLease'. -/
def fnExactFindLeaseCard : Claim7 := { stood := { row := fnExactFindLeaseRow, standIns := [], harness := (true, "a72b37c85740228649e9e69413bf8e1bd1e6707d63334f764e12b66a4d563d13"), looks := false }, kinds := [], alts := [], laidByText := true, laidKinds := [.data, .pinned], laidTests := true, laidLooks := .later }
def FnExactFindLeaseCardSaid : Prop := Claim7.holds Tryd.pinned (.plain (OpenSpec.ofChange fnExactFindLeaseSpec)) fnExactFindLeaseCard

/-- THE TIED CARD OF 'laws.FnExactNextEnd'. -/
def fnExactNextEndCard : Claim7 := { stood := { row := fnExactNextEndRow, standIns := [], harness := (true, "a72b37c85740228649e9e69413bf8e1bd1e6707d63334f764e12b66a4d563d13"), looks := false }, kinds := [], alts := [], laidByText := true, laidKinds := [.data, .pinned], laidTests := true, laidLooks := .later }
def FnExactNextEndCardSaid : Prop := Claim7.holds Tryd.pinned (.plain (OpenSpec.ofChange fnExactNextEndSpec)) fnExactNextEndCard

/-- THE TIED CARD OF 'laws.FnExactCountUnder'. -/
def fnExactCountUnderCard : Claim7 := { stood := { row := fnExactCountUnderRow, standIns := [], harness := (true, "a72b37c85740228649e9e69413bf8e1bd1e6707d63334f764e12b66a4d563d13"), looks := false }, kinds := [], alts := [], laidByText := true, laidKinds := [.data, .pinned], laidTests := true, laidLooks := .later }
def FnExactCountUnderCardSaid : Prop := Claim7.holds Tryd.pinned (.plain (OpenSpec.ofChange fnExactCountUnderSpec)) fnExactCountUnderCard

/-- THE TIED CARD OF 'laws.FnExactAddLease'. -/
def fnExactAddLeaseCard : Claim7 := { stood := { row := fnExactAddLeaseRow, standIns := [], harness := (true, "a72b37c85740228649e9e69413bf8e1bd1e6707d63334f764e12b66a4d563d13"), looks := false }, kinds := [], alts := [], laidByText := true, laidKinds := [.data, .pinned], laidTests := true, laidLooks := .later }
def FnExactAddLeaseCardSaid : Prop := Claim7.holds Tryd.pinned (.plain (OpenSpec.ofChange fnExactAddLeaseSpec)) fnExactAddLeaseCard

/-- THE SECOND FORM's CARD OF 'laws.FnExactLeaseText'. -/
def fnExactLeaseTextUptoCard : Claim7 := { stood := { row := fnExactLeaseTextUptoRow, standIns := [], harness := (true, "a72b37c85740228649e9e69413bf8e1bd1e6707d63334f764e12b66a4d563d13"), looks := false }, kinds := [], alts := [], laidByText := true, laidKinds := [.data, .data, .data], laidTests := true, laidLooks := .later }
def FnExactLeaseTextUptoCardSaid : Prop := Claim7.holds Tryd.pinned (.plain (OpenSpec.upto fnExactLeaseTextSpec)) fnExactLeaseTextUptoCard

/-- THE SECOND FORM's CARD OF 'laws.FnExactBookOk'. -/
def fnExactBookOkUptoCard : Claim7 := { stood := { row := fnExactBookOkUptoRow, standIns := [], harness := (true, "a72b37c85740228649e9e69413bf8e1bd1e6707d63334f764e12b66a4d563d13"), looks := false }, kinds := [], alts := [], laidByText := true, laidKinds := [.data, .pinned], laidTests := true, laidLooks := .later }
def FnExactBookOkUptoCardSaid : Prop := Claim7.holds Tryd.pinned (.plain (OpenSpec.upto fnExactBookOkSpec)) fnExactBookOkUptoCard

/-- THE SECOND FORM's CARD OF 'laws.FnExactFindLease'. -/
def fnExactFindLeaseUptoCard : Claim7 := { stood := { row := fnExactFindLeaseUptoRow, standIns := [], harness := (true, "a72b37c85740228649e9e69413bf8e1bd1e6707d63334f764e12b66a4d563d13"), looks := false }, kinds := [], alts := [], laidByText := true, laidKinds := [.data, .pinned], laidTests := true, laidLooks := .later }
def FnExactFindLeaseUptoCardSaid : Prop := Claim7.holds Tryd.pinned (.plain (OpenSpec.upto fnExactFindLeaseSpec)) fnExactFindLeaseUptoCard

/-- THE SECOND FORM's CARD OF 'laws.FnExactNextEnd'. -/
def fnExactNextEndUptoCard : Claim7 := { stood := { row := fnExactNextEndUptoRow, standIns := [], harness := (true, "a72b37c85740228649e9e69413bf8e1bd1e6707d63334f764e12b66a4d563d13"), looks := false }, kinds := [], alts := [], laidByText := true, laidKinds := [.data, .pinned], laidTests := true, laidLooks := .later }
def FnExactNextEndUptoCardSaid : Prop := Claim7.holds Tryd.pinned (.plain (OpenSpec.upto fnExactNextEndSpec)) fnExactNextEndUptoCard

/-- THE SECOND FORM's CARD OF 'laws.FnExactCountUnder'. -/
def fnExactCountUnderUptoCard : Claim7 := { stood := { row := fnExactCountUnderUptoRow, standIns := [], harness := (true, "a72b37c85740228649e9e69413bf8e1bd1e6707d63334f764e12b66a4d563d13"), looks := false }, kinds := [], alts := [], laidByText := true, laidKinds := [.data, .pinned], laidTests := true, laidLooks := .later }
def FnExactCountUnderUptoCardSaid : Prop := Claim7.holds Tryd.pinned (.plain (OpenSpec.upto fnExactCountUnderSpec)) fnExactCountUnderUptoCard

/-- THE SECOND FORM's CARD OF 'laws.FnExactAddLease'. -/
def fnExactAddLeaseUptoCard : Claim7 := { stood := { row := fnExactAddLeaseUptoRow, standIns := [], harness := (true, "a72b37c85740228649e9e69413bf8e1bd1e6707d63334f764e12b66a4d563d13"), looks := false }, kinds := [], alts := [], laidByText := true, laidKinds := [.data, .pinned], laidTests := true, laidLooks := .later }
def FnExactAddLeaseUptoCardSaid : Prop := Claim7.holds Tryd.pinned (.plain (OpenSpec.upto fnExactAddLeaseSpec)) fnExactAddLeaseUptoCard
end Rows
end Go.Proofs.YtbfnkfaagmjfnaaDoor
