/-
  No cell of these rows narrows 'for every input' (looked for: loops, veiled, ifaces, maps, wideKeys, modest, calm, conditions, laid).
  DERIVED. THE GIVEN ROWS OF THIS SEAT. 6 by the template 'for every input the law returns true; each argument reads behind the call as it read before'; 0 by the template 'total and deterministic' (their statements: YtlmkimngkdbdhaaTotals.lean).
  GIVEN WITH THE SEED: the statements are not yours to turn. If you find one false, say at which input.
  Laid BY PROGRAM, IN A SANDBOX (cutbox-rows.mjs): the forced cells as the released guide's own fill.sh prints them over the translation 19569d6a6b1722b5… (all of the seat's roots in one cut). By AI agents, Wed Nov 11 2026. No macro, syntax, notation, axiom, sorry.
-/
import Derived.Test.YtlmkimngkdbdhaaChecked
import GoSem.Claim
import GoSem.ClaimJoined
import GoSem.ClaimMapViews
import Derived.JoinedTies
import Derived.KernelRfl
namespace Go.Proofs.Ytlmkimngkdbdhaa
/- THE CELL 'sum', in the pinned program and in every row, IS THE sha256 OF THE DUMP (.gsa) THAT YtlmkimngkdbdhaaProg.lean LOADS. Nothing in Lean hashes anything: it is a label: what it is worth is what the hold of that sum in a sandbox is worth. -/
noncomputable def Try.pinned : Pinned := { name := "ytlmkimngkdbdhaa", sum := "19569d6a6b1722b5470c731a943ad8d6f6e53510c047310e5193495bf8a11f4e", checked := Try.checked }
namespace Rows
def none {H : Type} : Left H := { results := [], args := [] }

/-- 'laws.FnExactForestOk': WHATEVER THE INPUT: true; the input reads as it did. -/
def fnExactForestOkSpec : ChangeSpec := { name := "fnExactForestOk", fn := fun _ => fun
  | [d] => { results := [.lit (.bool true)], args := [d] }
  | _ => none }
def fnExactForestOkRow : OpenClaim := { program := "ytlmkimngkdbdhaa", sum := "19569d6a6b1722b5470c731a943ad8d6f6e53510c047310e5193495bf8a11f4e", func := "loop.example/g00705/laws.FnExactForestOk", spec := "fnExactForestOk", inPlace := ["internal/bytealg.IndexByteString"], unfollowed := true, recurses := true, apart := false }
def FnExactForestOkSaid : Prop := fnExactForestOkRow.holds Try.pinned (OpenSpec.ofChange fnExactForestOkSpec)

/-- ITS FALSE NEIGHBOUR: 'it returns false'. Refute it at one input. -/
def fnExactForestOkWrong : ChangeSpec := { name := "fnExactForestOk", fn := fun _ => fun
  | [d] => { results := [.lit (.bool false)], args := [d] }
  | _ => none }
def FnExactForestOkWrongFalsely : Prop := fnExactForestOkRow.holds Try.pinned (OpenSpec.ofChange fnExactForestOkWrong)

/-- 'laws.FnExactDepth': WHATEVER THE INPUT: true; the input reads as it did. -/
def fnExactDepthSpec : ChangeSpec := { name := "fnExactDepth", fn := fun _ => fun
  | [d1, d2] => { results := [.lit (.bool true)], args := [d1, d2] }
  | _ => none }
def fnExactDepthRow : OpenClaim := { program := "ytlmkimngkdbdhaa", sum := "19569d6a6b1722b5470c731a943ad8d6f6e53510c047310e5193495bf8a11f4e", func := "loop.example/g00705/laws.FnExactDepth", spec := "fnExactDepth", inPlace := ["internal/bytealg.IndexByteString"], unfollowed := true, recurses := true, apart := false }
def FnExactDepthSaid : Prop := fnExactDepthRow.holds Try.pinned (OpenSpec.ofChange fnExactDepthSpec)

/-- ITS FALSE NEIGHBOUR: 'it returns false'. Refute it at one input. -/
def fnExactDepthWrong : ChangeSpec := { name := "fnExactDepth", fn := fun _ => fun
  | [d1, d2] => { results := [.lit (.bool false)], args := [d1, d2] }
  | _ => none }
def FnExactDepthWrongFalsely : Prop := fnExactDepthRow.holds Try.pinned (OpenSpec.ofChange fnExactDepthWrong)

/-- 'laws.FnExactFindToken': WHATEVER THE INPUT: true; the input reads as it did. -/
def fnExactFindTokenSpec : ChangeSpec := { name := "fnExactFindToken", fn := fun _ => fun
  | [d1, d2] => { results := [.lit (.bool true)], args := [d1, d2] }
  | _ => none }
def fnExactFindTokenRow : OpenClaim := { program := "ytlmkimngkdbdhaa", sum := "19569d6a6b1722b5470c731a943ad8d6f6e53510c047310e5193495bf8a11f4e", func := "loop.example/g00705/laws.FnExactFindToken", spec := "fnExactFindToken", inPlace := ["internal/bytealg.IndexByteString"], unfollowed := true, recurses := true, apart := false }
def FnExactFindTokenSaid : Prop := fnExactFindTokenRow.holds Try.pinned (OpenSpec.ofChange fnExactFindTokenSpec)

/-- ITS FALSE NEIGHBOUR: 'it returns false'. Refute it at one input. -/
def fnExactFindTokenWrong : ChangeSpec := { name := "fnExactFindToken", fn := fun _ => fun
  | [d1, d2] => { results := [.lit (.bool false)], args := [d1, d2] }
  | _ => none }
def FnExactFindTokenWrongFalsely : Prop := fnExactFindTokenRow.holds Try.pinned (OpenSpec.ofChange fnExactFindTokenWrong)

/-- 'laws.FnExactBelow': WHATEVER THE INPUT: true; the input reads as it did. -/
def fnExactBelowSpec : ChangeSpec := { name := "fnExactBelow", fn := fun _ => fun
  | [d1, d2] => { results := [.lit (.bool true)], args := [d1, d2] }
  | _ => none }
def fnExactBelowRow : OpenClaim := { program := "ytlmkimngkdbdhaa", sum := "19569d6a6b1722b5470c731a943ad8d6f6e53510c047310e5193495bf8a11f4e", func := "loop.example/g00705/laws.FnExactBelow", spec := "fnExactBelow", inPlace := ["internal/bytealg.IndexByteString"], unfollowed := true, recurses := true, apart := false }
def FnExactBelowSaid : Prop := fnExactBelowRow.holds Try.pinned (OpenSpec.ofChange fnExactBelowSpec)

/-- ITS FALSE NEIGHBOUR: 'it returns false'. Refute it at one input. -/
def fnExactBelowWrong : ChangeSpec := { name := "fnExactBelow", fn := fun _ => fun
  | [d1, d2] => { results := [.lit (.bool false)], args := [d1, d2] }
  | _ => none }
def FnExactBelowWrongFalsely : Prop := fnExactBelowRow.holds Try.pinned (OpenSpec.ofChange fnExactBelowWrong)

/-- 'laws.FnExactRenewToken': WHATEVER THE INPUT: true; the input reads as it did. -/
def fnExactRenewTokenSpec : ChangeSpec := { name := "fnExactRenewToken", fn := fun _ => fun
  | [d1, d2, d3, d4] => { results := [.lit (.bool true)], args := [d1, d2, d3, d4] }
  | _ => none }
def fnExactRenewTokenRow : OpenClaim := { program := "ytlmkimngkdbdhaa", sum := "19569d6a6b1722b5470c731a943ad8d6f6e53510c047310e5193495bf8a11f4e", func := "loop.example/g00705/laws.FnExactRenewToken", spec := "fnExactRenewToken", inPlace := ["internal/bytealg.IndexByteString"], unfollowed := true, recurses := true, apart := false }
def FnExactRenewTokenSaid : Prop := fnExactRenewTokenRow.holds Try.pinned (OpenSpec.ofChange fnExactRenewTokenSpec)

/-- ITS FALSE NEIGHBOUR: 'it returns false'. Refute it at one input. -/
def fnExactRenewTokenWrong : ChangeSpec := { name := "fnExactRenewToken", fn := fun _ => fun
  | [d1, d2, d3, d4] => { results := [.lit (.bool false)], args := [d1, d2, d3, d4] }
  | _ => none }
def FnExactRenewTokenWrongFalsely : Prop := fnExactRenewTokenRow.holds Try.pinned (OpenSpec.ofChange fnExactRenewTokenWrong)

/-- 'laws.FnExactRevokeAlone': WHATEVER THE INPUT: true; the input reads as it did. -/
def fnExactRevokeAloneSpec : ChangeSpec := { name := "fnExactRevokeAlone", fn := fun _ => fun
  | [d1, d2] => { results := [.lit (.bool true)], args := [d1, d2] }
  | _ => none }
def fnExactRevokeAloneRow : OpenClaim := { program := "ytlmkimngkdbdhaa", sum := "19569d6a6b1722b5470c731a943ad8d6f6e53510c047310e5193495bf8a11f4e", func := "loop.example/g00705/laws.FnExactRevokeAlone", spec := "fnExactRevokeAlone", inPlace := ["internal/bytealg.IndexByteString"], unfollowed := true, recurses := true, apart := false }
def FnExactRevokeAloneSaid : Prop := fnExactRevokeAloneRow.holds Try.pinned (OpenSpec.ofChange fnExactRevokeAloneSpec)

/-- ITS FALSE NEIGHBOUR: 'it returns false'. Refute it at one input. -/
def fnExactRevokeAloneWrong : ChangeSpec := { name := "fnExactRevokeAlone", fn := fun _ => fun
  | [d1, d2] => { results := [.lit (.bool false)], args := [d1, d2] }
  | _ => none }
def FnExactRevokeAloneWrongFalsely : Prop := fnExactRevokeAloneRow.holds Try.pinned (OpenSpec.ofChange fnExactRevokeAloneWrong)

/- THE SECOND FORM. 'bulk': how many values and letters a reading holds, each counted each time it is reached (what is shared counts as often as it is met; a slice's spare places count too). A statement '..UptoSaid' is the law's where the arguments, and the package variables that the reading takes, are together of bulk at most 1048576: NARROWER than '..Said'. Prove '..Said' where nothing that the law and all that it calls make is longer than what came in: it says more and counts as full. Else prove '..UptoSaid'. A law counts once. -/
mutual
def uptoBulk {H : Type} : DataW H → Nat
  | .lit (.string bytes) => bytes.length + 1
  | .lit _ => 1
  | .nil => 1
  | .ptr d => uptoBulk d + 1
  | .slice elems spare => uptoBulkAll elems + uptoBulkAll spare + 1
  | .agg parts => uptoBulkAll parts + 1
  | .iface _ d => uptoBulk d + 1
  | .map entries => uptoBulkEntries entries + 1
  | .held _ => 1
def uptoBulkAll {H : Type} : List (DataW H) → Nat
  | [] => 0
  | d :: r => uptoBulk d + uptoBulkAll r
def uptoBulkEntries {H : Type} : List (Lit × DataW H) → Nat
  | [] => 0
  | x :: r => uptoBulkEntry x + uptoBulkEntries r
def uptoBulkEntry {H : Type} : Lit × DataW H → Nat
  | (.string bytes, d) => bytes.length + uptoBulk d + 1
  | (_, d) => uptoBulk d + 1
 end
def uptoSmall : (H : Type) → List (DataW H) → Bool := fun _ ds => decide (uptoBulkAll ds ≤ 1048576)
def OpenSpec.upto (s : _root_.Go.ChangeSpec) : _root_.Go.OpenSpec := { _root_.Go.OpenSpec.ofChange s with cond := some uptoSmall }

/-- 'laws.FnExactForestOk', WHERE WHAT IT READS IS OF BULK AT MOST 1048576: true; the input reads as it did. -/
def fnExactForestOkUptoRow : OpenClaim := { program := "ytlmkimngkdbdhaa", sum := "19569d6a6b1722b5470c731a943ad8d6f6e53510c047310e5193495bf8a11f4e", func := "loop.example/g00705/laws.FnExactForestOk", spec := "fnExactForestOk", inPlace := ["internal/bytealg.IndexByteString"], unfollowed := true, recurses := true, apart := false, narrowed := true }
def FnExactForestOkUptoSaid : Prop := fnExactForestOkUptoRow.holds Try.pinned (OpenSpec.upto fnExactForestOkSpec)

/-- 'laws.FnExactDepth', WHERE WHAT IT READS IS OF BULK AT MOST 1048576: true; the input reads as it did. -/
def fnExactDepthUptoRow : OpenClaim := { program := "ytlmkimngkdbdhaa", sum := "19569d6a6b1722b5470c731a943ad8d6f6e53510c047310e5193495bf8a11f4e", func := "loop.example/g00705/laws.FnExactDepth", spec := "fnExactDepth", inPlace := ["internal/bytealg.IndexByteString"], unfollowed := true, recurses := true, apart := false, narrowed := true }
def FnExactDepthUptoSaid : Prop := fnExactDepthUptoRow.holds Try.pinned (OpenSpec.upto fnExactDepthSpec)

/-- 'laws.FnExactFindToken', WHERE WHAT IT READS IS OF BULK AT MOST 1048576: true; the input reads as it did. -/
def fnExactFindTokenUptoRow : OpenClaim := { program := "ytlmkimngkdbdhaa", sum := "19569d6a6b1722b5470c731a943ad8d6f6e53510c047310e5193495bf8a11f4e", func := "loop.example/g00705/laws.FnExactFindToken", spec := "fnExactFindToken", inPlace := ["internal/bytealg.IndexByteString"], unfollowed := true, recurses := true, apart := false, narrowed := true }
def FnExactFindTokenUptoSaid : Prop := fnExactFindTokenUptoRow.holds Try.pinned (OpenSpec.upto fnExactFindTokenSpec)

/-- 'laws.FnExactBelow', WHERE WHAT IT READS IS OF BULK AT MOST 1048576: true; the input reads as it did. -/
def fnExactBelowUptoRow : OpenClaim := { program := "ytlmkimngkdbdhaa", sum := "19569d6a6b1722b5470c731a943ad8d6f6e53510c047310e5193495bf8a11f4e", func := "loop.example/g00705/laws.FnExactBelow", spec := "fnExactBelow", inPlace := ["internal/bytealg.IndexByteString"], unfollowed := true, recurses := true, apart := false, narrowed := true }
def FnExactBelowUptoSaid : Prop := fnExactBelowUptoRow.holds Try.pinned (OpenSpec.upto fnExactBelowSpec)

/-- 'laws.FnExactRenewToken', WHERE WHAT IT READS IS OF BULK AT MOST 1048576: true; the input reads as it did. -/
def fnExactRenewTokenUptoRow : OpenClaim := { program := "ytlmkimngkdbdhaa", sum := "19569d6a6b1722b5470c731a943ad8d6f6e53510c047310e5193495bf8a11f4e", func := "loop.example/g00705/laws.FnExactRenewToken", spec := "fnExactRenewToken", inPlace := ["internal/bytealg.IndexByteString"], unfollowed := true, recurses := true, apart := false, narrowed := true }
def FnExactRenewTokenUptoSaid : Prop := fnExactRenewTokenUptoRow.holds Try.pinned (OpenSpec.upto fnExactRenewTokenSpec)

/-- 'laws.FnExactRevokeAlone', WHERE WHAT IT READS IS OF BULK AT MOST 1048576: true; the input reads as it did. -/
def fnExactRevokeAloneUptoRow : OpenClaim := { program := "ytlmkimngkdbdhaa", sum := "19569d6a6b1722b5470c731a943ad8d6f6e53510c047310e5193495bf8a11f4e", func := "loop.example/g00705/laws.FnExactRevokeAlone", spec := "fnExactRevokeAlone", inPlace := ["internal/bytealg.IndexByteString"], unfollowed := true, recurses := true, apart := false, narrowed := true }
def FnExactRevokeAloneUptoSaid : Prop := fnExactRevokeAloneUptoRow.holds Try.pinned (OpenSpec.upto fnExactRevokeAloneSpec)

end Rows
end Go.Proofs.Ytlmkimngkdbdhaa
