/-
  No cell of these rows narrows 'for every input' (looked for: loops, veiled, ifaces, maps, wideKeys, modest, calm, conditions, laid).
  DERIVED. THE GIVEN ROWS OF THIS SEAT. 4 by the template 'for every input the law returns true; each argument reads behind the call as it read before'; 0 by the template 'total and deterministic' (their statements: YtpabhahfgadagaaTotals.lean).
  GIVEN WITH THE SEED: the statements are not yours to turn. If you find one false, say at which input.
  Laid BY PROGRAM, IN A SANDBOX (cutbox-rows.mjs): the forced cells as the released guide's own fill.sh prints them over the translation d6a445b43f177356… (all of the seat's roots in one cut). By AI agents, Wed Nov 11 2026. No macro, syntax, notation, axiom, sorry.
-/
import Derived.Test.YtpabhahfgadagaaChecked
import GoSem.Claim
import GoSem.ClaimJoined
import GoSem.ClaimMapViews
import Derived.JoinedTies
import Derived.KernelRfl
namespace Go.Proofs.Ytpabhahfgadagaa
/- THE CELL 'sum', in the pinned program and in every row, IS THE sha256 OF THE DUMP (.gsa) THAT YtpabhahfgadagaaProg.lean LOADS. Nothing in Lean hashes anything: it is a label: what it is worth is what the hold of that sum in a sandbox is worth. -/
noncomputable def Try.pinned : Pinned := { name := "ytpabhahfgadagaa", sum := "d6a445b43f177356cebfa6562d2e9ceccf04f66ee2f6ba3ddb77a66a983e27a6", checked := Try.checked }
namespace Rows
def none {H : Type} : Left H := { results := [], args := [] }

/-- 'laws.FnExactMakeToken': WHATEVER THE INPUT: true; the input reads as it did. -/
def fnExactMakeTokenSpec : ChangeSpec := { name := "fnExactMakeToken", fn := fun _ => fun
  | [d1, d2] => { results := [.lit (.bool true)], args := [d1, d2] }
  | _ => none }
def fnExactMakeTokenRow : OpenClaim := { program := "ytpabhahfgadagaa", sum := "d6a445b43f177356cebfa6562d2e9ceccf04f66ee2f6ba3ddb77a66a983e27a6", func := "loop.example/g00705/laws.FnExactMakeToken", spec := "fnExactMakeToken", inPlace := ["internal/bytealg.IndexByteString"], unfollowed := true, recurses := true, apart := false }
def FnExactMakeTokenSaid : Prop := fnExactMakeTokenRow.holds Try.pinned (OpenSpec.ofChange fnExactMakeTokenSpec)

/-- ITS FALSE NEIGHBOUR: 'it returns false'. Refute it at one input. -/
def fnExactMakeTokenWrong : ChangeSpec := { name := "fnExactMakeToken", fn := fun _ => fun
  | [d1, d2] => { results := [.lit (.bool false)], args := [d1, d2] }
  | _ => none }
def FnExactMakeTokenWrongFalsely : Prop := fnExactMakeTokenRow.holds Try.pinned (OpenSpec.ofChange fnExactMakeTokenWrong)

/-- 'laws.FnExactSweepTokens': WHATEVER THE INPUT: true; the input reads as it did. -/
def fnExactSweepTokensSpec : ChangeSpec := { name := "fnExactSweepTokens", fn := fun _ => fun
  | [d1, d2] => { results := [.lit (.bool true)], args := [d1, d2] }
  | _ => none }
def fnExactSweepTokensRow : OpenClaim := { program := "ytpabhahfgadagaa", sum := "d6a445b43f177356cebfa6562d2e9ceccf04f66ee2f6ba3ddb77a66a983e27a6", func := "loop.example/g00705/laws.FnExactSweepTokens", spec := "fnExactSweepTokens", inPlace := ["internal/bytealg.IndexByteString"], unfollowed := true, recurses := true, apart := false }
def FnExactSweepTokensSaid : Prop := fnExactSweepTokensRow.holds Try.pinned (OpenSpec.ofChange fnExactSweepTokensSpec)

/-- ITS FALSE NEIGHBOUR: 'it returns false'. Refute it at one input. -/
def fnExactSweepTokensWrong : ChangeSpec := { name := "fnExactSweepTokens", fn := fun _ => fun
  | [d1, d2] => { results := [.lit (.bool false)], args := [d1, d2] }
  | _ => none }
def FnExactSweepTokensWrongFalsely : Prop := fnExactSweepTokensRow.holds Try.pinned (OpenSpec.ofChange fnExactSweepTokensWrong)

/-- 'laws.FnExactRevokeToken': WHATEVER THE INPUT: true; the input reads as it did. -/
def fnExactRevokeTokenSpec : ChangeSpec := { name := "fnExactRevokeToken", fn := fun _ => fun
  | [d1, d2] => { results := [.lit (.bool true)], args := [d1, d2] }
  | _ => none }
def fnExactRevokeTokenRow : OpenClaim := { program := "ytpabhahfgadagaa", sum := "d6a445b43f177356cebfa6562d2e9ceccf04f66ee2f6ba3ddb77a66a983e27a6", func := "loop.example/g00705/laws.FnExactRevokeToken", spec := "fnExactRevokeToken", inPlace := ["internal/bytealg.IndexByteString"], unfollowed := true, recurses := true, apart := false }
def FnExactRevokeTokenSaid : Prop := fnExactRevokeTokenRow.holds Try.pinned (OpenSpec.ofChange fnExactRevokeTokenSpec)

/-- ITS FALSE NEIGHBOUR: 'it returns false'. Refute it at one input. -/
def fnExactRevokeTokenWrong : ChangeSpec := { name := "fnExactRevokeToken", fn := fun _ => fun
  | [d1, d2] => { results := [.lit (.bool false)], args := [d1, d2] }
  | _ => none }
def FnExactRevokeTokenWrongFalsely : Prop := fnExactRevokeTokenRow.holds Try.pinned (OpenSpec.ofChange fnExactRevokeTokenWrong)

/-- 'laws.FnExactUseToken': WHATEVER THE INPUT: true; the input reads as it did. -/
def fnExactUseTokenSpec : ChangeSpec := { name := "fnExactUseToken", fn := fun _ => fun
  | [d1, d2, d3] => { results := [.lit (.bool true)], args := [d1, d2, d3] }
  | _ => none }
def fnExactUseTokenRow : OpenClaim := { program := "ytpabhahfgadagaa", sum := "d6a445b43f177356cebfa6562d2e9ceccf04f66ee2f6ba3ddb77a66a983e27a6", func := "loop.example/g00705/laws.FnExactUseToken", spec := "fnExactUseToken", inPlace := ["internal/bytealg.IndexByteString"], unfollowed := true, recurses := true, apart := false }
def FnExactUseTokenSaid : Prop := fnExactUseTokenRow.holds Try.pinned (OpenSpec.ofChange fnExactUseTokenSpec)

/-- ITS FALSE NEIGHBOUR: 'it returns false'. Refute it at one input. -/
def fnExactUseTokenWrong : ChangeSpec := { name := "fnExactUseToken", fn := fun _ => fun
  | [d1, d2, d3] => { results := [.lit (.bool false)], args := [d1, d2, d3] }
  | _ => none }
def FnExactUseTokenWrongFalsely : Prop := fnExactUseTokenRow.holds Try.pinned (OpenSpec.ofChange fnExactUseTokenWrong)

/- THE SECOND FORM. 'bulk': how many values and letters a reading holds, each counted each time it is reached (what is shared counts as often as it is met; a slice's spare places count too). A statement '..UptoSaid' is the law's where the arguments, and the package variables that the reading takes, are together of bulk at most 1048576: NARROWER than '..Said'. Prove '..Said' where nothing that the law and all that it calls make is longer than what came in: it says more and counts as full. Else prove '..UptoSaid'. A law counts once. -/
mutual
def uptoBulk {H : Type} : DataW H → Nat
  | .lit (.string bytes) => bytes.length + 1
  | .lit _ => 1
  | .nil => 1
  | .ptr d => uptoBulk d + 1
  | .slice elems spare => uptoBulkAll elems + uptoBulkAll spare + 1
  | .agg parts => uptoBulkAll parts + 1
  | .iface _ d => uptoBulk d + 1
  | .map entries => uptoBulkEntries entries + 1
  | .held _ => 1
def uptoBulkAll {H : Type} : List (DataW H) → Nat
  | [] => 0
  | d :: r => uptoBulk d + uptoBulkAll r
def uptoBulkEntries {H : Type} : List (Lit × DataW H) → Nat
  | [] => 0
  | x :: r => uptoBulkEntry x + uptoBulkEntries r
def uptoBulkEntry {H : Type} : Lit × DataW H → Nat
  | (.string bytes, d) => bytes.length + uptoBulk d + 1
  | (_, d) => uptoBulk d + 1
 end
def uptoSmall : (H : Type) → List (DataW H) → Bool := fun _ ds => decide (uptoBulkAll ds ≤ 1048576)
def OpenSpec.upto (s : _root_.Go.ChangeSpec) : _root_.Go.OpenSpec := { _root_.Go.OpenSpec.ofChange s with cond := some uptoSmall }

/-- 'laws.FnExactMakeToken', WHERE WHAT IT READS IS OF BULK AT MOST 1048576: true; the input reads as it did. -/
def fnExactMakeTokenUptoRow : OpenClaim := { program := "ytpabhahfgadagaa", sum := "d6a445b43f177356cebfa6562d2e9ceccf04f66ee2f6ba3ddb77a66a983e27a6", func := "loop.example/g00705/laws.FnExactMakeToken", spec := "fnExactMakeToken", inPlace := ["internal/bytealg.IndexByteString"], unfollowed := true, recurses := true, apart := false, narrowed := true }
def FnExactMakeTokenUptoSaid : Prop := fnExactMakeTokenUptoRow.holds Try.pinned (OpenSpec.upto fnExactMakeTokenSpec)

/-- 'laws.FnExactSweepTokens', WHERE WHAT IT READS IS OF BULK AT MOST 1048576: true; the input reads as it did. -/
def fnExactSweepTokensUptoRow : OpenClaim := { program := "ytpabhahfgadagaa", sum := "d6a445b43f177356cebfa6562d2e9ceccf04f66ee2f6ba3ddb77a66a983e27a6", func := "loop.example/g00705/laws.FnExactSweepTokens", spec := "fnExactSweepTokens", inPlace := ["internal/bytealg.IndexByteString"], unfollowed := true, recurses := true, apart := false, narrowed := true }
def FnExactSweepTokensUptoSaid : Prop := fnExactSweepTokensUptoRow.holds Try.pinned (OpenSpec.upto fnExactSweepTokensSpec)

/-- 'laws.FnExactRevokeToken', WHERE WHAT IT READS IS OF BULK AT MOST 1048576: true; the input reads as it did. -/
def fnExactRevokeTokenUptoRow : OpenClaim := { program := "ytpabhahfgadagaa", sum := "d6a445b43f177356cebfa6562d2e9ceccf04f66ee2f6ba3ddb77a66a983e27a6", func := "loop.example/g00705/laws.FnExactRevokeToken", spec := "fnExactRevokeToken", inPlace := ["internal/bytealg.IndexByteString"], unfollowed := true, recurses := true, apart := false, narrowed := true }
def FnExactRevokeTokenUptoSaid : Prop := fnExactRevokeTokenUptoRow.holds Try.pinned (OpenSpec.upto fnExactRevokeTokenSpec)

/-- 'laws.FnExactUseToken', WHERE WHAT IT READS IS OF BULK AT MOST 1048576: true; the input reads as it did. -/
def fnExactUseTokenUptoRow : OpenClaim := { program := "ytpabhahfgadagaa", sum := "d6a445b43f177356cebfa6562d2e9ceccf04f66ee2f6ba3ddb77a66a983e27a6", func := "loop.example/g00705/laws.FnExactUseToken", spec := "fnExactUseToken", inPlace := ["internal/bytealg.IndexByteString"], unfollowed := true, recurses := true, apart := false, narrowed := true }
def FnExactUseTokenUptoSaid : Prop := fnExactUseTokenUptoRow.holds Try.pinned (OpenSpec.upto fnExactUseTokenSpec)

end Rows
end Go.Proofs.Ytpabhahfgadagaa
