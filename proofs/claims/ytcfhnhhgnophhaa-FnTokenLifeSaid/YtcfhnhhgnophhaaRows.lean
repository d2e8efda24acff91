/-
  No cell of these rows narrows 'for every input' (looked for: loops, veiled, ifaces, maps, wideKeys, modest, calm, conditions, laid).
  DERIVED. THE GIVEN ROWS OF THIS SEAT. 3 by the template 'for every input the law returns true; each argument reads behind the call as it read before'; 0 by the template 'total and deterministic' (their statements: YtcfhnhhgnophhaaTotals.lean).
  GIVEN WITH THE SEED: the statements are not yours to turn. If you find one false, say at which input.
  Laid BY PROGRAM, IN A SANDBOX (cutbox-rows.mjs): the forced cells as the released guide's own fill.sh prints them over the translation ef22929226b62f04… (all of the seat's roots in one cut). By AI agents, Wed Nov 11 2026. No macro, syntax, notation, axiom, sorry.
-/
import Derived.Test.YtcfhnhhgnophhaaChecked
import GoSem.Claim
import GoSem.ClaimJoined
import GoSem.ClaimMapViews
import Derived.JoinedTies
import Derived.KernelRfl
namespace Go.Proofs.Ytcfhnhhgnophhaa
/- THE CELL 'sum', in the pinned program and in every row, IS THE sha256 OF THE DUMP (.gsa) THAT YtcfhnhhgnophhaaProg.lean LOADS. Nothing in Lean hashes anything: it is a label: what it is worth is what the hold of that sum in a sandbox is worth. -/
noncomputable def Try.pinned : Pinned := { name := "ytcfhnhhgnophhaa", sum := "ef22929226b62f04a6fab871e6b570b7124808f0ccf0f674127178cd1528ca13", checked := Try.checked }
namespace Rows
def none {H : Type} : Left H := { results := [], args := [] }

/-- 'laws.FnSweep': WHATEVER THE INPUT: true; the input reads as it did. -/
def fnSweepSpec : ChangeSpec := { name := "fnSweep", fn := fun _ => fun
  | [d] => { results := [.lit (.bool true)], args := [d] }
  | _ => none }
def fnSweepRow : OpenClaim := { program := "ytcfhnhhgnophhaa", sum := "ef22929226b62f04a6fab871e6b570b7124808f0ccf0f674127178cd1528ca13", func := "loop.example/g00705/laws.FnSweep", spec := "fnSweep", inPlace := ["internal/bytealg.IndexByteString"], unfollowed := true, recurses := true, apart := false }
def FnSweepSaid : Prop := fnSweepRow.holds Try.pinned (OpenSpec.ofChange fnSweepSpec)

/-- ITS FALSE NEIGHBOUR: 'it returns false'. Refute it at one input. -/
def fnSweepWrong : ChangeSpec := { name := "fnSweep", fn := fun _ => fun
  | [d] => { results := [.lit (.bool false)], args := [d] }
  | _ => none }
def FnSweepWrongFalsely : Prop := fnSweepRow.holds Try.pinned (OpenSpec.ofChange fnSweepWrong)

/-- 'laws.FnFamily': WHATEVER THE INPUT: true; the input reads as it did. -/
def fnFamilySpec : ChangeSpec := { name := "fnFamily", fn := fun _ => fun
  | [d] => { results := [.lit (.bool true)], args := [d] }
  | _ => none }
def fnFamilyRow : OpenClaim := { program := "ytcfhnhhgnophhaa", sum := "ef22929226b62f04a6fab871e6b570b7124808f0ccf0f674127178cd1528ca13", func := "loop.example/g00705/laws.FnFamily", spec := "fnFamily", inPlace := ["internal/bytealg.IndexByteString"], unfollowed := true, recurses := true, apart := false }
def FnFamilySaid : Prop := fnFamilyRow.holds Try.pinned (OpenSpec.ofChange fnFamilySpec)

/-- ITS FALSE NEIGHBOUR: 'it returns false'. Refute it at one input. -/
def fnFamilyWrong : ChangeSpec := { name := "fnFamily", fn := fun _ => fun
  | [d] => { results := [.lit (.bool false)], args := [d] }
  | _ => none }
def FnFamilyWrongFalsely : Prop := fnFamilyRow.holds Try.pinned (OpenSpec.ofChange fnFamilyWrong)

/-- 'laws.FnTokenLife': WHATEVER THE INPUT: true; the input reads as it did. -/
def fnTokenLifeSpec : ChangeSpec := { name := "fnTokenLife", fn := fun _ => fun
  | [d] => { results := [.lit (.bool true)], args := [d] }
  | _ => none }
def fnTokenLifeRow : OpenClaim := { program := "ytcfhnhhgnophhaa", sum := "ef22929226b62f04a6fab871e6b570b7124808f0ccf0f674127178cd1528ca13", func := "loop.example/g00705/laws.FnTokenLife", spec := "fnTokenLife", inPlace := ["internal/bytealg.IndexByteString"], unfollowed := true, recurses := true, apart := false }
def FnTokenLifeSaid : Prop := fnTokenLifeRow.holds Try.pinned (OpenSpec.ofChange fnTokenLifeSpec)

/-- ITS FALSE NEIGHBOUR: 'it returns false'. Refute it at one input. -/
def fnTokenLifeWrong : ChangeSpec := { name := "fnTokenLife", fn := fun _ => fun
  | [d] => { results := [.lit (.bool false)], args := [d] }
  | _ => none }
def FnTokenLifeWrongFalsely : Prop := fnTokenLifeRow.holds Try.pinned (OpenSpec.ofChange fnTokenLifeWrong)

/- THE SECOND FORM. 'bulk': how many values and letters a reading holds, each counted each time it is reached (what is shared counts as often as it is met; a slice's spare places count too). A statement '..UptoSaid' is the law's where the arguments, and the package variables that the reading takes, are together of bulk at most 1048576: NARROWER than '..Said'. Prove '..Said' where nothing that the law and all that it calls make is longer than what came in: it says more and counts as full. Else prove '..UptoSaid'. A law counts once. -/
mutual
def uptoBulk {H : Type} : DataW H → Nat
  | .lit (.string bytes) => bytes.length + 1
  | .lit _ => 1
  | .nil => 1
  | .ptr d => uptoBulk d + 1
  | .slice elems spare => uptoBulkAll elems + uptoBulkAll spare + 1
  | .agg parts => uptoBulkAll parts + 1
  | .iface _ d => uptoBulk d + 1
  | .map entries => uptoBulkEntries entries + 1
  | .held _ => 1
def uptoBulkAll {H : Type} : List (DataW H) → Nat
  | [] => 0
  | d :: r => uptoBulk d + uptoBulkAll r
def uptoBulkEntries {H : Type} : List (Lit × DataW H) → Nat
  | [] => 0
  | x :: r => uptoBulkEntry x + uptoBulkEntries r
def uptoBulkEntry {H : Type} : Lit × DataW H → Nat
  | (.string bytes, d) => bytes.length + uptoBulk d + 1
  | (_, d) => uptoBulk d + 1
 end
def uptoSmall : (H : Type) → List (DataW H) → Bool := fun _ ds => decide (uptoBulkAll ds ≤ 1048576)
def OpenSpec.upto (s : _root_.Go.ChangeSpec) : _root_.Go.OpenSpec := { _root_.Go.OpenSpec.ofChange s with cond := some uptoSmall }

/-- 'laws.FnSweep', WHERE WHAT IT READS IS OF BULK AT MOST 1048576: true; the input reads as it did. -/
def fnSweepUptoRow : OpenClaim := { program := "ytcfhnhhgnophhaa", sum := "ef22929226b62f04a6fab871e6b570b7124808f0ccf0f674127178cd1528ca13", func := "loop.example/g00705/laws.FnSweep", spec := "fnSweep", inPlace := ["internal/bytealg.IndexByteString"], unfollowed := true, recurses := true, apart := false, narrowed := true }
def FnSweepUptoSaid : Prop := fnSweepUptoRow.holds Try.pinned (OpenSpec.upto fnSweepSpec)

/-- 'laws.FnFamily', WHERE WHAT IT READS IS OF BULK AT MOST 1048576: true; the input reads as it did. -/
def fnFamilyUptoRow : OpenClaim := { program := "ytcfhnhhgnophhaa", sum := "ef22929226b62f04a6fab871e6b570b7124808f0ccf0f674127178cd1528ca13", func := "loop.example/g00705/laws.FnFamily", spec := "fnFamily", inPlace := ["internal/bytealg.IndexByteString"], unfollowed := true, recurses := true, apart := false, narrowed := true }
def FnFamilyUptoSaid : Prop := fnFamilyUptoRow.holds Try.pinned (OpenSpec.upto fnFamilySpec)

/-- 'laws.FnTokenLife', WHERE WHAT IT READS IS OF BULK AT MOST 1048576: true; the input reads as it did. -/
def fnTokenLifeUptoRow : OpenClaim := { program := "ytcfhnhhgnophhaa", sum := "ef22929226b62f04a6fab871e6b570b7124808f0ccf0f674127178cd1528ca13", func := "loop.example/g00705/laws.FnTokenLife", spec := "fnTokenLife", inPlace := ["internal/bytealg.IndexByteString"], unfollowed := true, recurses := true, apart := false, narrowed := true }
def FnTokenLifeUptoSaid : Prop := fnTokenLifeUptoRow.holds Try.pinned (OpenSpec.upto fnTokenLifeSpec)

end Rows
end Go.Proofs.Ytcfhnhhgnophhaa
