/-
  No cell of these rows narrows 'for every input' (looked for: loops, veiled, ifaces, maps, wideKeys, modest, calm, conditions, laid).
  DERIVED. THE GIVEN ROWS OF THIS SEAT. 6 by the template 'for every input the law returns true; each argument reads behind the call as it read before'; 0 by the template 'total and deterministic' (their statements: YtpilgfcdffledaaTotals.lean).
  GIVEN WITH THE SEED: the statements are not yours to turn. If you find one false, say at which input.
  Laid BY PROGRAM, IN A SANDBOX (cutbox-rows.mjs): the forced cells as the released guide's own fill.sh prints them over the translation 4f647a5b22b4dcdc… (all of the seat's roots in one cut). By AI agents, Wed Nov 11 2026. No macro, syntax, notation, axiom, sorry.
-/
import Derived.Test.YtpilgfcdffledaaChecked
import GoSem.Claim
import GoSem.ClaimJoined
import GoSem.ClaimMapViews
import Derived.JoinedTies
import Derived.KernelRfl
namespace Go.Proofs.Ytpilgfcdffledaa
/- THE CELL 'sum', in the pinned program and in every row, IS THE sha256 OF THE DUMP (.gsa) THAT YtpilgfcdffledaaProg.lean LOADS. Nothing in Lean hashes anything: it is a label: what it is worth is what the hold of that sum in a sandbox is worth. -/
noncomputable def Try.pinned : Pinned := { name := "ytpilgfcdffledaa", sum := "4f647a5b22b4dcdca757761085796555f429653a69205a5550110b3f20a395b6", checked := Try.checked }
namespace Rows
def none {H : Type} : Left H := { results := [], args := [] }

/-- 'laws.FnExactEncodeRecord': WHATEVER THE INPUT: true; the input reads as it did. -/
def fnExactEncodeRecordSpec : ChangeSpec := { name := "fnExactEncodeRecord", fn := fun _ => fun
  | [d] => { results := [.lit (.bool true)], args := [d] }
  | _ => none }
def fnExactEncodeRecordRow : OpenClaim := { program := "ytpilgfcdffledaa", sum := "4f647a5b22b4dcdca757761085796555f429653a69205a5550110b3f20a395b6", func := "loop.example/g00705/laws.FnExactEncodeRecord", spec := "fnExactEncodeRecord", unfollowed := true, recurses := true, apart := false }
def FnExactEncodeRecordSaid : Prop := fnExactEncodeRecordRow.holds Try.pinned (OpenSpec.ofChange fnExactEncodeRecordSpec)

/-- ITS FALSE NEIGHBOUR: 'it returns false'. Refute it at one input. -/
def fnExactEncodeRecordWrong : ChangeSpec := { name := "fnExactEncodeRecord", fn := fun _ => fun
  | [d] => { results := [.lit (.bool false)], args := [d] }
  | _ => none }
def FnExactEncodeRecordWrongFalsely : Prop := fnExactEncodeRecordRow.holds Try.pinned (OpenSpec.ofChange fnExactEncodeRecordWrong)

/-- 'laws.FnExactFrameRecord': WHATEVER THE INPUT: true; the input reads as it did. -/
def fnExactFrameRecordSpec : ChangeSpec := { name := "fnExactFrameRecord", fn := fun _ => fun
  | [d] => { results := [.lit (.bool true)], args := [d] }
  | _ => none }
def fnExactFrameRecordRow : OpenClaim := { program := "ytpilgfcdffledaa", sum := "4f647a5b22b4dcdca757761085796555f429653a69205a5550110b3f20a395b6", func := "loop.example/g00705/laws.FnExactFrameRecord", spec := "fnExactFrameRecord", unfollowed := true, recurses := true, apart := false }
def FnExactFrameRecordSaid : Prop := fnExactFrameRecordRow.holds Try.pinned (OpenSpec.ofChange fnExactFrameRecordSpec)

/-- ITS FALSE NEIGHBOUR: 'it returns false'. Refute it at one input. -/
def fnExactFrameRecordWrong : ChangeSpec := { name := "fnExactFrameRecord", fn := fun _ => fun
  | [d] => { results := [.lit (.bool false)], args := [d] }
  | _ => none }
def FnExactFrameRecordWrongFalsely : Prop := fnExactFrameRecordRow.holds Try.pinned (OpenSpec.ofChange fnExactFrameRecordWrong)

/-- 'laws.FnExactDecodeRecord': WHATEVER THE INPUT: true; the input reads as it did. -/
def fnExactDecodeRecordSpec : ChangeSpec := { name := "fnExactDecodeRecord", fn := fun _ => fun
  | [d] => { results := [.lit (.bool true)], args := [d] }
  | _ => none }
def fnExactDecodeRecordRow : OpenClaim := { program := "ytpilgfcdffledaa", sum := "4f647a5b22b4dcdca757761085796555f429653a69205a5550110b3f20a395b6", func := "loop.example/g00705/laws.FnExactDecodeRecord", spec := "fnExactDecodeRecord", unfollowed := true, recurses := true, apart := false }
def FnExactDecodeRecordSaid : Prop := fnExactDecodeRecordRow.holds Try.pinned (OpenSpec.ofChange fnExactDecodeRecordSpec)

/-- ITS FALSE NEIGHBOUR: 'it returns false'. Refute it at one input. -/
def fnExactDecodeRecordWrong : ChangeSpec := { name := "fnExactDecodeRecord", fn := fun _ => fun
  | [d] => { results := [.lit (.bool false)], args := [d] }
  | _ => none }
def FnExactDecodeRecordWrongFalsely : Prop := fnExactDecodeRecordRow.holds Try.pinned (OpenSpec.ofChange fnExactDecodeRecordWrong)

/-- 'laws.FnExactAppendLog': WHATEVER THE INPUT: true; the input reads as it did. -/
def fnExactAppendLogSpec : ChangeSpec := { name := "fnExactAppendLog", fn := fun _ => fun
  | [d1, d2] => { results := [.lit (.bool true)], args := [d1, d2] }
  | _ => none }
def fnExactAppendLogRow : OpenClaim := { program := "ytpilgfcdffledaa", sum := "4f647a5b22b4dcdca757761085796555f429653a69205a5550110b3f20a395b6", func := "loop.example/g00705/laws.FnExactAppendLog", spec := "fnExactAppendLog", unfollowed := true, recurses := true, apart := false }
def FnExactAppendLogSaid : Prop := fnExactAppendLogRow.holds Try.pinned (OpenSpec.ofChange fnExactAppendLogSpec)

/-- ITS FALSE NEIGHBOUR: 'it returns false'. Refute it at one input. -/
def fnExactAppendLogWrong : ChangeSpec := { name := "fnExactAppendLog", fn := fun _ => fun
  | [d1, d2] => { results := [.lit (.bool false)], args := [d1, d2] }
  | _ => none }
def FnExactAppendLogWrongFalsely : Prop := fnExactAppendLogRow.holds Try.pinned (OpenSpec.ofChange fnExactAppendLogWrong)

/-- 'laws.FnExactScanFrames': WHATEVER THE INPUT: true; the input reads as it did. -/
def fnExactScanFramesSpec : ChangeSpec := { name := "fnExactScanFrames", fn := fun _ => fun
  | [d] => { results := [.lit (.bool true)], args := [d] }
  | _ => none }
def fnExactScanFramesRow : OpenClaim := { program := "ytpilgfcdffledaa", sum := "4f647a5b22b4dcdca757761085796555f429653a69205a5550110b3f20a395b6", func := "loop.example/g00705/laws.FnExactScanFrames", spec := "fnExactScanFrames", unfollowed := true, recurses := true, apart := false }
def FnExactScanFramesSaid : Prop := fnExactScanFramesRow.holds Try.pinned (OpenSpec.ofChange fnExactScanFramesSpec)

/-- ITS FALSE NEIGHBOUR: 'it returns false'. Refute it at one input. -/
def fnExactScanFramesWrong : ChangeSpec := { name := "fnExactScanFrames", fn := fun _ => fun
  | [d] => { results := [.lit (.bool false)], args := [d] }
  | _ => none }
def FnExactScanFramesWrongFalsely : Prop := fnExactScanFramesRow.holds Try.pinned (OpenSpec.ofChange fnExactScanFramesWrong)

/-- 'laws.FnExactReadLog': WHATEVER THE INPUT: true; the input reads as it did. -/
def fnExactReadLogSpec : ChangeSpec := { name := "fnExactReadLog", fn := fun _ => fun
  | [d] => { results := [.lit (.bool true)], args := [d] }
  | _ => none }
def fnExactReadLogRow : OpenClaim := { program := "ytpilgfcdffledaa", sum := "4f647a5b22b4dcdca757761085796555f429653a69205a5550110b3f20a395b6", func := "loop.example/g00705/laws.FnExactReadLog", spec := "fnExactReadLog", unfollowed := true, recurses := true, apart := false }
def FnExactReadLogSaid : Prop := fnExactReadLogRow.holds Try.pinned (OpenSpec.ofChange fnExactReadLogSpec)

/-- ITS FALSE NEIGHBOUR: 'it returns false'. Refute it at one input. -/
def fnExactReadLogWrong : ChangeSpec := { name := "fnExactReadLog", fn := fun _ => fun
  | [d] => { results := [.lit (.bool false)], args := [d] }
  | _ => none }
def FnExactReadLogWrongFalsely : Prop := fnExactReadLogRow.holds Try.pinned (OpenSpec.ofChange fnExactReadLogWrong)

/- THE SECOND FORM. 'bulk': how many values and letters a reading holds, each counted each time it is reached (what is shared counts as often as it is met; a slice's spare places count too). A statement '..UptoSaid' is the law's where the arguments, and the package variables that the reading takes, are together of bulk at most 1048576: NARROWER than '..Said'. Prove '..Said' where nothing that the law and all that it calls make is longer than what came in: it says more and counts as full. Else prove '..UptoSaid'. A law counts once. -/
mutual
def uptoBulk {H : Type} : DataW H → Nat
  | .lit (.string bytes) => bytes.length + 1
  | .lit _ => 1
  | .nil => 1
  | .ptr d => uptoBulk d + 1
  | .slice elems spare => uptoBulkAll elems + uptoBulkAll spare + 1
  | .agg parts => uptoBulkAll parts + 1
  | .iface _ d => uptoBulk d + 1
  | .map entries => uptoBulkEntries entries + 1
  | .held _ => 1
def uptoBulkAll {H : Type} : List (DataW H) → Nat
  | [] => 0
  | d :: r => uptoBulk d + uptoBulkAll r
def uptoBulkEntries {H : Type} : List (Lit × DataW H) → Nat
  | [] => 0
  | x :: r => uptoBulkEntry x + uptoBulkEntries r
def uptoBulkEntry {H : Type} : Lit × DataW H → Nat
  | (.string bytes, d) => bytes.length + uptoBulk d + 1
  | (_, d) => uptoBulk d + 1
 end
def uptoSmall : (H : Type) → List (DataW H) → Bool := fun _ ds => decide (uptoBulkAll ds ≤ 1048576)
def OpenSpec.upto (s : _root_.Go.ChangeSpec) : _root_.Go.OpenSpec := { _root_.Go.OpenSpec.ofChange s with cond := some uptoSmall }

/-- 'laws.FnExactEncodeRecord', WHERE WHAT IT READS IS OF BULK AT MOST 1048576: true; the input reads as it did. -/
def fnExactEncodeRecordUptoRow : OpenClaim := { program := "ytpilgfcdffledaa", sum := "4f647a5b22b4dcdca757761085796555f429653a69205a5550110b3f20a395b6", func := "loop.example/g00705/laws.FnExactEncodeRecord", spec := "fnExactEncodeRecord", unfollowed := true, recurses := true, apart := false, narrowed := true }
def FnExactEncodeRecordUptoSaid : Prop := fnExactEncodeRecordUptoRow.holds Try.pinned (OpenSpec.upto fnExactEncodeRecordSpec)

/-- 'laws.FnExactFrameRecord', WHERE WHAT IT READS IS OF BULK AT MOST 1048576: true; the input reads as it did. -/
def fnExactFrameRecordUptoRow : OpenClaim := { program := "ytpilgfcdffledaa", sum := "4f647a5b22b4dcdca757761085796555f429653a69205a5550110b3f20a395b6", func := "loop.example/g00705/laws.FnExactFrameRecord", spec := "fnExactFrameRecord", unfollowed := true, recurses := true, apart := false, narrowed := true }
def FnExactFrameRecordUptoSaid : Prop := fnExactFrameRecordUptoRow.holds Try.pinned (OpenSpec.upto fnExactFrameRecordSpec)

/-- 'laws.FnExactDecodeRecord', WHERE WHAT IT READS IS OF BULK AT MOST 1048576: true; the input reads as it did. -/
def fnExactDecodeRecordUptoRow : OpenClaim := { program := "ytpilgfcdffledaa", sum := "4f647a5b22b4dcdca757761085796555f429653a69205a5550110b3f20a395b6", func := "loop.example/g00705/laws.FnExactDecodeRecord", spec := "fnExactDecodeRecord", unfollowed := true, recurses := true, apart := false, narrowed := true }
def FnExactDecodeRecordUptoSaid : Prop := fnExactDecodeRecordUptoRow.holds Try.pinned (OpenSpec.upto fnExactDecodeRecordSpec)

/-- 'laws.FnExactAppendLog', WHERE WHAT IT READS IS OF BULK AT MOST 1048576: true; the input reads as it did. -/
def fnExactAppendLogUptoRow : OpenClaim := { program := "ytpilgfcdffledaa", sum := "4f647a5b22b4dcdca757761085796555f429653a69205a5550110b3f20a395b6", func := "loop.example/g00705/laws.FnExactAppendLog", spec := "fnExactAppendLog", unfollowed := true, recurses := true, apart := false, narrowed := true }
def FnExactAppendLogUptoSaid : Prop := fnExactAppendLogUptoRow.holds Try.pinned (OpenSpec.upto fnExactAppendLogSpec)

/-- 'laws.FnExactScanFrames', WHERE WHAT IT READS IS OF BULK AT MOST 1048576: true; the input reads as it did. -/
def fnExactScanFramesUptoRow : OpenClaim := { program := "ytpilgfcdffledaa", sum := "4f647a5b22b4dcdca757761085796555f429653a69205a5550110b3f20a395b6", func := "loop.example/g00705/laws.FnExactScanFrames", spec := "fnExactScanFrames", unfollowed := true, recurses := true, apart := false, narrowed := true }
def FnExactScanFramesUptoSaid : Prop := fnExactScanFramesUptoRow.holds Try.pinned (OpenSpec.upto fnExactScanFramesSpec)

/-- 'laws.FnExactReadLog', WHERE WHAT IT READS IS OF BULK AT MOST 1048576: true; the input reads as it did. -/
def fnExactReadLogUptoRow : OpenClaim := { program := "ytpilgfcdffledaa", sum := "4f647a5b22b4dcdca757761085796555f429653a69205a5550110b3f20a395b6", func := "loop.example/g00705/laws.FnExactReadLog", spec := "fnExactReadLog", unfollowed := true, recurses := true, apart := false, narrowed := true }
def FnExactReadLogUptoSaid : Prop := fnExactReadLogUptoRow.holds Try.pinned (OpenSpec.upto fnExactReadLogSpec)

end Rows
end Go.Proofs.Ytpilgfcdffledaa
