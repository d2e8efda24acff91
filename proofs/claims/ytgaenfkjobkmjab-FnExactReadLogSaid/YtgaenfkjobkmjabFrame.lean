/- Frames of records, both sides. -/
import Derived.Test.YtgaenfkjobkmjabSpecEncode
import Derived.Test.YtgaenfkjobkmjabWide
import Derived.Test.YtgaenfkjobkmjabDigest
import Derived.Test.YtgaenfkjobkmjabByteS2
set_option linter.unusedSimpArgs false
set_option linter.unusedVariables false
set_option maxRecDepth 20000
namespace Go.Proofs.Ytgaenfkjobkmjab
open Go.RowKit
def digN (b : List UInt8) : Nat := (digest b % 4294967296).toNat
theorem digN_cast (b : List UInt8) : ((digN b : Nat) : Int) = digest b % 4294967296 := by unfold digN; have := digest_bd b; omega
theorem digN_le (b : List UInt8) : digN b ≤ 4294967296 := by unfold digN; have := digest_bd b; omega
def frameOf (b : List UInt8) : List UInt8 := wideB b.length 2 ++ b ++ wideB (digN b) 4
def frameB (r : Record) : List UInt8 := match encOk r with | true => frameOf (encB r) | false => []
theorem frameB_yes {r : Record} (h : encOk r = true) : frameB r = frameOf (encB r) := by unfold frameB; rw [h]
theorem frameB_no {r : Record} (h : encOk r = false) : frameB r = [] := by unfold frameB; rw [h]
theorem frameOf_len (b : List UInt8) : (frameOf b).length = b.length + 6 := by unfold frameOf; rw [List.length_append, List.length_append, wideB_len, wideB_len]; omega
theorem frameB_le (r : Record) : (frameB r).length ≤ 4006 := by
  cases h : encOk r
  · rw [frameB_no h]; simp
  · rw [frameB_yes h, frameOf_len]; have := encB_le r; omega
end Go.Proofs.Ytgaenfkjobkmjab
