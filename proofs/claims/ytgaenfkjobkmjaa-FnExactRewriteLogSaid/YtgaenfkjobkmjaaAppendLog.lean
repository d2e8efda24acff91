/- AppendLog, both sides. -/
import Derived.Test.YtgaenfkjobkmjaaFrameL
import Derived.Test.YtgaenfkjobkmjaaLog2
set_option linter.unusedSimpArgs false
set_option linter.unusedVariables false
set_option maxRecDepth 20000
namespace Go.Proofs.Ytgaenfkjobkmjaa
open Go.RowKit
def fitB (d : Disk) (n : Nat) : Bool := decide (d.Safe.length + d.Loose.length + n ≤ 40000)
def appB (d : Disk) (r : Record) : Bool := d.ok && (encOk r && fitB d (frameB r).length)
def appD (d : Disk) (r : Record) : Disk := match appB d r with | true => ⟨d.Safe, d.Loose ++ frameB r⟩ | false => d
theorem appD_yes {d : Disk} {r : Record} (h : appB d r = true) : appD d r = ⟨d.Safe, d.Loose ++ frameB r⟩ := by unfold appD; rw [h]
theorem appD_no {d : Disk} {r : Record} (h : appB d r = false) : appD d r = d := by unfold appD; rw [h]
theorem appD_sz (d : Disk) (r : Record) : DiskR.sz (appD d r) ≤ DiskR.sz d + 4006 := by
  cases h : appB d r
  · rw [appD_no h]; omega
  · have := frameB_le r
    rw [appD_yes h, sz_Disk, sz_Disk]; simp only [sz_ByteS, List.length_append]; omega
theorem ok_app (d : Disk) (b : List UInt8) : Disk.ok ⟨d.Safe, d.Loose ++ b⟩ = fitB d b.length := by unfold Disk.ok fitB; simp only [List.length_append, Nat.add_assoc]
theorem own_setCell_off {w : World} {base : Nat} {e : TypeId} {size n : Nat} {v : Value} {xs : List Value} (h : w.ownsRow base e size v n xs) {a : Addr} (ha : ∀ g, v.ownBlock = some g → g ≠ a.block) (u : Value) : (w.setCell a u).ownsRow base e size v n xs := by
  refine ⟨h.1, ?_⟩
  rcases h.2 with hn | ⟨g, cap, cur, rfl, h0, hg, rest⟩
  · exact .inl hn
  · exact .inr ⟨g, cap, cur, rfl, h0, by rw [Below.heap_setCell w a u g (ha g rfl)]; exact hg, rest⟩
end Go.Proofs.Ytgaenfkjobkmjaa
