/- ScanFrames, both sides, as the law asks. -/
import Derived.Test.YtndgaakfndokgaaPkScan
import Derived.Test.YtndgaakfndokgaaImplScan
set_option linter.unusedSimpArgs false
set_option linter.unusedVariables false
set_option maxRecDepth 20000
namespace Go.Proofs.Ytndgaakfndokgaa
open Go.RowKit
theorem impl_ScanFramesL (v_b : Value) (b : List UInt8) (w : World) (hr_b : SlRd byteR w w.heap.size v_b b) (hm_b : szList byteR b ≤ 1048576) :
    Calls Try.prog 14 #[v_b] w fun e w' => ∃ v, e = .returned (.tuple #[v, .int .i64 ((scanF b).2.1 : Nat), .int .i64 (scanF b).2.2]) ∧ SlOwn RecordR 27 w' (InR w.heap.size w'.heap.size) v (scanF b).1 ∧ Below w.heap.size w w' := by
  obtain ⟨A, c, rfl⟩ := hr_b.form
  obtain ⟨-, hr, hc, hc2⟩ := rd_ByteS hr_b
  rw [sz_ByteS] at hm_b
  have HS := Lib.hid (impl_scanFrames A c b w hr hc hc2 hm_b)
  generalize scanF b = R at *
  obtain ⟨L, a, code⟩ := R
  go_enter Try.func14, Try.ntmps14
  go_wp2_with fail
  refine HS.out.mono ?_
  rintro e w1 ⟨v, rfl, ho, hb1⟩
  obtain ⟨D, d, rfl⟩ := SlOwn.form (_root_.id ho)
  go_wp2
  go_ret3
  exact ⟨_, rfl, ho, hb1⟩
end Go.Proofs.Ytndgaakfndokgaa
