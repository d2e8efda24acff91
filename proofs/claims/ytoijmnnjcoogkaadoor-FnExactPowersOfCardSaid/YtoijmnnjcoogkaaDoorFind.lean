/- FindToken, both sides. -/
import Derived.Test.YtoijmnnjcoogkaaDoorPkPure
import Derived.Test.YtoijmnnjcoogkaaDoorDepth
import Derived.Test.YtoijmnnjcoogkaaDoorCopyTok
import Derived.Test.YtoijmnnjcoogkaaDoorNil
set_option linter.unusedSimpArgs false
set_option linter.unusedVariables false
set_option maxRecDepth 20000
namespace Go.Proofs.YtoijmnnjcoogkaaDoor
open Go.RowKit
theorem own_Token_none (w : World) (S : Nat → Prop) : TokenR.Own w S [.int .i64 0, .int .i64 0, .slice none 0 0, .int .i64 0, .int .i64 0, .int .i64 0, .int .i64 0] noToken :=
  of_own_Token (x := noToken) (S0 := fun _ => False) (SlOwn.nil _ _ _ _) (fun _ h => h.elim)
theorem own_Token_row {w : World} {lo : Nat} {t : Token} {D : Option Addr} {d : Nat} (ho : w.ownsRow lo 9 1 (.slice D t.Names.length d) t.Names.length (t.Names.map strV)) (hs : ∀ s ∈ t.Names, s.size ≤ 9223372036854775807) :
    TokenR.Own w (InR lo w.heap.size) [.int .i64 t.Id, .int .i64 t.Parent, .slice D t.Names.length d, .int .i64 t.Made, .int .i64 t.Ends, .int .i64 t.Limit, .int .i64 t.Uses] t :=
  of_own_Token (of_own_in_StringS ho hs) (fun _ h => h)
end Go.Proofs.YtoijmnnjcoogkaaDoor
