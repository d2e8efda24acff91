/- Forests without some tokens: plain data. -/
import Derived.Test.YtialceppopjhaaaPureFind
import Derived.Test.YtialceppopjhaaaHas
set_option linter.unusedSimpArgs false
set_option linter.unusedVariables false
namespace Go.Proofs.Ytialceppopjhaaa
open Go.RowKit
def lessT (ts : List Token) (gone : List Int) : List Token := ts.filter (fun t => !hasB gone t.Id)
theorem lessT_gone {ts : List Token} {gone : List Int} {k : Nat} {t : Token} (h : ts[k]? = some t) (hx : hasB gone t.Id = true) : lessT (ts.take (k + 1)) gone = lessT (ts.take k) gone := by
  rw [take_snoc h]
  unfold lessT
  rw [List.filter_append, List.filter_cons_of_neg (by rw [hx]; simp), List.filter_nil, List.append_nil]
theorem lessT_kept {ts : List Token} {gone : List Int} {k : Nat} {t : Token} (h : ts[k]? = some t) (hx : hasB gone t.Id = false) : lessT (ts.take (k + 1)) gone = lessT (ts.take k) gone ++ [t] := by
  rw [take_snoc h]
  unfold lessT
  rw [List.filter_append, List.filter_cons_of_pos (by rw [hx]; rfl), List.filter_nil]
theorem lessT_len (ts : List Token) (gone : List Int) : (lessT ts gone).length ≤ ts.length := List.length_filter_le _ _
def wStep (p : Token → Bool) (st : List Token × List Int) (t : Token) : List Token × List Int := match p t || hasB st.2 t.Parent with
  | true => (st.1, st.2 ++ [t.Id])
  | false => (st.1 ++ [t], st.2)
def wFold (p : Token → Bool) (ts : List Token) : List Token × List Int := ts.foldl (wStep p) ([], [])
theorem wFold_snoc {p : Token → Bool} {ts : List Token} {k : Nat} {t : Token} (h : ts[k]? = some t) : wFold p (ts.take (k + 1)) = wStep p (wFold p (ts.take k)) t := by
  rw [take_snoc h]
  unfold wFold
  rw [List.foldl_append]
  rfl
theorem wStep_gone {p : Token → Bool} {st : List Token × List Int} {t : Token} (h : (p t || hasB st.2 t.Parent) = true) : wStep p st t = (st.1, st.2 ++ [t.Id]) := by unfold wStep; rw [h]
theorem wStep_kept {p : Token → Bool} {st : List Token × List Int} {t : Token} (h : (p t || hasB st.2 t.Parent) = false) : wStep p st t = (st.1 ++ [t], st.2) := by unfold wStep; rw [h]
end Go.Proofs.Ytialceppopjhaaa
