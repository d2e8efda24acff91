/- Policies as plain data: when they are valid; the powers of a token. -/
import Derived.Test.YtoijmnnjcoogkaaDoorPkPolS
import Derived.Test.YtoijmnnjcoogkaaDoorPath
import Derived.Test.YtoijmnnjcoogkaaDoorSpecPath
import Derived.Test.YtoijmnnjcoogkaaDoorAreNames
import Derived.Test.YtoijmnnjcoogkaaDoorPkUse
import Derived.Test.YtoijmnnjcoogkaaDoorPkPure
set_option linter.unusedSimpArgs false
set_option linter.unusedVariables false
set_option maxRecDepth 20000
namespace Go.Proofs.YtoijmnnjcoogkaaDoor
open Go.RowKit
def ruleOk (r : Rule) : Bool := globOk r.Glob && withinB r.Caps 0 63
def ruleLt (x y : Rule) : Bool := ltS x.Glob y.Glob
def rulesOk (rs : List Rule) : Bool := okAll ruleOk ruleLt rs rs.length
def polOk (p : Policy) : Bool := rulesOk p.Rules && (nameOk p.Name && decide (p.Rules.length ≤ 20))
def polLt (x y : Policy) : Bool := ltS x.Name y.Name
def polsOk (ps : List Policy) : Bool := decide (ps.length ≤ 200) && okAll polOk polLt ps ps.length
theorem rulesOk_bad {rs : List Rule} {k : Nat} (hk : k < rs.length) (h : okAt ruleOk ruleLt rs k = false) : rulesOk rs = false := okAll_false hk h
theorem polOk_rules {p : Policy} (h : rulesOk p.Rules = false) : polOk p = false := by unfold polOk; rw [h]; rfl
theorem polOk_name {p : Policy} (h : nameOk p.Name = false) : polOk p = false := by unfold polOk; rw [h, Bool.false_and, Bool.and_false]
theorem polOk_long {p : Policy} (h : ¬ p.Rules.length ≤ 20) : polOk p = false := by unfold polOk; rw [decide_eq_false h, Bool.and_false, Bool.and_false]
theorem polOk_done {p : Policy} (h : rulesOk p.Rules = true) : polOk p = (nameOk p.Name && decide (p.Rules.length ≤ 20)) := by unfold polOk; rw [h]; rfl
theorem polOk_last {p : Policy} (h : nameOk p.Name = true) (h2 : p.Rules.length ≤ 20) : polOk p = rulesOk p.Rules := by unfold polOk; rw [h, decide_eq_true h2]; simp
theorem ruleOk_glob {r : Rule} (h : globOk r.Glob = false) : ruleOk r = false := by unfold ruleOk; rw [h]; rfl
theorem ruleOk_caps {r : Rule} (h : withinB r.Caps 0 63 = false) : ruleOk r = false := by unfold ruleOk; rw [h, Bool.and_false]
theorem ruleOk_yes {r : Rule} (h : globOk r.Glob = true) (h2 : withinB r.Caps 0 63 = true) : ruleOk r = true := by unfold ruleOk; rw [h, h2]; rfl
theorem polsOk_bad {ps : List Policy} {k : Nat} (hk : k < ps.length) (h : okAt polOk polLt ps k = false) : polsOk ps = false := by unfold polsOk; rw [okAll_false hk h, Bool.and_false]
theorem polsOk_done {ps : List Policy} (h : okAll polOk polLt ps ps.length = true) : polsOk ps = decide (ps.length ≤ 200) := by unfold polsOk; rw [h, Bool.and_true]
theorem polsOk_long {ps : List Policy} (h : ¬ ps.length ≤ 200) : polsOk ps = false := by unfold polsOk; rw [decide_eq_false h, Bool.false_and]
/-- The policies that a token has. -/
def hasPol (t : Token) (p : Policy) : Bool := hasT t.Names p.Name
def powL (t : Token) (ps : List Policy) : List Policy := ps.filter (hasPol t)
def powB (ts : List Token) (id : Int) (ps : List Policy) : Bool := findOk ts id && polsOk ps
def powR (ts : List Token) (id : Int) (ps : List Policy) : List Policy := match powB ts id ps with | true => powL (findTok ts id) ps | false => []
theorem powB_find {ts : List Token} {id : Int} {ps : List Policy} (h : findOk ts id = false) : powB ts id ps = false ∧ powR ts id ps = [] := by
  have h1 : powB ts id ps = false := by unfold powB; rw [h]; rfl
  exact ⟨h1, by unfold powR; rw [h1]⟩
theorem powB_pols {ts : List Token} {id : Int} {ps : List Policy} (h : polsOk ps = false) : powB ts id ps = false ∧ powR ts id ps = [] := by
  have h1 : powB ts id ps = false := by unfold powB; rw [h, Bool.and_false]
  exact ⟨h1, by unfold powR; rw [h1]⟩
theorem powB_yes {ts : List Token} {id : Int} {ps : List Policy} (h : findOk ts id = true) (h2 : polsOk ps = true) : powB ts id ps = true ∧ powR ts id ps = powL (findTok ts id) ps := by
  have h1 : powB ts id ps = true := by unfold powB; rw [h, h2]; rfl
  exact ⟨h1, by unfold powR; rw [h1]⟩
theorem powL_sz (t : Token) (ps : List Policy) : szList PolicyR (powL t ps) ≤ szList PolicyR ps := by
  unfold powL
  induction ps with
  | nil => exact Nat.le_refl _
  | cons p ps ih =>
    unfold szList at ih ⊢
    rw [List.filter_cons]
    split
    · simp only [List.length_cons, List.map_cons, List.sum_cons] at ih ⊢; omega
    · simp only [List.length_cons, List.map_cons, List.sum_cons] at ih ⊢; omega
theorem powR_sz (ts : List Token) (id : Int) (ps : List Policy) : szList PolicyR (powR ts id ps) ≤ szList PolicyR ps := by
  unfold powR
  cases powB ts id ps
  · simp [szList]
  · exact powL_sz _ _
theorem powL_snoc_yes {t : Token} {ps : List Policy} {k : Nat} {p : Policy} (h : ps[k]? = some p) (hp : hasPol t p = true) : powL t (ps.take (k + 1)) = powL t (ps.take k) ++ [p] := by
  rw [take_snoc h]
  unfold powL
  rw [List.filter_append, List.filter_cons_of_pos hp, List.filter_nil]
theorem powL_snoc_no {t : Token} {ps : List Policy} {k : Nat} {p : Policy} (h : ps[k]? = some p) (hp : hasPol t p = false) : powL t (ps.take (k + 1)) = powL t (ps.take k) := by
  rw [take_snoc h]
  unfold powL
  rw [List.filter_append, List.filter_cons_of_neg (by rw [hp]; simp), List.filter_nil, List.append_nil]
/-- An element of a slice of rules, and of policies. -/
theorem rule_elem {w : World} {B n c k : Nat} {A : Option Addr} {rs : List Rule} {r : Rule} (h : SlRd RuleR w B (.slice A n c) rs) (hr : rs[k]? = some r) :
    ∃ b off, A = some ⟨b, off, none⟩ ∧ b < B ∧ r.Glob.size ≤ 9223372036854775807 ∧ w.cell? ⟨b, off + k * 2, none⟩ = some (.string r.Glob) ∧ w.cell? ⟨b, off + k * 2 + 1, none⟩ = some (.int .i64 r.Caps) := by
  obtain ⟨b, off, cs, rfl, hab, hrd, hcell⟩ := h.elem hr
  obtain ⟨rfl, hs⟩ := rd_Rule hrd
  exact ⟨b, off, rfl, hab, hs, hcell 0 _ rfl, hcell 1 _ rfl⟩
theorem pol_elem {w : World} {B n c k : Nat} {A : Option Addr} {ps : List Policy} {p : Policy} (h : SlRd PolicyR w B (.slice A n c) ps) (hp : ps[k]? = some p) :
    ∃ b off Ar cr, A = some ⟨b, off, none⟩ ∧ b < B ∧ p.Name.size ≤ 9223372036854775807 ∧ SlRd RuleR w B (.slice Ar p.Rules.length cr) p.Rules ∧ w.cell? ⟨b, off + k * 2, none⟩ = some (.string p.Name) ∧ w.cell? ⟨b, off + k * 2 + 1, none⟩ = some (.slice Ar p.Rules.length cr) := by
  obtain ⟨b, off, cs, rfl, hab, hrd, hcell⟩ := h.elem hp
  obtain ⟨v0, rfl, q0, hs⟩ := rd_Policy hrd
  obtain ⟨Ar, cr, rfl⟩ := q0.form
  exact ⟨b, off, Ar, cr, rfl, hab, hs, q0, hcell 0 _ rfl, hcell 1 _ rfl⟩
end Go.Proofs.YtoijmnnjcoogkaaDoor
