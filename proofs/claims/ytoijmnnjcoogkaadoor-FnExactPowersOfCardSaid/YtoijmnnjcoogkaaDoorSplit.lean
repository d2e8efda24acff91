/- strings.Split at "/", strings.ContainsAny at "+*" over ASCII texts, strings.HasPrefix. -/
import Derived.Test.YtoijmnnjcoogkaaDoorShelf
import Derived.Test.YtoijmnnjcoogkaaDoorPurePath
import Derived.Shelf.Strings.Split
import Derived.Shelf.Strings.IndexAny
import Derived.Shelf.Strings.IndexAnyAll
set_option linter.unusedSimpArgs false
set_option linter.unusedVariables false
set_option maxRecDepth 20000
namespace Go.Proofs.YtoijmnnjcoogkaaDoor
open Go.RowKit
/-- The library's variable internal/bytealg.MaxLen holds some int. -/
def MaxLenInt (w : World) : Prop := ∃ m : Int, w.cell? ⟨0, 0, none⟩ = some (.int .i64 m)
theorem MaxLenInt.keep {w w' : World} (h : MaxLenInt w) (hb : Below w.heap.size w w') : MaxLenInt w' := by
  obtain ⟨m, hm⟩ := h
  exact ⟨m, (hb.cell (p := ⟨0, 0, none⟩) (World.block_lt_of_cell? _ _ hm)).trans hm⟩
theorem splitK_parts (c : UInt8) : ∀ l : List UInt8, Lib.splitK [c] 0 (l.count c) l = partsL c l
  | [] => rfl
  | b :: l => by
    have ih := splitK_parts c l
    cases hb : b == c
    · have hbc : (c == b) = false := by rw [Bool.eq_false_iff] at hb ⊢; intro h; exact hb (by rw [beq_iff_eq] at h ⊢; exact h.symm)
      rw [List.count_cons, hb, partsL, hb, ← ih]
      simp only [Bool.false_eq_true, if_false, Nat.add_zero]
      cases hn : l.count c with
      | zero => rfl
      | succ k =>
        have hp : List.isPrefixOf [c] (b :: l) = false := by simp [List.isPrefixOf, hbc]
        rw [Lib.splitK, Lib.splitK]
        have hi : Lib.index (b :: l) [c] = if Lib.index l [c] == -1 then -1 else Lib.index l [c] + 1 := by rw [Lib.index, hp]; rfl
        by_cases hm : Lib.index l [c] = -1
        · have h1 : (Lib.index l [c] == -1) = true := by rw [hm]; rfl
          rw [hi, h1]; rfl
        · have h1 : (Lib.index l [c] == -1) = false := by simpa using hm
          have h0 := Lib.index_ge l [c]
          obtain ⟨i, hie⟩ : ∃ i : Nat, Lib.index l [c] = i := ⟨(Lib.index l [c]).toNat, by omega⟩
          rw [hi, h1, hie]
          have h2 : (((i : Int) + 1) == -1) = false := by rw [beq_eq_false_iff_ne]; omega
          have h3 : (((i : Int)) == -1) = false := by rw [beq_eq_false_iff_ne]; omega
          have h4 : ((i : Int) + 1).toNat = i + 1 := by omega
          simp only [Bool.false_eq_true, if_false, h2, h3, h4, Int.toNat_natCast, Nat.add_zero, List.take_succ_cons, List.length_singleton, List.drop_succ_cons]
    · have hbc : b = c := by simpa using hb
      subst hbc
      rw [List.count_cons_self, partsL, hb, Lib.splitK]
      have hp : List.isPrefixOf [b] (b :: l) = true := by simp [List.isPrefixOf]
      have hi : Lib.index (b :: l) [b] = 0 := by rw [Lib.index, hp]; rfl
      rw [hi]
      simp [ih]
theorem baOf_back (x : ByteArray) : baOf x.data.toList = x := by cases x; rfl
theorem segs_split (s : ByteArray) : Lib.splitB ⟨#[47]⟩ 0 (Lib.countB s ⟨#[47]⟩) s = segsOf s := by
  have h := Lib.splitB_data ⟨#[47]⟩ 0 (Lib.countB s ⟨#[47]⟩) s
  have hc : Lib.countB s ⟨#[47]⟩ = s.data.toList.count 47 := Lib.count_one 47 s.data.toList
  have h2 : (Lib.splitB ⟨#[47]⟩ 0 (Lib.countB s ⟨#[47]⟩) s).map (·.data.toList) = partsL 47 s.data.toList := by rw [h, hc]; exact splitK_parts 47 _
  unfold segsOf
  rw [← h2, List.map_map]
  have : (baOf ∘ fun x : ByteArray => x.data.toList) = id := funext baOf_back
  rw [this, List.map_id]
theorem hi_string : (Tryd.prog.info? 9).map (fun i => (i.zero, i.size, i.bytes)) = some (some (.string ByteArray.empty), 1, 16) := by kernel_rfl
theorem strings_Split (s : ByteArray) (w : World) (hs : s.size ≤ 120) (hml : MaxLenInt w) :
    Calls Tryd.prog 69 #[.string s, .string ⟨#[47]⟩] w fun e w' => ∃ A c, e = .returned (.slice A (segsOf s).length c) ∧ Reads w' w'.heap.size A ((segsOf s).map strV) ∧ Below w.heap.size w w' := by
  obtain ⟨m, hm⟩ := hml
  have hk : Calls Tryd.prog 69 #[.string s, .string ⟨#[47]⟩] w fun e w' => e = .returned (.slice (some ⟨w.heap.size, 0, none⟩) (Lib.countB s ⟨#[47]⟩ + 1) (Lib.countB s ⟨#[47]⟩ + 1)) ∧ w' = w.alloc (.cells ((Lib.splitB ⟨#[47]⟩ 0 (Lib.countB s ⟨#[47]⟩) s).map Value.string).toArray 9) :=
    Any.strings_Split lays146 hi_string s ⟨#[47]⟩ m w (by omega) hm (by decide)
  have hl := Lib.splitB_all ⟨#[47]⟩ (by decide) 0 _ s rfl
  rw [segs_split] at hl hk
  refine hk.mono ?_
  rintro e w' ⟨rfl, rfl⟩
  refine ⟨_, _, by rw [hl], ?_, by (repeat (first | (with_reducible exact Below.refl _ _) | (with_reducible assumption) | ((with_reducible refine Below.setCell ?_ ?_ _); rotate_left; focus (first | omega | (simp; done) | (simp; omega))) | ((with_reducible refine Below.alloc ?_ ?_ _); rotate_left; focus (first | omega | (simp; done) | (simp; omega))) | (with_reducible refine Below.drew ?_) | (with_reducible refine below_drewN ?_ _) | (refine Below.trans ?_ (Below.mono (by with_reducible assumption) (by (first | omega | (simp; done) | (simp; omega)))))))⟩
  have hb : Blk (w.alloc (.cells ((segsOf s).map Value.string).toArray 9)) w.heap.size 9 ((segsOf s).map Value.string).toArray := by (repeat (first | (with_reducible assumption) | ((with_reducible refine Blk.new' ?_); focus (simp; done)) | (with_reducible refine Blk.alloc ?_ _) | (with_reducible refine Blk.drew ?_) | (with_reducible refine Blk.drewN ?_ _) | ((with_reducible refine Blk.far ?_ ?_ _); rotate_left; focus (first | omega | (simp; done) | (simp; omega))) | (refine Blk.keep ?_ (by with_reducible assumption)) | (refine Blk.below ?_ (by with_reducible assumption) (by (first | omega | (simp; done) | (simp; omega))))))
  have h5 := Reads.of_blk hb
  rw [show ((segsOf s).map Value.string).toArray.toList = (segsOf s).map strV from rfl] at h5
  exact h5
theorem any_index : ∀ l : List UInt8, decide (0 ≤ Lib.indexAny l [43, 42]) = l.any wildB
  | [] => rfl
  | b :: l => by
    have ih := any_index l
    rw [Lib.indexAny, List.any_cons, ← ih]
    have hg := Lib.indexAny_ge [43, 42] l
    have hc : List.contains [43, 42] b = wildB b := by show List.elem b [43, 42] = _; unfold wildB; simp only [List.elem]; cases b == 43 <;> cases b == 42 <;> rfl
    rw [hc]
    cases wildB b
    · by_cases hm : Lib.indexAny l [43, 42] = -1
      · simp [hm]
      · have h1 : (Lib.indexAny l [43, 42] == -1) = false := by simpa using hm
        simp only [Bool.false_eq_true, if_false, h1, Bool.false_or]
        congr 1
        apply propext
        omega
    · simp
end Go.Proofs.YtoijmnnjcoogkaaDoor
