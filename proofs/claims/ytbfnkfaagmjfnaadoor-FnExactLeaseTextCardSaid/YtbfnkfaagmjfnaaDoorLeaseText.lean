/- LeaseText, both sides. -/
import Derived.Test.YtbfnkfaagmjfnaaDoorNum
import Derived.Test.YtbfnkfaagmjfnaaDoorLeaseS2
import Derived.Test.YtbfnkfaagmjfnaaDoorShelfItoa
import Derived.Shelf.Strconv.Itoa3
import Derived.Lib.AppendIntMem
set_option linter.unusedSimpArgs false
set_option linter.unusedVariables false
set_option maxRecDepth 20000
namespace Go.Proofs.YtbfnkfaagmjfnaaDoor
open Go.RowKit
/-- The table of the powers of ten reads as the library lays it. -/
def Pow10Is (w : World) : Prop := Lib.TabIs Tryd.prog w "internal/strconv.uint64pow10" .u64 Lib.pow10Tab
theorem Pow10Is.keep {w w' : World} (h : Pow10Is w) (hb : Below w.heap.size w w') : Pow10Is w' := by
  exact Lib.tabBelow_of_tabIs h w' hb
theorem strconv_Itoa (n : Int) (w : World) (h1 : -9223372036854775808 ≤ n) (h2 : n ≤ 9223372036854775807) (ht : Pow10Is w) :
    Calls Tryd.prog 30 #[.int .i64 n] w fun e w' => e = .returned (.string (numS n)) ∧ Below w.heap.size w w' := by
  have hk : Calls Tryd.prog 30 #[.int .i64 n] w fun e w' => e = .returned (.string ⟨(Lib.itoa n).toArray⟩) ∧ ∃ k os, w' = Go.Sort.grow (w.drewN k) os := Any.strconv_Itoa laysM171 n h1 h2 w ht
  refine hk.mono ?_
  rintro e w' ⟨rfl, k, os, rfl⟩
  exact ⟨rfl, Lib.below_grow _ w (Nat.le_refl _) k os⟩
def leaseT (l : Lease) : ByteArray := l.Path ++ ⟨#[32]⟩ ++ numS l.Id ++ ⟨#[32]⟩ ++ numS l.Token ++ ⟨#[32]⟩ ++ numS l.Ends
theorem numS_size {n : Int} (h1 : -9223372036854775808 ≤ n) (h2 : n ≤ 9223372036854775807) : (numS n).size ≤ 100 := by
  rcases Int.lt_trichotomy n 0 with h | rfl | h
  · obtain ⟨K, rfl⟩ : ∃ K : Nat, n = -(K : Int) := ⟨n.natAbs, by omega⟩
    rw [numS_neg (by omega)]
    have := digs_short 20 K [] (by omega)
    show (45 :: digs K []).toArray.size ≤ 100
    simp only [List.size_toArray, List.length_cons]
    simp only [List.length_nil] at this
    omega
  · rw [numS_zero]; decide
  · obtain ⟨K, rfl⟩ : ∃ K : Nat, n = (K : Int) := ⟨n.toNat, by omega⟩
    rw [numS_pos (by omega)]
    have := digs_short 20 K [] (by omega)
    show (digs K []).toArray.size ≤ 100
    simp only [List.size_toArray]
    simp only [List.length_nil] at this
    omega
def I64 (n : Int) : Prop := -9223372036854775808 ≤ n ∧ n ≤ 9223372036854775807
set_option maxHeartbeats 1600000 in
theorem impl_LeaseTextL (cs : List Value) (l : Lease) (w : World) (h : LeaseR.Rd w w.heap.size cs l) (hm : LeaseR.sz l ≤ 1048576) (h1 : I64 l.Id) (h2 : I64 l.Token) (h3 : I64 l.Ends) (ht : Pow10Is w) :
    Calls Tryd.prog 12 #[.agg cs.toArray] w fun e w' => e = .returned (.string (leaseT l)) ∧ Below w.heap.size w w' := by
  obtain ⟨rfl, hs⟩ := rd_Lease h
  rw [sz_Lease] at hm
  have hz1 := numS_size h1.1 h1.2
  have hz2 := numS_size h2.1 h2.2
  have hz3 := numS_size h3.1 h3.2
  have BX := Blk.new w 26 #[.int .i64 l.Id, .int .i64 l.Token, .string l.Path, .int .i64 l.Made, .int .i64 l.Ends, .int .i64 l.Limit]
  have hbW : Below w.heap.size w (w.alloc (.cells #[.int .i64 l.Id, .int .i64 l.Token, .string l.Path, .int .i64 l.Made, .int .i64 l.Ends, .int .i64 l.Limit] 26)) := by (repeat (first | (with_reducible exact Below.refl _ _) | (with_reducible assumption) | ((with_reducible refine Below.setCell ?_ ?_ _); rotate_left; focus (first | omega | (simp; done) | (simp; omega))) | ((with_reducible refine Below.alloc ?_ ?_ _); rotate_left; focus (first | omega | (simp; done) | (simp; omega))) | (with_reducible refine Below.drew ?_) | (with_reducible refine below_drewN ?_ _) | (refine Below.trans ?_ (Below.mono (by with_reducible assumption) (by (first | omega | (simp; done) | (simp; omega)))))))
  have hzW := hbW.size
  have HA := Lib.hid (fun (n' : Lt (w.alloc (.cells #[.int .i64 l.Id, .int .i64 l.Token, .string l.Path, .int .i64 l.Made, .int .i64 l.Ends, .int .i64 l.Limit] 26))) => strconv_Itoa l.Id (later _ n') h1.1 h1.2 (ht.keep (hbW.trans ((later_below _ n').mono hzW))))
  have HB := Lib.hid (fun (n' : Lt (w.alloc (.cells #[.int .i64 l.Id, .int .i64 l.Token, .string l.Path, .int .i64 l.Made, .int .i64 l.Ends, .int .i64 l.Limit] 26))) => strconv_Itoa l.Token (later _ n') h2.1 h2.2 (ht.keep (hbW.trans ((later_below _ n').mono hzW))))
  have HC := Lib.hid (fun (n' : Lt (w.alloc (.cells #[.int .i64 l.Id, .int .i64 l.Token, .string l.Path, .int .i64 l.Made, .int .i64 l.Ends, .int .i64 l.Limit] 26))) => strconv_Itoa l.Ends (later _ n') h3.1 h3.2 (ht.keep (hbW.trans ((later_below _ n').mono hzW))))
  have HD : Hid (leaseT l = l.Path ++ ⟨#[32]⟩ ++ numS l.Id ++ ⟨#[32]⟩ ++ numS l.Token ++ ⟨#[32]⟩ ++ numS l.Ends) := Lib.hid rfl
  generalize leaseT l = lt at *
  generalize numS l.Id = s1 at *
  generalize numS l.Token = s2 at *
  generalize numS l.Ends = s3 at *
  go_enter Tryd.func12, Tryd.ntmps12
  go_wp2
  generalize w.alloc (.cells #[.int .i64 l.Id, .int .i64 l.Token, .string l.Path, .int .i64 l.Made, .int .i64 l.Ends, .int .i64 l.Limit] 26) = W at *
  have q0 := BX.later
  refine wp_region_later (by kernel_rfl) (by kernel_rfl) ?_
  repeat (first | go_big_quiet_step ((go_at_call 30; first | (with_reducible exact Calls.later_of (HA.out _)) | (with_reducible exact Calls.later_of (HB.out _)) | (with_reducible exact Calls.later_of (HC.out _)))) | quiet_step ((go_at_call 30; first | (with_reducible exact Calls.later_of (HA.out _)) | (with_reducible exact Calls.later_of (HB.out _)) | (with_reducible exact Calls.later_of (HC.out _)))))
  refine wpQuiet_nil ?_
  intro w3 hb3
  go_wp2
  go_ret
  exact ⟨by rw [HD.out]; rfl, by (repeat (first | (with_reducible exact Below.refl _ _) | (with_reducible assumption) | ((with_reducible refine Below.setCell ?_ ?_ _); rotate_left; focus (first | omega | (simp; done) | (simp; omega))) | ((with_reducible refine Below.alloc ?_ ?_ _); rotate_left; focus (first | omega | (simp; done) | (simp; omega))) | (with_reducible refine Below.drew ?_) | (with_reducible refine below_drewN ?_ _) | (refine Below.trans ?_ (Below.mono (by with_reducible assumption) (by (first | omega | (simp; done) | (simp; omega)))))))⟩
set_option maxHeartbeats 1600000 in
theorem spec_LeaseTextL (cs : List Value) (l : Lease) (w : World) (h : LeaseR.Rd w w.heap.size cs l) (hm : LeaseR.sz l ≤ 1048576) (h1 : I64 l.Id) (h2 : I64 l.Token) (h3 : I64 l.Ends) :
    Calls Tryd.prog 10 #[.agg cs.toArray] w fun e w' => e = .returned (.string (leaseT l)) ∧ Below w.heap.size w w' := by
  obtain ⟨rfl, hs⟩ := rd_Lease h
  rw [sz_Lease] at hm
  have hz1 := numS_size h1.1 h1.2
  have hz2 := numS_size h2.1 h2.2
  have hz3 := numS_size h3.1 h3.2
  have BX := Blk.new w 26 #[.int .i64 l.Id, .int .i64 l.Token, .string l.Path, .int .i64 l.Made, .int .i64 l.Ends, .int .i64 l.Limit]
  have hbW : Below w.heap.size w (w.alloc (.cells #[.int .i64 l.Id, .int .i64 l.Token, .string l.Path, .int .i64 l.Made, .int .i64 l.Ends, .int .i64 l.Limit] 26)) := by (repeat (first | (with_reducible exact Below.refl _ _) | (with_reducible assumption) | ((with_reducible refine Below.setCell ?_ ?_ _); rotate_left; focus (first | omega | (simp; done) | (simp; omega))) | ((with_reducible refine Below.alloc ?_ ?_ _); rotate_left; focus (first | omega | (simp; done) | (simp; omega))) | (with_reducible refine Below.drew ?_) | (with_reducible refine below_drewN ?_ _) | (refine Below.trans ?_ (Below.mono (by with_reducible assumption) (by (first | omega | (simp; done) | (simp; omega)))))))
  have hzW := hbW.size
  have HA := Lib.hid (fun (n' : Lt (w.alloc (.cells #[.int .i64 l.Id, .int .i64 l.Token, .string l.Path, .int .i64 l.Made, .int .i64 l.Ends, .int .i64 l.Limit] 26))) => spec_l01Num l.Id (later _ n') h1.1 h1.2)
  have HB := Lib.hid (fun (n' : Lt (w.alloc (.cells #[.int .i64 l.Id, .int .i64 l.Token, .string l.Path, .int .i64 l.Made, .int .i64 l.Ends, .int .i64 l.Limit] 26))) => spec_l01Num l.Token (later _ n') h2.1 h2.2)
  have HC := Lib.hid (fun (n' : Lt (w.alloc (.cells #[.int .i64 l.Id, .int .i64 l.Token, .string l.Path, .int .i64 l.Made, .int .i64 l.Ends, .int .i64 l.Limit] 26))) => spec_l01Num l.Ends (later _ n') h3.1 h3.2)
  have HD : Hid (leaseT l = l.Path ++ ⟨#[32]⟩ ++ numS l.Id ++ ⟨#[32]⟩ ++ numS l.Token ++ ⟨#[32]⟩ ++ numS l.Ends) := Lib.hid rfl
  generalize leaseT l = lt at *
  generalize numS l.Id = s1 at *
  generalize numS l.Token = s2 at *
  generalize numS l.Ends = s3 at *
  go_enter Tryd.func10, Tryd.ntmps10
  go_wp2
  generalize w.alloc (.cells #[.int .i64 l.Id, .int .i64 l.Token, .string l.Path, .int .i64 l.Made, .int .i64 l.Ends, .int .i64 l.Limit] 26) = W at *
  have q0 := BX.later
  refine wp_region_later (by kernel_rfl) (by kernel_rfl) ?_
  repeat (first | go_big_quiet_step ((go_at_call 29; first | (with_reducible exact Calls.later_of (HA.out _)) | (with_reducible exact Calls.later_of (HB.out _)) | (with_reducible exact Calls.later_of (HC.out _)))) | quiet_step ((go_at_call 29; first | (with_reducible exact Calls.later_of (HA.out _)) | (with_reducible exact Calls.later_of (HB.out _)) | (with_reducible exact Calls.later_of (HC.out _)))))
  refine wpQuiet_nil ?_
  intro w3 hb3
  go_wp2
  go_ret
  exact ⟨by rw [HD.out]; rfl, by (repeat (first | (with_reducible exact Below.refl _ _) | (with_reducible assumption) | ((with_reducible refine Below.setCell ?_ ?_ _); rotate_left; focus (first | omega | (simp; done) | (simp; omega))) | ((with_reducible refine Below.alloc ?_ ?_ _); rotate_left; focus (first | omega | (simp; done) | (simp; omega))) | (with_reducible refine Below.drew ?_) | (with_reducible refine below_drewN ?_ _) | (refine Below.trans ?_ (Below.mono (by with_reducible assumption) (by (first | omega | (simp; done) | (simp; omega)))))))⟩
end Go.Proofs.YtbfnkfaagmjfnaaDoor
