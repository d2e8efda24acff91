/- Boxes and key rings, as plain data. -/
import Derived.Test.YtlncnicpiadaaaaCipher2
import Derived.Test.YtlncnicpiadaaaaKeyRing2
import Derived.Test.YtlncnicpiadaaaaDigest
import Derived.Test.YtlncnicpiadaaaaImplWithin
set_option linter.unusedSimpArgs false
set_option linter.unusedVariables false
set_option maxRecDepth 20000
namespace Go.Proofs.Ytlncnicpiadaaaa
open Go.RowKit
/-- The state of the stream of a key and a nonce, behind i bytes. -/
def hAt (K N : Nat) : Nat → Nat
  | 0 => (K % 2147483629 + 2 * (N % 2147483629) + 1) % 2147483629
  | i + 1 => (48271 * hAt K N i + K % 65521 + 1) % 2147483629
theorem hAt_lt (K N i : Nat) : hAt K N i < 2147483629 := by cases i <;> (unfold hAt; omega)
theorem hAt_zero (K N : Nat) : ((hAt K N 0 : Nat) : Int) = ((K : Int) % 2147483629 + 2 * ((N : Int) % 2147483629) + 1) % 2147483629 := by unfold hAt; omega
theorem hAt_succ (K N i : Nat) : ((hAt K N (i + 1) : Nat) : Int) = (48271 * ((hAt K N i : Nat) : Int) + (K : Int) % 65521 + 1) % 2147483629 := by rw [hAt]; omega
def strB (K N i : Nat) : UInt8 := UInt8.ofNat (hAt K N (i + 1) / 1024)
theorem strB_nat (K N i : Nat) : ((strB K N i).toNat : Int) = ((hAt K N (i + 1) : Nat) : Int) / 1024 % 256 := by
  unfold strB
  simp
def streamB (K N n : Nat) : List UInt8 := (List.range n).map (strB K N)
theorem stream_len (K N n : Nat) : (streamB K N n).length = n := by simp [streamB]
theorem stream_at {K N n k : Nat} (h : k < n) : (streamB K N n)[k]? = some (strB K N k) := by simp [streamB, h]
theorem stream_take (K N n k : Nat) (h : k ≤ n) : (streamB K N n).take k = streamB K N k := by
  unfold streamB
  rw [← List.map_take, List.take_range, Nat.min_eq_left h]
def wideB (K : Nat) : List UInt8 := (List.range 8).map fun i => UInt8.ofNat (K / 2 ^ (8 * i))
theorem wide_len (K : Nat) : (wideB K).length = 8 := rfl
theorem wide_at {K k : Nat} (h : k < 8) : (wideB K)[k]? = some (UInt8.ofNat (K / 2 ^ (8 * k))) := by unfold wideB; rw [List.getElem?_map, List.getElem?_range h]; rfl
def tagL (K N : Nat) (data : List UInt8) : Int := digest (wideB K ++ wideB N ++ data)
def maskB (K N : Nat) (data : List UInt8) : List UInt8 := List.zipWith (fun s d => s ^^^ d) (streamB K N data.length) data
theorem mask_len (K N : Nat) (data : List UInt8) : (maskB K N data).length = data.length := by simp [maskB, stream_len]
theorem mask_at {K N k : Nat} {data : List UInt8} {d : UInt8} (h : data[k]? = some d) : (maskB K N data)[k]? = some (strB K N k ^^^ d) := by
  have hk := (List.getElem?_eq_some_iff.1 h).1
  unfold maskB
  rw [List.getElem?_zipWith, stream_at hk, h]
def keyOk (x : Int) : Bool := withinB x 0 1099511627776
theorem keyOk_nat {x : Int} (h : keyOk x = true) : ∃ K : Nat, x = K ∧ K ≤ 1099511627776 := by
  have := withinB_iff.1 h
  exact ⟨x.toNat, by omega, by omega⟩
def ringOk (r : KeyRing) : Bool := withinB r.First 1 1000000 && (withinB r.Secrets.length 1 12 && r.Secrets.all keyOk)
/-- Whether a box opens with a key that is in range. -/
def boxOk (K : Nat) (b : Box) : Bool := keyOk b.Nonce && (decide (b.Data.length ≤ 2000) && (tagL K b.Nonce.toNat b.Data == b.Tag))
def boxB (K : Nat) (b : Box) : List UInt8 := match boxOk K b with | true => maskB K b.Nonce.toNat b.Data | false => []
def verOk (r : KeyRing) (c : Cipher) : Bool := withinB c.Version r.First (r.First + r.Secrets.length - 1)
def keyAt (r : KeyRing) (v : Int) : Nat := ((r.Secrets[(v - r.First).toNat]?).getD 0).toNat
def openOk (r : KeyRing) (c : Cipher) : Bool := ringOk r && (verOk r c && boxOk (keyAt r c.Version) c.box)
def openB (r : KeyRing) (c : Cipher) : List UInt8 := match openOk r c with | true => maskB (keyAt r c.Version) c.Nonce.toNat c.Data | false => []
end Go.Proofs.Ytlncnicpiadaaaa
