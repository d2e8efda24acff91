/- What a ring keeps while it is rotated: plain data. -/
import Derived.Test.YtlncnicpiadaaaaTrim
import Derived.Test.YtlncnicpiadaaaaImplWrap
set_option linter.unusedSimpArgs false
set_option linter.unusedVariables false
set_option maxRecDepth 20000
namespace Go.Proofs.Ytlncnicpiadaaaa
open Go.RowKit
theorem mask_mask (K N : Nat) (xs : List UInt8) : maskB K N (maskB K N xs) = xs := by
  apply List.ext_getElem?
  intro i
  by_cases h : i < xs.length
  · have h1 := mask_at (K := K) (N := N) (List.getElem?_eq_getElem h)
    rw [mask_at h1, List.getElem?_eq_getElem h, ← UInt8.xor_assoc, UInt8.xor_self, UInt8.zero_xor]
  · rw [List.getElem?_eq_none (by rw [mask_len, mask_len]; omega), List.getElem?_eq_none (by omega)]
theorem open_gen {R : KeyRing} {v : Int} {N K j : Nat} {xs : List UInt8} (hok : ringOk R = true) (hv : v = R.First + j) (hj : R.Secrets[j]? = some (K : Int)) (hN : N ≤ 1099511627776) (hl : xs.length ≤ 2000) :
    openOk R ⟨v, N, maskB K N xs, tagL K N (maskB K N xs)⟩ = true ∧ openB R ⟨v, N, maskB K N xs, tagL K N (maskB K N xs)⟩ = xs := by
  have hjl := (List.getElem?_eq_some_iff.1 hj).1
  have hver : verOk R ⟨v, N, maskB K N xs, tagL K N (maskB K N xs)⟩ = true := by
    unfold verOk
    exact withinB_iff.2 (by simp only; omega)
  have hkey : keyAt R v = K := by
    unfold keyAt
    rw [show (v - R.First).toNat = j by omega, hj]
    rfl
  have hbox : boxOk K ⟨N, maskB K N xs, tagL K N (maskB K N xs)⟩ = true := by
    rw [boxOk_tag (keyOk_of hN) (by rw [mask_len]; exact hl)]
    simp
  refine ⟨?_, ?_⟩
  · rw [openOk_box hok hver]
    simp only [hkey, Cipher.box]
    exact hbox
  · rw [openB_box hok hver]
    simp only [hkey, Cipher.box]
    rw [boxB_ok hbox, mask_mask]
def Keeps (R : KeyRing) (last : Int) (K i : Nat) : Prop := ringOk R = true ∧ R.First ≤ 999000 + i ∧ R.First + R.Secrets.length = last + i + 1 ∧ ∃ j : Nat, last = R.First + j ∧ R.Secrets[j]? = some (K : Int)
theorem Keeps.start {r : KeyRing} (h : ringOk r = true) (hf : r.First ≤ 999000) : Keeps r (r.First + ((r.Secrets.length : Int) - 1)) (lastK r) 0 := by
  obtain ⟨k, K, h1, h2, h3, h4⟩ := last_key h
  exact ⟨h, by omega, by omega, k, by omega, by rw [h4]; exact h2⟩
theorem Keeps.rot {R : KeyRing} {last key : Int} {K i : Nat} (h : Keeps R last K i) (hi : i < 11) (hk : keyOk key = true) : Keeps (rotR R key) last K (i + 1) := by
  obtain ⟨h1, h2, h3, j, h4, h5⟩ := h
  have hok := rotR_ok h1 hk (by omega)
  have hjl := (List.getElem?_eq_some_iff.1 h5).1
  obtain ⟨p1, p2, p3, p4, -⟩ := ringOk_parts h1
  refine ⟨hok, ?_, ?_, ?_⟩
  · by_cases hn : 12 ≤ R.Secrets.length
    · rw [rotR_full hn]; simp only; omega
    · rw [rotR_more hn]; simp only; omega
  · by_cases hn : 12 ≤ R.Secrets.length
    · rw [rotR_full hn]; simp only [List.length_drop, List.length_append, List.length_singleton]; omega
    · rw [rotR_more hn]; simp only [List.length_append, List.length_singleton]; omega
  · by_cases hn : 12 ≤ R.Secrets.length
    · rw [rotR_full hn]
      refine ⟨j - 1, by simp only; omega, ?_⟩
      simp only [List.getElem?_drop]
      rw [show 1 + (j - 1) = j by omega, List.getElem?_append_left hjl]
      exact h5
    · rw [rotR_more hn]
      exact ⟨j, h4, by rw [List.getElem?_append_left hjl]; exact h5⟩
theorem Keeps.opens {R : KeyRing} {last : Int} {K i N : Nat} {xs : List UInt8} (h : Keeps R last K i) (hN : N ≤ 1099511627776) (hl : xs.length ≤ 2000) :
    openOk R ⟨last, N, maskB K N xs, tagL K N (maskB K N xs)⟩ = true ∧ openB R ⟨last, N, maskB K N xs, tagL K N (maskB K N xs)⟩ = xs := by
  obtain ⟨h1, -, -, j, h4, h5⟩ := h
  exact open_gen h1 h4 h5 hN hl
/-- The ring trimmed to its last key opens what the last key sealed. -/
theorem open_small {R : KeyRing} {k N : Nat} {xs : List UInt8} (hok : ringOk R = true) (hk : R.Secrets.length = k + 1) (hf : R.First + k ≤ 1000000) (hN : N ≤ 1099511627776) (hl : xs.length ≤ 2000) :
    ringOk ⟨R.First + k, R.Secrets.drop k⟩ = true ∧ openOk ⟨R.First + k, R.Secrets.drop k⟩ ⟨R.First + k, N, maskB (lastK R) N xs, tagL (lastK R) N (maskB (lastK R) N xs)⟩ = true ∧ openB ⟨R.First + k, R.Secrets.drop k⟩ ⟨R.First + k, N, maskB (lastK R) N xs, tagL (lastK R) N (maskB (lastK R) N xs)⟩ = xs := by
  obtain ⟨k', K, e1, e2, e3, e4⟩ := last_key hok
  obtain rfl : k' = k := by omega
  obtain ⟨p1, p2, p3, p4, p5⟩ := ringOk_parts hok
  have hok2 : ringOk ⟨R.First + k', R.Secrets.drop k'⟩ = true := by
    unfold ringOk
    simp only [Bool.and_eq_true, withinB_iff, List.all_eq_true, List.length_drop]
    exact ⟨by omega, by omega, fun x hx => p5 x (List.mem_of_mem_drop hx)⟩
  have := open_gen (R := ⟨R.First + k', R.Secrets.drop k'⟩) (v := R.First + k') (j := 0) (K := K) hok2 (by simp) (by simp only [List.getElem?_drop, Nat.add_zero]; exact e2) hN hl
  rw [e4]
  exact ⟨hok2, this⟩
theorem Reads.out {S : Nat → Prop} {w w' : World} {B : Nat} {A : Option Addr} {xs : List Value} (h : Reads w B A xs) (ho : Out S w w') (hB : B ≤ w.heap.size) (hS : ∀ b off, A = some ⟨b, off, none⟩ → b < B → ¬ S b) : Reads w' B A xs := fun h0 => by
  obtain ⟨b, off, e, hb, hc⟩ := h h0
  refine ⟨b, off, e, hb, fun j u hu => ?_⟩
  rw [← hc j u hu]
  exact World.cell?_of_block (w := w) (ho.block b (by omega) (hS b off e hb))
theorem Reads.some {w : World} {B : Nat} {A : Option Addr} {xs : List Value} (h : Reads w B A xs) (h0 : 0 < xs.length) : ∃ b off, A = some ⟨b, off, none⟩ ∧ b < B := by
  obtain ⟨b, off, e, hb, -⟩ := h h0
  exact ⟨b, off, e, hb⟩
theorem slrd_out {S : Nat → Prop} {w w' : World} {A : Option Addr} {n c : Nat} {xs : List Int} (h : SlRd intR w w.heap.size (.slice A n c) xs) (ho : Out S w w') (hS : ∀ b off, A = some ⟨b, off, none⟩ → b < w.heap.size → ¬ S b) : SlRd intR w' w'.heap.size (.slice A n c) xs := by
  obtain ⟨rfl, h1, h2, h3⟩ := rd_IntS h
  exact of_rd_IntS ((h1.out ho (Nat.le_refl _) hS).more ho.size) h2 h3
end Go.Proofs.Ytlncnicpiadaaaa
