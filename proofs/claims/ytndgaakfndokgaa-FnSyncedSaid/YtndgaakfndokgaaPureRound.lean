/- Records that are printed and read again, frames that are scanned: plain data. -/
import Derived.Test.YtndgaakfndokgaaPureDecSame
import Derived.Test.YtndgaakfndokgaaPureScan
set_option linter.unusedSimpArgs false
set_option linter.unusedVariables false
set_option maxRecDepth 20000
namespace Go.Proofs.Ytndgaakfndokgaa
open Go.RowKit
theorem unzig_zig (x : Int) : unzig (zig x) = x := by unfold unzig zig; split <;> split <;> omega
theorem byte_nat {n : Nat} (h : n < 256) : (UInt8.ofNat n).toNat = n := by simp; omega
theorem valB_numB (u : Nat) : valB (numB u) = u := by
  induction u using Nat.strongRecOn with
  | _ u ih =>
    rcases Nat.lt_or_ge u 128 with h | h
    · rw [numB_small h, valB, valB, byte_nat (by omega)]; omega
    · rw [numB_more h, valB, ih (u / 128) (by omega), byte_nat (by omega)]; omega
theorem numB_shape (u : Nat) : ∃ bs l, numB u = bs ++ [l] ∧ (∀ x ∈ bs, 128 ≤ x.toNat) ∧ l.toNat < 128 := by
  induction u using Nat.strongRecOn with
  | _ u ih =>
    rcases Nat.lt_or_ge u 128 with h | h
    · exact ⟨[], UInt8.ofNat u, by rw [numB_small h]; rfl, by simp, by rw [byte_nat (by omega)]; exact h⟩
    · obtain ⟨bs, l, e, h1, h2⟩ := ih (u / 128) (by omega)
      refine ⟨UInt8.ofNat (128 + u % 128) :: bs, l, by rw [numB_more h, e]; rfl, fun x hx => ?_, h2⟩
      rcases List.mem_cons.1 hx with h3 | h3
      · rw [h3, byte_nat (by omega)]; omega
      · exact h1 x h3
theorem takeG_done {b rest bs : List UInt8} {l : UInt8} {a : Nat} {x : Int} (hn : numB (zig x) = bs ++ [l]) (h1 : ∀ x ∈ bs, 128 ≤ x.toNat) (h2 : l.toNat < 128) (hx1 : -1099511627776 ≤ x) (hx2 : x ≤ 1099511627776) (hb : b.drop a = bs ++ ([l] ++ rest)) : ∀ f i, i ≤ bs.length → bs.length < i + f → takeG answerS b a f i = (x, ((a + bs.length + 1 : Nat) : Int), true)
  | 0, i, hi, hf => by omega
  | f + 1, i, hi, hf => by
    have hg : b[a + i]? = (bs ++ ([l] ++ rest))[i]? := by rw [← hb, List.getElem?_drop]
    rcases Nat.eq_or_lt_of_le hi with he | hlt
    · subst he
      rw [List.getElem?_append_right (Nat.le_refl _), Nat.sub_self] at hg
      have hg' : b[a + bs.length]? = some l := by rw [hg]; rfl
      rw [takeG_stop hg' h2]
      have ht : (b.drop a).take bs.length = bs := by rw [hb]; exact List.take_left
      rw [ht]
      unfold answerS
      have hv : unzig (valB (bs ++ [l])) = x := by rw [← hn, valB_numB, unzig_zig]
      rw [hv, if_pos (by rw [putB_in (withinB_iff.2 ⟨hx1, hx2⟩), hn])]
    · rw [List.getElem?_append_left hlt, List.getElem?_eq_getElem hlt] at hg
      rw [takeG_go hg (h1 _ (List.getElem_mem hlt))]
      exact takeG_done hn h1 h2 hx1 hx2 hb f (i + 1) hlt (by omega)
theorem takeAt_done {b rest : List UInt8} {a : Nat} {x : Int} (hx1 : -1099511627776 ≤ x) (hx2 : x ≤ 1099511627776) (hb : b.drop a = numB (zig x) ++ rest) : takeAt b a = (x, ((a + (numB (zig x)).length : Nat) : Int), true) := by
  obtain ⟨bs, l, hn, h1, h2⟩ := numB_shape (zig x)
  have hlen := zigB_short hx1 hx2
  rw [hn] at hb hlen ⊢
  have hlt : a < b.length := by
    have := congrArg List.length hb
    simp only [List.length_drop, List.length_append, List.length_cons] at this
    omega
  rw [List.length_append, List.length_singleton] at hlen ⊢
  rw [List.append_assoc] at hb
  rw [takeAt_in hlt, takeG_done hn h1 h2 hx1 hx2 hb 6 0 (Nat.zero_le _) (by omega)]
  rfl
theorem drop_more {α : Type} {b u v : List α} {a : Nat} (h : b.drop a = u ++ v) : b.drop (a + u.length) = v := by rw [← List.drop_drop, h, List.drop_left]
theorem goNums_done {b rest : List UInt8} : ∀ (xs acc : List Int) (a : Nat), (∀ x ∈ xs, -1099511627776 ≤ x ∧ x ≤ 1099511627776) → b.drop a = numsB xs ++ rest → goNums b xs.length acc a = some (acc ++ xs, ((a + (numsB xs).length : Nat) : Int))
  | [], acc, a, _, _ => by simp [goNums, numsB]
  | x :: xs, acc, a, hx, hb => by
    have e : numsB (x :: xs) = numB (zig x) ++ numsB xs := by simp [numsB]
    rw [e, List.append_assoc] at hb
    have hx0 := hx x (List.mem_cons_self ..)
    rw [List.length_cons, goNums, takeAt_done hx0.1 hx0.2 hb]
    simp only
    rw [goNums_done xs (acc ++ [x]) _ (fun y hy => hx y (List.mem_cons_of_mem _ hy)) (drop_more hb), e, List.length_append, List.append_assoc, Nat.add_assoc]
    rfl
theorem goTexts_done {b rest : List UInt8} : ∀ (xs acc : List ByteArray) (a : Nat), (∀ s ∈ xs, s.size ≤ 300) → b.drop a = textsB xs ++ rest → goTexts b xs.length acc a = some (acc ++ xs, ((a + (textsB xs).length : Nat) : Int))
  | [], acc, a, _, _ => by simp [goTexts, textsB]
  | s :: xs, acc, a, hx, hb => by
    have e : textsB (s :: xs) = numB (zig (s.size : Int)) ++ (s.data.toList ++ textsB xs) := by simp [textsB, textB]
    rw [e, List.append_assoc] at hb
    have hx0 := hx s (List.mem_cons_self ..)
    have hl : s.data.toList.length = s.size := rfl
    rw [List.length_cons, goTexts, takeAt_done (by omega) (by omega) hb]
    have hb2 := drop_more hb
    rw [List.append_assoc] at hb2
    have hlen := congrArg List.length hb2
    simp only [List.length_drop, List.length_append] at hlen
    have hlen0 := congrArg List.length hb
    simp only [List.length_drop, List.length_append] at hlen0
    have hpos := (numB_len (zig (s.size : Int))).1
    simp only
    rw [withinB_iff.2 (by omega)]
    simp only [Int.toNat_natCast]
    have hc : chunk b (a + (numB (zig (s.size : Int))).length) s.size = s := by
      unfold chunk
      rw [hb2, ← hl, List.take_left]
    rw [hc]
    have hb3 := drop_more hb2
    rw [hl] at hb3
    rw [show ((a + (numB (zig (s.size : Int))).length : Nat) : Int) + (s.size : Int) = ((a + (numB (zig (s.size : Int))).length + s.size : Nat) : Int) by omega]
    rw [goTexts_done xs (acc ++ [s]) _ (fun y hy => hx y (List.mem_cons_of_mem _ hy)) hb3, e, List.length_append, List.length_append, hl, List.append_assoc]
    simp only [Nat.add_assoc]
    rfl
theorem encOk_rec {r : Record} (h : encOk r = true) : recOk r = true ∧ (encList r).length ≤ 4000 := by
  unfold encOk at h
  cases h2 : recOk r
  · rw [h2] at h; cases h
  · rw [h2] at h; exact ⟨rfl, by simpa using h⟩
theorem dec_app {r : Record} (h : encOk r = true) (suf : List UInt8) : dec false (encList r ++ suf) = match withinB ((encList r ++ suf).length) 3 4000 with
    | true => fin4 false (encList r ++ suf) r ((encList r).length : Nat)
    | false => none := by
  obtain ⟨hr, -⟩ := encOk_rec h
  obtain ⟨k0, k1, hn, ht, hxs, hss⟩ := recOk_parts hr
  have hb : (encList r ++ suf).drop 1 = numB (zig (r.Nums.length : Int)) ++ (numsB r.Nums ++ (numB (zig (r.Texts.length : Int)) ++ (textsB r.Texts ++ suf))) := by
    unfold encList encHead
    simp
  have hlen : (encList r).length = 1 + (numB (zig (r.Nums.length : Int))).length + (numsB r.Nums).length + (numB (zig (r.Texts.length : Int))).length + (textsB r.Texts).length := by
    unfold encList encHead
    simp only [List.length_append, List.length_cons]
    omega
  have hk : headI (encList r ++ suf) = r.Kind := by
    unfold headI encList encHead
    simp only [List.cons_append, List.headD_cons]
    rw [byte_nat (by omega)]
    omega
  generalize encList r ++ suf = b at *
  have e1 := takeAt_done (a := 1) (by omega) (by omega) hb
  have hb1 := drop_more hb
  have e2 := goNums_done r.Nums [] _ hxs hb1
  have hb2 := drop_more hb1
  have e3 := takeAt_done (by omega) (by omega) hb2
  have hb3 := drop_more hb2
  have e4 := goTexts_done r.Texts [] _ hss hb3
  unfold dec
  show (match withinB b.length 3 4000 with | true => st1 false b (headI b) (takeAt b 1) | false => none) = _
  cases withinB b.length 3 4000
  · rfl
  · simp only
    rw [hk, show (1 : Int) = ((1 : Nat) : Int) from rfl, e1]
    simp only [st1, bad]
    rw [withinB_iff.2 (by omega)]
    simp only [Bool.not_true, Int.toNat_natCast]
    rw [e2]
    simp only [st2, List.nil_append]
    rw [e3]
    simp only [st3, bad]
    rw [withinB_iff.2 (by omega)]
    simp only [Bool.not_true, Int.toNat_natCast]
    rw [e4]
    simp only [st4, List.nil_append]
    rw [← hlen]
theorem enc_len {r : Record} (h : encOk r = true) : 3 ≤ (encList r).length ∧ (encList r).length ≤ 4000 := by
  refine ⟨?_, (encOk_rec h).2⟩
  unfold encList encHead
  simp only [List.length_append, List.length_cons]
  have h1 := (numB_len (zig (r.Nums.length : Int))).1
  have h2 := (numB_len (zig (r.Texts.length : Int))).1
  omega
/-- What was printed is read. -/
theorem dec_enc {r : Record} (h : encOk r = true) : decOk (encB r) = true ∧ decR (encB r) = r := by
  have h1 := dec_app h []
  rw [List.append_nil] at h1
  have h2 := enc_len h
  rw [withinB_iff.2 (by omega)] at h1
  simp only [fin4, decide_true, (encOk_rec h).1, Bool.and_self] at h1
  rw [encB_yes h]
  unfold decOk decR
  rw [h1]
  exact ⟨rfl, rfl⟩
/-- With one more byte there is none. -/
theorem dec_more {r : Record} (h : encOk r = true) (u : UInt8) : decOk (encB r ++ [u]) = false := by
  have h1 := dec_app h [u]
  rw [encB_yes h]
  unfold decOk
  rw [h1]
  cases withinB ((encList r ++ [u]).length) 3 4000
  · rfl
  · simp only [fin4]
    rw [decide_eq_false (by rw [List.length_append, List.length_singleton]; omega), Bool.false_and]
    rfl
/-- The frames of records, one after another. -/
def framesB (rs : List Record) : List UInt8 := rs.flatMap frameB
theorem framesB_cons (r : Record) (rs : List Record) : framesB (r :: rs) = frameB r ++ framesB rs := by simp [framesB]
theorem framesB_append (rs qs : List Record) : framesB (rs ++ qs) = framesB rs ++ framesB qs := by simp [framesB]
theorem frame_len {r : Record} (h : encOk r = true) : (frameB r).length = (encB r).length + 6 ∧ 3 ≤ (encB r).length ∧ (encB r).length ≤ 4000 := by
  have h2 := enc_len h
  rw [frameB_yes h, frameOf_len]
  rw [← encB_yes h] at h2
  exact ⟨rfl, h2.1, h2.2⟩
theorem getD_drop {b : List UInt8} {a : Nat} (i : Nat) : b.getD (a + i) 0 = (b.drop a).getD i 0 := by
  rw [List.getD_eq_getElem?_getD, List.getD_eq_getElem?_getD, List.getElem?_drop]
theorem head_two {b e t : List UInt8} {a : Nat} (he : e.length ≤ 4000) (hb : b.drop a = wideB e.length 2 ++ t) : headN b a = e.length := by
  unfold headN
  rw [getD_drop (b := b) (a := a) 1, show b.getD a 0 = (b.drop a).getD 0 0 from getD_drop (b := b) (a := a) 0, hb]
  simp only [wideB, Nat.pow_zero, Nat.pow_one, Nat.div_one, List.cons_append, List.getD_cons_zero, List.getD_cons_succ]
  rw [byte_nat (by omega), byte_nat (by omega)]
  omega
theorem frame_step {b rest : List UInt8} {a : Nat} {r : Record} (h : encOk r = true) (hb : b.drop a = frameB r ++ rest) : stepC b a = 0 ∧ decR (bodyB b a) = r ∧ headN b a + 6 = (frameB r).length ∧ a < b.length := by
  obtain ⟨l1, l2, l3⟩ := frame_len h
  have hlen := congrArg List.length hb
  simp only [List.length_drop, List.length_append] at hlen
  rw [frameB_yes h] at hb
  unfold frameOf at hb
  simp only [List.append_assoc] at hb
  have hd := dec_enc h
  generalize encB r = e at *
  have hh := head_two l3 hb
  have hb2 := drop_more hb
  rw [wideB_len] at hb2
  have hb3 := drop_more hb2
  have hbody : bodyB b a = e := by unfold bodyB; rw [hh, hb2, List.take_left]
  have htail : tailB b a = wideB (digN e) 4 := by
    unfold tailB
    rw [hh, hb3]
    have h4 := wideB_len (digN e) 4
    rw [List.take_append_of_le_length (by omega), List.take_of_length_le (by omega)]
  have hgood : goodAt b a = true := by
    unfold goodAt
    rw [hbody, htail, hd.1]
    simp
  exact ⟨step_yes (by omega) (by rw [hh]; exact withinB_iff.2 (by omega)) (by rw [hh]; omega) hgood, by rw [hbody]; exact hd.2, by rw [hh, l1], by omega⟩
theorem frame_torn {b : List UInt8} {a cut : Nat} {r : Record} (h : encOk r = true) (hc0 : 0 < cut) (hc : cut < (frameB r).length) (hb : b.drop a = (frameB r).take cut) : stepC b a = 1 ∧ a < b.length := by
  obtain ⟨l1, l2, l3⟩ := frame_len h
  have hlen := congrArg List.length hb
  simp only [List.length_drop, List.length_take] at hlen
  refine ⟨?_, by omega⟩
  by_cases h2 : cut < 2
  · exact step_short (by omega)
  · rw [frameB_yes h] at hb
    unfold frameOf at hb
    rw [List.append_assoc] at hb
    have hw := wideB_len (encB r).length 2
    rw [List.take_append, List.take_of_length_le (by omega)] at hb
    have hh := head_two l3 hb
    exact step_torn (by omega) (by rw [hh]; exact withinB_iff.2 (by omega)) (by rw [hh]; omega)
theorem scan_frames {b rest : List UInt8} : ∀ (rs : List Record) (f a : Nat) (acc : List Record), (∀ r ∈ rs, encOk r = true) → b.drop a = framesB rs ++ rest → scanG b (f + rs.length) a acc = scanG b f (a + (framesB rs).length) (acc ++ rs)
  | [], f, a, acc, _, _ => by simp [framesB]
  | r :: rs, f, a, acc, h, hb => by
    rw [framesB_cons, List.append_assoc] at hb
    obtain ⟨s1, s2, s3, s4⟩ := frame_step (h r (List.mem_cons_self ..)) hb
    rw [List.length_cons, ← Nat.add_assoc, scan_go s4 s1, s2, Nat.add_assoc a, s3]
    rw [scan_frames rs f _ _ (fun q hq => h q (List.mem_cons_of_mem _ hq)) (drop_more hb), framesB_cons, List.length_append, List.append_assoc, Nat.add_assoc]
    rfl
theorem frames_len : ∀ {rs : List Record}, (∀ r ∈ rs, encOk r = true) → rs.length ≤ (framesB rs).length
  | [], _ => Nat.zero_le _
  | r :: rs, h => by
    have h1 := frame_len (h r (List.mem_cons_self ..))
    have h2 := frames_len (rs := rs) (fun q hq => h q (List.mem_cons_of_mem _ hq))
    rw [framesB_cons, List.length_append, List.length_cons]
    omega
theorem scan_all {rs : List Record} (h : ∀ r ∈ rs, encOk r = true) (hl : (framesB rs).length ≤ 40000) : scanF (framesB rs) = (rs, (framesB rs).length, 0) := by
  rw [scanF_start hl]
  have h1 := frames_len h
  obtain ⟨f, hf⟩ : ∃ f, (framesB rs).length + 1 = (f + 1) + rs.length := ⟨(framesB rs).length - rs.length, by omega⟩
  rw [hf, scan_frames (rest := []) rs (f + 1) 0 [] h (by simp), Nat.zero_add, scan_end (Nat.le_refl _)]
  rfl
theorem scan_cut {rs : List Record} {r : Record} {cut : Nat} (h : ∀ r ∈ rs, encOk r = true) (hr : encOk r = true) (hc0 : 0 < cut) (hc : cut < (frameB r).length) (hl : (framesB rs ++ (frameB r).take cut).length ≤ 40000) : scanF (framesB rs ++ (frameB r).take cut) = (rs, (framesB rs).length, 1) := by
  rw [scanF_start hl]
  have h1 := frames_len h
  have hl2 : (framesB rs ++ (frameB r).take cut).length = (framesB rs).length + cut := by rw [List.length_append, List.length_take]; omega
  obtain ⟨f, hf⟩ : ∃ f, (framesB rs ++ (frameB r).take cut).length + 1 = (f + 1) + rs.length := ⟨(framesB rs).length + cut - rs.length, by omega⟩
  rw [hf, scan_frames (rest := (frameB r).take cut) rs (f + 1) 0 [] h (by simp), Nat.zero_add]
  have hd : (framesB rs ++ (frameB r).take cut).drop (framesB rs).length = (frameB r).take cut := by rw [List.drop_left]
  obtain ⟨t1, t2⟩ := frame_torn hr hc0 hc hd
  rw [scan_stop t2 t1 (by omega)]
  rfl
/-- Frames that are cut: some are whole, and one may be torn. -/
theorem frames_take : ∀ (rs : List Record) (m : Nat), m ≤ (framesB rs).length → ∃ j, j ≤ rs.length ∧ (framesB (rs.take j)).length ≤ m ∧ ((framesB rs).take m = framesB (rs.take j) ∨ ∃ r cut, rs[j]? = some r ∧ 0 < cut ∧ cut < (frameB r).length ∧ (framesB rs).take m = framesB (rs.take j) ++ (frameB r).take cut)
  | [], m, h => ⟨0, Nat.le_refl _, by simp [framesB], .inl (by simp [framesB])⟩
  | r :: rs, m, h => by
    rw [framesB_cons, List.length_append] at h
    by_cases h0 : m = 0
    · subst h0
      exact ⟨0, Nat.zero_le _, by simp [framesB], .inl (by simp [framesB])⟩
    by_cases h1 : m < (frameB r).length
    · refine ⟨0, Nat.zero_le _, by simp [framesB], .inr ⟨r, m, rfl, by omega, h1, ?_⟩⟩
      rw [framesB_cons, List.take_append_of_le_length (by omega)]
      simp [framesB]
    · obtain ⟨j, hj, hj2, hj3⟩ := frames_take rs (m - (frameB r).length) (by omega)
      refine ⟨j + 1, by rw [List.length_cons]; omega, ?_, ?_⟩
      · rw [List.take_succ_cons, framesB_cons, List.length_append]; omega
      · rw [framesB_cons, List.take_append, List.take_of_length_le (by omega), List.take_succ_cons, framesB_cons]
        rcases hj3 with h2 | ⟨q, cut, q1, q2, q3, q4⟩
        · left; rw [h2]
        · right; exact ⟨q, cut, by rw [List.getElem?_cons_succ]; exact q1, q2, q3, by rw [q4, List.append_assoc]⟩
end Go.Proofs.Ytndgaakfndokgaa
