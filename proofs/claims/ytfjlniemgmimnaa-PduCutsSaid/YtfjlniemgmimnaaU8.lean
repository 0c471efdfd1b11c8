/- PDUs: what is laid is read again; bytes that are cut, or turned. -/
import Derived.Test.YtfjlniemgmimnaaU7
set_option linter.unusedVariables false
set_option linter.unusedSimpArgs false
set_option maxRecDepth 100000
namespace Go.Proofs.Ytfjlniemgmimnaa.Abs
open Go Go.RowKit
theorem take_getD {xs : List Int} {i n : Nat} (h : i < n) : (xs.take n).getD i 0 = xs.getD i 0 := by simp [List.getD, List.getElem?_take, h]
theorem take_part {xs : List Int} {a n k : Nat} (h : a + n ≤ k) : ((xs.take k).drop a).take n = (xs.drop a).take n := by
  rw [List.drop_take, List.take_take, Nat.min_eq_left (by omega)]
theorem nOf_take {xs ys : List Int} (h : xs.take 48 = ys.take 48) : nOf xs = nOf ys := by
  unfold nOf
  rw [← take_part (xs := xs) (k := 48) (by decide), h, take_part (by decide)]
theorem rs_lt {i : Nat} (h : i < 8) : (rsI.getD i 0).toNat < 48 := by
  have := rs_bd h
  omega
theorem Rsv_take {xs ys : List Int} (h : xs.take 48 = ys.take 48) (k : Rsv ys 8) : Rsv xs 8 := fun i hi => by
  rw [← take_getD (n := 48) (rs_lt hi), h, take_getD (rs_lt hi)]
  exact k i hi
theorem head_facts {p : Pd} (hp : p.wf) (hn : p.data.length ≤ 8192) : nOf (headL p 7) = p.data.length ∧ Rsv (headL p 7) 8 := by
  constructor
  · have e : ((headL p 7).drop 5).take 3 = beB 3 (p.data.length : Int) := rfl
    unfold nOf
    rw [e, beN_beB, show (256 : Int) ^ 3 = 16777216 by decide]
    omega
  · intro i hi
    have : i = 0 ∨ i = 1 ∨ i = 2 ∨ i = 3 ∨ i = 4 ∨ i = 5 ∨ i = 6 ∨ i = 7 := by omega
    rcases this with h | h | h | h | h | h | h | h <;> subst h <;> rfl
theorem hdrL_len (p : Pd) (h : Bool) : (hdrL p h).length = atN h := by
  unfold hdrL atN
  cases h
  · simp [headL_len p (Nat.le_refl 7)]
  · simp [headL_len p (Nat.le_refl 7), beB_len]
theorem hdr_take (p : Pd) (h : Bool) : (hdrL p h).take 48 = headL p 7 := by
  unfold hdrL
  rw [List.take_append_of_le_length (by rw [headL_len p (Nat.le_refl 7)]; omega), List.take_of_length_le (by rw [headL_len p (Nat.le_refl 7)]; omega)]
theorem atN_le (h : Bool) : 48 ≤ atN h ∧ atN h ≤ 52 := by cases h <;> decide
theorem enc_take (p : Pd) (h d : Bool) : (encB p h d).take 48 = headL p 7 := by
  unfold encB
  rw [List.take_append_of_le_length (by rw [hdrL_len]; exact (atN_le h).1), hdr_take]
theorem enc_n {p : Pd} (hp : p.wf) (hn : p.data.length ≤ 8192) (h d : Bool) : nOf (encB p h d) = p.data.length := by
  rw [nOf_take (ys := headL p 7) (by rw [enc_take, List.take_of_length_le (by rw [headL_len p (Nat.le_refl 7)]; omega)]), (head_facts hp hn).1]
theorem body_m {p : Pd} (hp : p.wf) (hn : p.data.length ≤ 8192) (h d : Bool) : mOf (encB p h d) = (bodyL p).length := by
  unfold mOf
  rw [enc_n hp hn, bodyL_len]
theorem enc_len {p : Pd} (hp : p.wf) (hn : p.data.length ≤ 8192) (h d : Bool) : (encB p h d).length = endN (encB p h d) h d := by
  unfold endN
  rw [body_m hp hn]
  unfold encB
  rw [List.length_append, List.length_append, hdrL_len]
  split <;> simp [beB_len] <;> omega
theorem enc_sum (p : Pd) (d : Bool) : ((encB p true d).drop 48).take 4 = beB 4 (c32 (headL p 7)) := by
  unfold encB hdrL
  rw [if_pos rfl, List.append_assoc, List.drop_append, List.drop_of_length_le (by rw [headL_len p (Nat.le_refl 7)]; omega), List.nil_append, headL_len p (Nat.le_refl 7)]
  simp [List.take_append, beB_len, List.take_of_length_le]
theorem enc_body (p : Pd) (h d : Bool) : ((encB p h d).drop (atN h)).take (bodyL p).length = bodyL p := by
  unfold encB
  rw [List.drop_append, List.drop_of_length_le (by rw [hdrL_len]; omega), hdrL_len, Nat.sub_self, List.nil_append, List.drop_zero, List.take_append_of_le_length (by omega), List.take_of_length_le (by omega)]
theorem enc_sum2 (p : Pd) (h : Bool) (hm : 0 < (bodyL p).length) : ((encB p h true).drop (atN h + (bodyL p).length)).take 4 = beB 4 (c32 (bodyL p)) := by
  unfold encB
  rw [if_pos ⟨rfl, hm⟩, ← List.append_assoc, List.drop_append, List.drop_of_length_le (by rw [List.length_append, hdrL_len]; omega), List.length_append, hdrL_len, Nat.sub_self, List.nil_append, List.drop_zero, List.take_of_length_le (by rw [beB_len]; omega)]
theorem not_b {p : Pd} {h d : Bool} {xs : List Int} (ht : xs.take 48 = headL p 7) (hs : h = true → (xs.drop 48).take 4 = beB 4 (c32 (headL p 7))) : ¬ (h = true ∧ ¬ (beB 4 (c32 (xs.take 48)) = (xs.drop 48).take 4)) := fun hc => hc.2 (by rw [ht, hs hc.1])
/-- A beginning is not whole yet. -/
theorem enc_cut {p : Pd} (hp : p.wf) (hn : p.data.length ≤ 8192) {h d : Bool} {i : Nat} (hi : i < (encB p h d).length) : decE ((encB p h d).take i) h d = 8 := by
  have hl : ((encB p h d).take i).length = i := by rw [List.length_take]; omega
  by_cases ha : i < atN h
  · exact e_8 (by rw [hl]; exact ha)
  · have h48 := atN_le h
    have ht : ((encB p h d).take i).take 48 = (encB p h d).take 48 := by rw [List.take_take, Nat.min_eq_left (by omega)]
    have hnn : nOf ((encB p h d).take i) = p.data.length := by rw [nOf_take ht, enc_n hp hn]
    have hr : Rsv ((encB p h d).take i) 8 := Rsv_take (ys := headL p 7) (by rw [ht, enc_take, List.take_of_length_le (by rw [headL_len p (Nat.le_refl 7)]; omega)]) (head_facts hp hn).2
    refine e_8' (by rw [hl]; omega) (not_b (p := p) (d := d) (by rw [ht, enc_take]) fun e => ?_) (fun hc => hc.elim (fun h => by omega) (fun h => h hr)) ?_
    · subst e
      rw [take_part (by have : atN true = 52 := rfl; omega), enc_sum]
    · have he : endN ((encB p h d).take i) h d = endN (encB p h d) h d := by unfold endN mOf; rw [hnn, enc_n hp hn]
      rw [hl, he, ← enc_len hp hn]; exact hi
theorem enc_zer (p : Pd) (h d : Bool) : Zer (encB p h d) (atN h + p.data.length) (padN p.data.length) := fun i hi => by
  have hb := bodyL_len p
  have e : (encB p h d).getD (atN h + p.data.length + i) 0 = (bodyL p).getD (p.data.length + i) 0 := by
    rw [← enc_body p h d]
    simp only [List.getD, List.getElem?_take, List.getElem?_drop]
    rw [if_pos (by omega), Nat.add_assoc]
  rw [e]
  unfold bodyL
  simp only [List.getD, List.getElem?_append_right (show p.data.length ≤ p.data.length + i by omega)]
  rw [show p.data.length + i - p.data.length = i by omega, List.getElem?_replicate, if_pos hi]
  rfl
theorem pd_eq (p : Pd) : p = ⟨p.op, p.fl, p.res, p.st, p.lun, p.tag, p.w0, p.w1, p.w2, p.w3, p.w4, p.w5, p.w6, p.data⟩ := rfl
theorem word_back {w : Int} (h : B32 w) : beN (beB 4 w) = w := by
  unfold B32 at h
  rw [beN_beB, show (256 : Int) ^ 4 = 4294967296 by decide]; omega
/-- What is laid is read again. -/
theorem enc_dec {p : Pd} (hp : p.wf) (hn : p.data.length ≤ 8192) (h d : Bool) : decE (encB p h d) h d = 0 ∧ decP (encB p h d) h d = p ∧ decN (encB p h d) h d = (encB p h d).length := by
  have hnn := enc_n hp hn h d
  have hmm := body_m hp hn h d
  have ht := enc_take p h d
  have hr : Rsv (encB p h d) 8 := Rsv_take (ys := headL p 7) (by rw [ht, List.take_of_length_le (by rw [headL_len p (Nat.le_refl 7)]; omega)]) (head_facts hp hn).2
  have hlen := enc_len hp hn h d
  have h48 := atN_le h
  have he : decE (encB p h d) h d = 0 := by
    refine e_0 (by rw [hlen]; unfold endN; omega) (not_b (p := p) (d := d) ht fun e => by subst e; exact enc_sum p d) (fun hc => hc.elim (fun h => by omega) (fun h => h hr)) (by omega) ?_ (by rw [hnn]; exact enc_zer p h d)
    rintro ⟨⟨hd, h0⟩, hc⟩
    subst hd
    rw [hmm] at hc h0
    rw [enc_body, enc_sum2 p h h0] at hc
    exact hc rfl
  obtain ⟨hP, hN⟩ := decP_yes he
  refine ⟨he, ?_, by rw [hN, ← hlen]⟩
  rw [hP]
  have gd : ∀ i, i < 48 → (encB p h d).getD i 0 = (headL p 7).getD i 0 := fun i hi => by rw [← take_getD hi, ht]
  have pt : ∀ a n, a + n ≤ 48 → ((encB p h d).drop a).take n = ((headL p 7).drop a).take n := fun a n han => by rw [← take_part (k := 48) han, ht]
  have wk : ∀ i, i < 7 → wd (encB p h d) i = beN (((headL p 7).drop (20 + 4 * i)).take 4) := fun i hi => by unfold wd; rw [pt _ _ (by omega)]
  obtain ⟨_, htag, hws, _⟩ := hp
  have hdat : ((encB p h d).drop (atN h)).take (nOf (encB p h d)) = p.data := by
    rw [hnn]
    have := enc_body p h d
    have hb := bodyL_len p
    rw [show ((encB p h d).drop (atN h)).take p.data.length = (((encB p h d).drop (atN h)).take (bodyL p).length).take p.data.length by rw [List.take_take, Nat.min_eq_left (by omega)], this]
    unfold bodyL
    rw [List.take_append_of_le_length (by omega), List.take_of_length_le (by omega)]
  unfold decD
  rw [gd 0 (by omega), gd 1 (by omega), gd 2 (by omega), gd 3 (by omega), gd 9 (by omega), pt 16 4 (by omega), wk 0 (by omega), wk 1 (by omega), wk 2 (by omega), wk 3 (by omega), wk 4 (by omega), wk 5 (by omega), wk 6 (by omega), hdat]
  rw [show ((headL p 7).drop 16).take 4 = beB 4 p.tag from rfl, show ((headL p 7).drop (20 + 4 * 0)).take 4 = beB 4 p.w0 from rfl, show ((headL p 7).drop (20 + 4 * 1)).take 4 = beB 4 p.w1 from rfl, show ((headL p 7).drop (20 + 4 * 2)).take 4 = beB 4 p.w2 from rfl, show ((headL p 7).drop (20 + 4 * 3)).take 4 = beB 4 p.w3 from rfl, show ((headL p 7).drop (20 + 4 * 4)).take 4 = beB 4 p.w4 from rfl, show ((headL p 7).drop (20 + 4 * 5)).take 4 = beB 4 p.w5 from rfl, show ((headL p 7).drop (20 + 4 * 6)).take 4 = beB 4 p.w6 from rfl]
  rw [word_back htag, word_back (hws p.w0 (by simp [Pd.ws])), word_back (hws p.w1 (by simp [Pd.ws])), word_back (hws p.w2 (by simp [Pd.ws])), word_back (hws p.w3 (by simp [Pd.ws])), word_back (hws p.w4 (by simp [Pd.ws])), word_back (hws p.w5 (by simp [Pd.ws])), word_back (hws p.w6 (by simp [Pd.ws]))]
  rfl
/-! turned -/
theorem beB4_inj {a b : Int} (ha : 0 ≤ a ∧ a < 4294967296) (hb : 0 ≤ b ∧ b < 4294967296) (h : beB 4 a = beB 4 b) : a = b := by
  have := congrArg beN h
  rw [beN_beB, beN_beB, show (256 : Int) ^ 4 = 4294967296 by decide] at this
  omega
theorem set_ne {xs : List Int} {i : Nat} {v : Int} (hi : i < xs.length) (hv : v ≠ xs.getD i 0) : xs.set i v ≠ xs := by
  intro h
  have h2 : (xs.set i v).getD i 0 = xs.getD i 0 := by rw [h]
  simp only [List.getD, List.getElem?_set, if_pos hi] at h2
  exact hv (by simpa using h2)
theorem part_set_out {xs : List Int} {i a n : Nat} {v : Int} (h : i < a ∨ a + n ≤ i) : ((xs.set i v).drop a).take n = (xs.drop a).take n := by
  rw [List.drop_set]
  split
  · rfl
  · rw [List.take_set, List.set_eq_of_length_le]
    rw [List.length_take]; omega
theorem part_set_in {xs : List Int} {i a n : Nat} {v : Int} (h : a ≤ i) : ((xs.set i v).drop a).take n = ((xs.drop a).take n).set (i - a) v := by
  rw [List.drop_set, if_neg (by omega), List.take_set]
theorem part_getD {xs : List Int} {i a n : Nat} (h : a ≤ i ∧ i < a + n) : ((xs.drop a).take n).getD (i - a) 0 = xs.getD i 0 := by
  simp only [List.getD, List.getElem?_take, List.getElem?_drop]
  rw [if_pos (by omega), show a + (i - a) = i by omega]
theorem enc_spoil {p : Pd} (hp : p.wf) (hn : p.data.length ≤ 8192) {i : Nat} {v : Int} (hi : i < (encB p true true).length) (hv : 0 ≤ v ∧ v ≤ 255) (hne : v ≠ (encB p true true).getD i 0) : decE ((encB p true true).set i v) true true = 5 := by
  have hlen := enc_len hp hn true true
  have hnn := enc_n hp hn true true
  have hmm := body_m hp hn true true
  have ht := enc_take p true true
  have hs := enc_sum p true
  have a52 : atN true = 52 := rfl
  have hl : ¬ ((encB p true true).set i v).length < atN true := by
    rw [List.length_set, hlen]; unfold endN; omega
  have t0 : ∀ ys : List Int, ys.take 48 = (ys.drop 0).take 48 := fun ys => by rw [List.drop_zero]
  by_cases h1 : i < 48
  · refine e_5 hl ⟨rfl, fun hc => ?_⟩
    rw [part_set_out (.inl h1), hs, List.take_set, ht] at hc
    refine tells32 (headL_bytes hp 7) (by rw [headL_len p (Nat.le_refl 7)]; exact h1) hv ?_ (beB4_inj (c32_bd _) (c32_bd _) hc)
    rw [← ht, take_getD h1]; exact hne
  · have ht2 : ((encB p true true).set i v).take 48 = headL p 7 := by
      rw [List.take_set, List.set_eq_of_length_le (by rw [List.length_take]; omega), ht]
    by_cases h2 : i < 52
    · refine e_5 hl ⟨rfl, fun hc => ?_⟩
      rw [ht2, part_set_in (by omega), hs] at hc
      refine set_ne (by rw [beB_len]; omega) ?_ hc.symm
      rw [← hs, part_getD (by omega)]; exact hne
    · have hr : Rsv ((encB p true true).set i v) 8 := Rsv_take (ys := headL p 7) (by rw [ht2, List.take_of_length_le (by rw [headL_len p (Nat.le_refl 7)]; omega)]) (head_facts hp hn).2
      have hn2 : nOf ((encB p true true).set i v) = p.data.length := by
        rw [nOf_take (ys := encB p true true) (by rw [ht2, ht]), hnn]
      have hm2 : mOf ((encB p true true).set i v) = (bodyL p).length := by
        unfold mOf; rw [hn2, bodyL_len]
      have he : endN ((encB p true true).set i v) true true = endN (encB p true true) true true := by unfold endN; rw [hm2, hmm]
      have hm0 : 0 < (bodyL p).length := by
        rcases Nat.eq_zero_or_pos (bodyL p).length with h0 | h0
        · rw [hlen] at hi
          unfold endN at hi
          rw [hmm, h0, if_neg (by simp)] at hi
          omega
        · exact h0
      have hil : i < 52 + (bodyL p).length + 4 := by
        rw [hlen] at hi
        unfold endN at hi
        rw [hmm, if_pos ⟨rfl, hm0⟩] at hi
        omega
      have hs2 := enc_sum2 p true hm0
      have hb2 := enc_body p true true
      refine e_5' hl (not_b (p := p) (d := true) ht2 fun _ => by rw [part_set_out (.inr (by omega)), hs]) (fun hc => hc.elim (fun h => by omega) (fun h => h hr)) (by rw [he, List.length_set, ← hlen]; omega) ⟨⟨rfl, by rw [hm2]; exact hm0⟩, fun hc => ?_⟩
      rw [hm2] at hc
      by_cases h3 : i < 52 + (bodyL p).length
      · rw [part_set_out (a := atN true + _) (.inl h3), hs2, part_set_in (by omega), hb2] at hc
        refine tells32 (bodyL_bytes hp) (by omega) hv ?_ (beB4_inj (c32_bd _) (c32_bd _) hc)
        rw [← hb2, part_getD (by omega)]; exact hne
      · rw [part_set_out (a := atN true) (.inr (by omega)), hb2, part_set_in (by omega), hs2] at hc
        refine set_ne (by rw [beB_len]; omega) ?_ hc.symm
        rw [← hs2, part_getD (by omega)]; exact hne
theorem encB_bytes {p : Pd} (hp : p.wf) (h d : Bool) : ByteL (encB p h d) := by
  unfold encB hdrL
  refine ((headL_bytes hp 7).app ?_).app ((bodyL_bytes hp).app ?_)
  · split
    · exact beB_bytes _ _
    · exact ByteL.nil
  · split
    · exact beB_bytes _ _
    · exact ByteL.nil
theorem encB_le {p : Pd} (hn : p.data.length ≤ 8192) (h d : Bool) : (encB p h d).length ≤ 9000 := by
  have := atN_le h
  have := bodyL_len p
  have := padN_le p.data.length
  unfold encB
  rw [List.length_append, List.length_append, hdrL_len]
  split <;> simp [beB_len] <;> omega
theorem encR_bytes {p : Pd} (hp : p.wf) (h d : Bool) : ByteL (encR p h d) := by
  unfold encR; split
  · exact ByteL.nil
  · exact encB_bytes hp h d
theorem encR_le (p : Pd) (h d : Bool) : (encR p h d).length ≤ 9000 := by
  unfold encR; split
  · simp
  · exact encB_le (by omega) h d
end Go.Proofs.Ytfjlniemgmimnaa.Abs
