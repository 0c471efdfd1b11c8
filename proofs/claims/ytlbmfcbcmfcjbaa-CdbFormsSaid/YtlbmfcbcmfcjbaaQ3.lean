/- Commands: what bytes are, that are alike. -/
import Derived.Test.YtlbmfcbcmfcjbaaQ1
set_option linter.unusedVariables false
set_option linter.unusedSimpArgs false
set_option maxRecDepth 100000
namespace Go.Proofs.Ytlbmfcbcmfcjbaa.Abs
open Go Go.RowKit
section
variable {xs ys : List Int} {f b g c : Int}
theorem pm_false (h : (parseM xs f b).2.2 = false) : (parseM xs f b).1 = cmd0 0 := by
  by_cases h0 : xs.length = 0
  · rw [pm1 h0]
  · by_cases h1 : tellsB (xs.getD 0 0) = true ∧ xs.length = 1
    · rw [pm2 h0 h1.1 h1.2]
    · have h1' : tellsB (xs.getD 0 0) = true → xs.length ≠ 1 := fun a e => h1 ⟨a, e⟩
      by_cases h2 : useL (xs.getD 0 0) = []
      · rw [pm3 h0 h1' h2]
      · by_cases h3 : xs.length < (useL (xs.getD 0 0)).length
        · rw [pm4 h0 h1' h2 h3]
        · by_cases h4 : f ≥ 0
          · rw [pm5 h0 h1' h2 h3 h4]
          · rcases h5 : serveB (xs.getD 0 0) (svOf xs) with _ | _
            · rw [pm6 h0 h1' h2 h3 h4 h5]
            · by_cases h6 : (fillF (kindL (xs.getD 0 0)) (useL (xs.getD 0 0)).length (xs.take (useL (xs.getD 0 0)).length)).1 ≥ 0
              · rw [pm7 h0 h1' h2 h3 h4 h5 h6]
              · rw [pm8 h0 h1' h2 h3 h4 h5 h6] at h; cases h
theorem pm_true (h : (parseM xs f b).2.2 = true) : xs.length ≠ 0 ∧ (tellsB (xs.getD 0 0) = true → xs.length ≠ 1) ∧ useL (xs.getD 0 0) ≠ [] ∧ ¬ xs.length < (useL (xs.getD 0 0)).length ∧ ¬ f ≥ 0 ∧ serveB (xs.getD 0 0) (svOf xs) = true ∧ ¬ (fillF (kindL (xs.getD 0 0)) (useL (xs.getD 0 0)).length (xs.take (useL (xs.getD 0 0)).length)).1 ≥ 0 := by
  by_cases h0 : xs.length = 0
  · rw [pm1 h0] at h; cases h
  · by_cases h1 : tellsB (xs.getD 0 0) = true ∧ xs.length = 1
    · rw [pm2 h0 h1.1 h1.2] at h; cases h
    · have h1' : tellsB (xs.getD 0 0) = true → xs.length ≠ 1 := fun a e => h1 ⟨a, e⟩
      by_cases h2 : useL (xs.getD 0 0) = []
      · rw [pm3 h0 h1' h2] at h; cases h
      · by_cases h3 : xs.length < (useL (xs.getD 0 0)).length
        · rw [pm4 h0 h1' h2 h3] at h; cases h
        · by_cases h4 : f ≥ 0
          · rw [pm5 h0 h1' h2 h3 h4] at h; cases h
          · rcases h5 : serveB (xs.getD 0 0) (svOf xs) with _ | _
            · rw [pm6 h0 h1' h2 h3 h4 h5] at h; cases h
            · by_cases h6 : (fillF (kindL (xs.getD 0 0)) (useL (xs.getD 0 0)).length (xs.take (useL (xs.getD 0 0)).length)).1 ≥ 0
              · rw [pm7 h0 h1' h2 h3 h4 h5 h6] at h; cases h
              · exact ⟨h0, h1', h2, h3, h4, rfl, h6⟩
theorem parse_ext (h : POdd xs f b) (ht : (parseM xs f b).2.2 = true) (k : POdd ys g c) (e0 : ys.getD 0 0 = xs.getD 0 0) (e1 : tellsB (xs.getD 0 0) = true → ys.getD 1 0 = xs.getD 1 0) (hl : ¬ ys.length < (useL (xs.getD 0 0)).length) (e2 : ys.take (useL (xs.getD 0 0)).length = xs.take (useL (xs.getD 0 0)).length) : parseM ys g c = parseM xs f b := by
  obtain ⟨h0, h1, h2, h3, h4, h5, h6⟩ := pm_true ht
  have hlen : 0 < (useL (xs.getD 0 0)).length := List.length_pos_iff.2 h2
  have hsv : svOf ys = svOf xs := by
    unfold svOf
    rw [e0]
    by_cases hq : tellsB (xs.getD 0 0) = true
    · rw [if_pos hq, if_pos hq, e1 hq]
    · rw [if_neg hq, if_neg hq]
  have k2 : OddAt (xs.take (useL (xs.getD 0 0)).length) (useL (xs.getD 0 0)) g c := by
    have := k (by rw [e0]; exact h2) (by rw [e0]; exact hl)
    rwa [e0, e2] at this
  obtain ⟨rfl, rfl⟩ := k2.uniq (h h2 h3)
  rw [pm8 h0 h1 h2 h3 h4 h5 h6]
  have := pm8 (xs := ys) (f := g) (b := c) (by omega) (by rw [e0]; exact fun hq hy => by have := tells_len hq; omega) (by rw [e0]; exact h2) (by rw [e0]; exact hl) h4 (by rw [e0, hsv]; exact h5) (by rw [e0, e2]; exact h6)
  rw [this, e0, e2, hsv]
theorem take_getD {xs : List Int} {n i : Nat} (h : i < n) : (xs.take n).getD i 0 = xs.getD i 0 := by simp [List.getD, List.getElem?_take, h]
theorem parse_turn (h : POdd xs f b) (ht : (parseM xs f b).2.2 = true) (k : POdd ys g c) {i j : Nat} (hi : 0 < i) (hin : i < (useL (xs.getD 0 0)).length) (hj : j < 8) (hl : ¬ ys.length < (useL (xs.getD 0 0)).length) (hbit : oddB ys (useL (xs.getD 0 0)) i j = true) (hlo : ∀ m, m < i → ys.getD m 0 = xs.getD m 0) (hhi : ∀ l, j < l → l < 8 → (ys.getD i 0).toNat.testBit l = (xs.getD i 0).toNat.testBit l) : parseM ys g c = (cmd0 0, flt i j, false) := by
  obtain ⟨h0, h1, h2, h3, h4, h5, h6⟩ := pm_true ht
  have e0 := hlo 0 hi
  have hno := (h h2 h3).no h4
  have hlx : (xs.take (useL (xs.getD 0 0)).length).length = (useL (xs.getD 0 0)).length := by rw [List.length_take]; omega
  have hly : (ys.take (useL (xs.getD 0 0)).length).length = (useL (xs.getD 0 0)).length := by rw [List.length_take]; omega
  have k2 := k (by rw [e0]; exact h2) (by rw [e0]; exact hl)
  rw [e0] at k2
  have hodd : OddAt (ys.take (useL (xs.getD 0 0)).length) (useL (xs.getD 0 0)) i j := by
    refine .inr ⟨i, j, rfl, rfl, by omega, hj, ?_, fun m hm l hl8 => ?_, fun l hl1 hl8 => ?_⟩
    · unfold oddB at hbit ⊢
      rwa [take_getD hin]
    · have := hno m (by omega) l hl8
      unfold oddB at this ⊢
      rw [take_getD (by omega)] at this ⊢
      rwa [hlo m hm]
    · have := hno i (by omega) l hl8
      unfold oddB at this ⊢
      rw [take_getD hin] at this ⊢
      rwa [hhi l hl1 hl8]
  obtain ⟨rfl, rfl⟩ := k2.uniq hodd
  exact pm5 (by omega) (by rw [e0]; exact fun hq hy => by have := tells_len hq; omega) (by rw [e0]; exact h2) (by rw [e0]; exact hl) (Int.natCast_nonneg i)
theorem parse_short (ht : (parseM xs f b).2.2 = true) {m : Nat} (hm : m < (useL (xs.getD 0 0)).length) : parseM (xs.take m) g c = (cmd0 0, flt m (-1), false) := by
  obtain ⟨h0, h1, h2, h3, h4, h5, h6⟩ := pm_true ht
  have hl : (xs.take m).length = m := by rw [List.length_take]; omega
  by_cases hz : m = 0
  · rw [pm1 (by omega), hz]; rfl
  · have e0 : (xs.take m).getD 0 0 = xs.getD 0 0 := take_getD (by omega)
    by_cases hq : tellsB (xs.getD 0 0) = true ∧ m = 1
    · rw [pm2 (by omega) (by rw [e0]; exact hq.1) (by omega), hq.2]; rfl
    · rw [pm4 (by omega) (by rw [e0, hl]; exact fun a e => hq ⟨a, e⟩) (by rw [e0]; exact h2) (by rw [e0, hl]; exact hm), hl]
end
theorem getD_front {xs ms : List Int} {n m : Nat} (hn : n ≤ xs.length) (hm : m < n) : (xs.take n ++ ms).getD m 0 = xs.getD m 0 := by
  have h1 : m < (xs.take n).length := by rw [List.length_take]; omega
  simp only [List.getD, List.getElem?_append_left h1, List.getElem?_take, if_pos hm]
theorem remN {a n : Nat} (hn : 0 < n) (ha : a < 256) : aBin 5 .rem (.int .i64 (IntKind.i64.wrap (a : Int))) (.int .i64 (n : Int)) = some (.int .i64 ((a % n : Nat) : Int)) := by
  have h0 : (n : Int) ≠ 0 := by omega
  rw [wi _ (by omega)]
  simp only [aBin, isShift, aInt, if_neg h0]
  rw [Int.tmod_eq_emod_of_nonneg (by omega)]
  simp
theorem set_map {ys : List Int} {i : Nat} {k : IntKind} {w : Int} : (ys.map (Value.int k)).set (0 + ((i : Int)).toNat * 1) (.int k w) = (ys.set i w).map (Value.int k) := by
  rw [show 0 + ((i : Int)).toNat * 1 = i by omega, List.map_set]
theorem orBit {a : Int} (ha : 0 ≤ a ∧ a ≤ 255) {j : Nat} (hj : j < 8) : (0 ≤ bits .or .u8 a (IntKind.u8.wrap (1 * 2 ^ min ((j : Int)).toNat IntKind.u8.bits)) ∧ bits .or .u8 a (IntKind.u8.wrap (1 * 2 ^ min ((j : Int)).toNat IntKind.u8.bits)) ≤ 255) ∧ ∀ l, (bits .or .u8 a (IntKind.u8.wrap (1 * 2 ^ min ((j : Int)).toNat IntKind.u8.bits))).toNat.testBit l = (a.toNat.testBit l || decide (j = l)) := by
  have hmin : min ((j : Int)).toNat IntKind.u8.bits = j := by simp [IntKind.bits]; omega
  have h2 : (2 : Nat) ^ j ≤ 2 ^ 7 := Nat.pow_le_pow_right (by decide) (by omega)
  have e : (1 : Int) * 2 ^ j = ((2 ^ j : Nat) : Int) := by simp
  obtain ⟨A, rfl⟩ := Int.eq_ofNat_of_zero_le ha.1
  have e2 : bits .or .u8 (A : Int) (IntKind.u8.wrap (1 * 2 ^ min ((j : Int)).toNat IntKind.u8.bits)) = ((A ||| 2 ^ j : Nat) : Int) := by
    rw [hmin, w8, e]
    generalize 2 ^ j = Q at h2 ⊢
    rw [show ((Q : Nat) : Int) % 256 = ((Q : Nat) : Int) by omega]
    exact u8_or_nat _ _ (by omega) (by omega)
  have h3 : A ||| 2 ^ j < 2 ^ 8 := Nat.or_lt_two_pow (by omega) (by omega)
  rw [e2]
  refine ⟨by omega, fun l => ?_⟩
  rw [show (((A ||| 2 ^ j : Nat) : Int)).toNat = A ||| 2 ^ j from rfl, Nat.testBit_or, Nat.testBit_two_pow]
  rfl

end Go.Proofs.Ytlbmfcbcmfcjbaa.Abs
