/- Commands: what bytes are. -/
import Derived.Test.YtlbmfcbcmfcjbaaMX
set_option linter.unusedVariables false
set_option linter.unusedSimpArgs false
set_option maxRecDepth 100000
namespace Go.Proofs.Ytlbmfcbcmfcjbaa.Abs
open Go Go.RowKit
section
variable {xs : List Int} {f b : Int}
theorem pm1 (h : xs.length = 0) : parseM xs f b = (cmd0 0, flt 0 (-1), false) := by
  unfold parseM; simp only []
  rw [if_pos h]
theorem pm2 (h0 : xs.length ≠ 0) (h1 : tellsB (xs.getD 0 0) = true) (h2 : xs.length = 1) : parseM xs f b = (cmd0 0, flt 1 (-1), false) := by
  unfold parseM; simp only []
  rw [if_neg h0, if_pos ⟨h1, h2⟩]
theorem pm3 (h0 : xs.length ≠ 0) (h1 : tellsB (xs.getD 0 0) = true → xs.length ≠ 1) (h2 : useL (xs.getD 0 0) = []) : parseM xs f b = (cmd0 0, ⟨5, 8192, 0, false, 0, 7, true, true⟩, false) := by
  unfold parseM; simp only []
  rw [if_neg h0, if_neg (fun hc => h1 hc.1 hc.2), if_pos h2]
theorem pm4 (h0 : xs.length ≠ 0) (h1 : tellsB (xs.getD 0 0) = true → xs.length ≠ 1) (h2 : useL (xs.getD 0 0) ≠ []) (h3 : xs.length < (useL (xs.getD 0 0)).length) : parseM xs f b = (cmd0 0, flt xs.length (-1), false) := by
  unfold parseM; simp only []
  rw [if_neg h0, if_neg (fun hc => h1 hc.1 hc.2), if_neg h2, if_pos h3]
theorem pm5 (h0 : xs.length ≠ 0) (h1 : tellsB (xs.getD 0 0) = true → xs.length ≠ 1) (h2 : useL (xs.getD 0 0) ≠ []) (h3 : ¬ xs.length < (useL (xs.getD 0 0)).length) (h4 : f ≥ 0) : parseM xs f b = (cmd0 0, flt f b, false) := by
  unfold parseM; simp only []
  rw [if_neg h0, if_neg (fun hc => h1 hc.1 hc.2), if_neg h2, if_neg h3, if_pos h4]
theorem pm6 (h0 : xs.length ≠ 0) (h1 : tellsB (xs.getD 0 0) = true → xs.length ≠ 1) (h2 : useL (xs.getD 0 0) ≠ []) (h3 : ¬ xs.length < (useL (xs.getD 0 0)).length) (h4 : ¬ f ≥ 0) (h5 : serveB (xs.getD 0 0) (svOf xs) = false) : parseM xs f b = (cmd0 0, flt 1 4, false) := by
  unfold parseM; simp only []
  rw [if_neg h0, if_neg (fun hc => h1 hc.1 hc.2), if_neg h2, if_neg h3, if_neg h4, if_pos h5]
theorem pm7 (h0 : xs.length ≠ 0) (h1 : tellsB (xs.getD 0 0) = true → xs.length ≠ 1) (h2 : useL (xs.getD 0 0) ≠ []) (h3 : ¬ xs.length < (useL (xs.getD 0 0)).length) (h4 : ¬ f ≥ 0) (h5 : serveB (xs.getD 0 0) (svOf xs) = true) (h6 : (fillF (kindL (xs.getD 0 0)) (useL (xs.getD 0 0)).length (xs.take (useL (xs.getD 0 0)).length)).1 ≥ 0) : parseM xs f b = (cmd0 0, flt (fillF (kindL (xs.getD 0 0)) (useL (xs.getD 0 0)).length (xs.take (useL (xs.getD 0 0)).length)).1 (fillF (kindL (xs.getD 0 0)) (useL (xs.getD 0 0)).length (xs.take (useL (xs.getD 0 0)).length)).2, false) := by
  unfold parseM; simp only []
  rw [if_neg h0, if_neg (fun hc => h1 hc.1 hc.2), if_neg h2, if_neg h3, if_neg h4, if_neg (by rw [h5]; decide), if_pos h6]
theorem pm8 (h0 : xs.length ≠ 0) (h1 : tellsB (xs.getD 0 0) = true → xs.length ≠ 1) (h2 : useL (xs.getD 0 0) ≠ []) (h3 : ¬ xs.length < (useL (xs.getD 0 0)).length) (h4 : ¬ f ≥ 0) (h5 : serveB (xs.getD 0 0) (svOf xs) = true) (h6 : ¬ (fillF (kindL (xs.getD 0 0)) (useL (xs.getD 0 0)).length (xs.take (useL (xs.getD 0 0)).length)).1 ≥ 0) : parseM xs f b = (fillC (kindL (xs.getD 0 0)) (useL (xs.getD 0 0)).length (xs.take (useL (xs.getD 0 0)).length) (svOf xs), sns0, true) := by
  unfold parseM; simp only []
  rw [if_neg h0, if_neg (fun hc => h1 hc.1 hc.2), if_neg h2, if_neg h3, if_neg h4, if_neg (by rw [h5]; decide), if_neg h6]
end
def POdd (xs : List Int) (f b : Int) : Prop := useL (xs.getD 0 0) ≠ [] → ¬ xs.length < (useL (xs.getD 0 0)).length → OddAt (xs.take (useL (xs.getD 0 0)).length) (useL (xs.getD 0 0)) f b
theorem parse_uniq {xs : List Int} {f b g c : Int} (h : POdd xs f b) (k : POdd xs g c) : parseM xs f b = parseM xs g c := by
  by_cases h0 : xs.length = 0
  · rw [pm1 h0, pm1 h0]
  · by_cases h1 : tellsB (xs.getD 0 0) = true ∧ xs.length = 1
    · rw [pm2 h0 h1.1 h1.2, pm2 h0 h1.1 h1.2]
    · have h1' : tellsB (xs.getD 0 0) = true → xs.length ≠ 1 := fun a e => h1 ⟨a, e⟩
      by_cases h2 : useL (xs.getD 0 0) = []
      · rw [pm3 h0 h1' h2, pm3 h0 h1' h2]
      · by_cases h3 : xs.length < (useL (xs.getD 0 0)).length
        · rw [pm4 h0 h1' h2 h3, pm4 h0 h1' h2 h3]
        · obtain ⟨rfl, rfl⟩ := (h h2 h3).uniq (k h2 h3)
          rfl
theorem take_get0 {xs : List Int} {n : Nat} (h : 0 < n) : (xs.take n).getD 0 0 = xs.getD 0 0 := by simp [List.getD, List.getElem?_take, h]
theorem OddAt.no {xs ms : List Int} {f b : Int} (h : OddAt xs ms f b) (hf : ¬ f ≥ 0) : ∀ i, i < xs.length → ∀ k, k < 8 → oddB xs ms i k = false := by
  rcases h with ⟨_, _, h⟩ | ⟨i, k, rfl, _⟩
  · exact h
  · exact absurd (Int.natCast_nonneg i) hf
theorem use_bytes (op : Int) (h : op ∈ codes) : ByteL (useL op) := by
  have : ∀ op ∈ codes, ∀ z ∈ useL op, 0 ≤ z ∧ z ≤ 255 := by decide +kernel
  exact this op h
theorem tells_len {op : Int} (h : tellsB op = true) : 6 ≤ (useL op).length := by
  unfold tellsB at h
  rcases of_decide_eq_true h with h | h | h | h <;> subst h <;> decide

end Go.Proofs.Ytlbmfcbcmfcjbaa.Abs
