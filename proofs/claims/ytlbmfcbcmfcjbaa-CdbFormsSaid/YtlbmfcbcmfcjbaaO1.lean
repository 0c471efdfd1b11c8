/- The first bit that isn't allowed, in plain words. (Laid with t.sh, behind N2.) -/
import Derived.Test.YtlbmfcbcmfcjbaaN2
set_option linter.unusedVariables false
set_option linter.unusedSimpArgs false
namespace Go.Proofs.Ytlbmfcbcmfcjbaa.Abs
open Go Go.RowKit
def oddB (xs ms : List Int) (i k : Nat) : Bool := (xs.getD i 0).toNat.testBit k && !(ms.getD i 0).toNat.testBit k
/-- Where the first bit is: byte f, bit b; none: -1, -1. -/
def OddAt (xs ms : List Int) (f b : Int) : Prop := (f = -1 ∧ b = -1 ∧ ∀ i, i < xs.length → ∀ k, k < 8 → oddB xs ms i k = false) ∨ (∃ i k : Nat, f = i ∧ b = k ∧ i < xs.length ∧ k < 8 ∧ oddB xs ms i k = true ∧ (∀ j, j < i → ∀ l, l < 8 → oddB xs ms j l = false) ∧ ∀ l, k < l → l < 8 → oddB xs ms i l = false)
theorem OddAt.uniq {xs ms : List Int} {f b g c : Int} (h : OddAt xs ms f b) (k : OddAt xs ms g c) : f = g ∧ b = c := by
  rcases h with ⟨rfl, rfl, h⟩ | ⟨i, l, rfl, rfl, h1, h2, h3, h4, h5⟩
  · rcases k with ⟨rfl, rfl, k⟩ | ⟨j, m, rfl, rfl, k1, k2, k3, k4, k5⟩
    · exact ⟨rfl, rfl⟩
    · rw [h j k1 m k2] at k3; cases k3
  · rcases k with ⟨rfl, rfl, k⟩ | ⟨j, m, rfl, rfl, k1, k2, k3, k4, k5⟩
    · rw [k i h1 l h2] at h3; cases h3
    · have hij : i = j := by
        rcases Nat.lt_trichotomy i j with h | h | h
        · rw [k4 i h l h2] at h3; cases h3
        · exact h
        · rw [h4 j h m k2] at k3; cases k3
      subst hij
      have hlm : l = m := by
        rcases Nat.lt_trichotomy l m with h | h | h
        · rw [h5 m h k2] at k3; cases k3
        · exact h
        · rw [k5 l h h2] at h3; cases h3
      subst hlm
      exact ⟨rfl, rfl⟩
end Go.Proofs.Ytlbmfcbcmfcjbaa.Abs
