/- Arrays of eight numbers ahead of other cells. -/
import Derived.Test.YtihkghfmihdicaaP5
set_option linter.unusedVariables false
set_option linter.unusedSimpArgs false
namespace Go.Proofs.Ytihkghfmihdicaa.Abs
open Go Go.RowKit
def k8 (ks : List Int) (t : List Value) : List Value := .int .u64 (ks.getD 0 0) :: .int .u64 (ks.getD 1 0) :: .int .u64 (ks.getD 2 0) :: .int .u64 (ks.getD 3 0) :: .int .u64 (ks.getD 4 0) :: .int .u64 (ks.getD 5 0) :: .int .u64 (ks.getD 6 0) :: .int .u64 (ks.getD 7 0) :: t
theorem k8_at (ks : List Int) (t : List Value) {n : Int} (h : 0 ≤ n ∧ n < 8) : (k8 ks t)[0 + n.toNat * 1]? = some (.int .u64 (ks.getD n.toNat 0)) := by
  rcases (by omega : n = 0 ∨ n = 1 ∨ n = 2 ∨ n = 3 ∨ n = 4 ∨ n = 5 ∨ n = 6 ∨ n = 7) with h | h | h | h | h | h | h | h <;> subst h <;> rfl
theorem k8_set {ks : List Int} (hl : ks.length = 8) (t : List Value) {n v : Int} (h : 0 ≤ n ∧ n < 8) : (k8 ks t).set (0 + n.toNat * 1) (.int .u64 v) = k8 (ks.set n.toNat v) t := by
  obtain ⟨a, b, c, d, e, f, g, i, rfl⟩ : ∃ a b c d e f g i, ks = [a, b, c, d, e, f, g, i] := by
    match ks, hl with
    | [a, b, c, d, e, f, g, i], _ => exact ⟨a, b, c, d, e, f, g, i, rfl⟩
  rcases (by omega : n = 0 ∨ n = 1 ∨ n = 2 ∨ n = 3 ∨ n = 4 ∨ n = 5 ∨ n = 6 ∨ n = 7) with h | h | h | h | h | h | h | h <;> subst h <;> rfl
end Go.Proofs.Ytihkghfmihdicaa.Abs
