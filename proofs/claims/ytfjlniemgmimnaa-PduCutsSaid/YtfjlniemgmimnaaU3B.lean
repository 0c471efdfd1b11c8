/- PDUs: read. -/
import Derived.Test.YtfjlniemgmimnaaU3
set_option linter.unusedVariables false
set_option linter.unusedSimpArgs false
set_option maxRecDepth 100000
namespace Go.Proofs.Ytfjlniemgmimnaa.Abs
open Go Go.RowKit
theorem row_set {xs : List Int} {a b c d e t y : Value} {j : Nat} (hj : j < 7) : ([a, b, c, d, e, t, .int .u32 (wj xs j 0), .int .u32 (wj xs j 1), .int .u32 (wj xs j 2), .int .u32 (wj xs j 3), .int .u32 (wj xs j 4), .int .u32 (wj xs j 5), .int .u32 (wj xs j 6), y] : List Value).set (0 + 6 + ((j : Int)).toNat * 1) (.int .u32 (wd xs j)) = [a, b, c, d, e, t, .int .u32 (wj xs (j + 1) 0), .int .u32 (wj xs (j + 1) 1), .int .u32 (wj xs (j + 1) 2), .int .u32 (wj xs (j + 1) 3), .int .u32 (wj xs (j + 1) 4), .int .u32 (wj xs (j + 1) 5), .int .u32 (wj xs (j + 1) 6), y] := by
  have : j = 0 ∨ j = 1 ∨ j = 2 ∨ j = 3 ∨ j = 4 ∨ j = 5 ∨ j = 6 := by omega
  rcases this with h | h | h | h | h | h | h <;> subst h <;> rfl
theorem zer_at {xs : List Int} {a m n j : Nat} (h : j < m) (hm : n + j < m) : (((xs.drop a).take m).drop n).getD j 0 = xs.getD (a + n + j) 0 := by
  simp only [List.getD, List.getElem?_drop, List.getElem?_take]
  rw [if_pos hm, Nat.add_assoc]

end Go.Proofs.Ytfjlniemgmimnaa.Abs
