/- PDUs: read. -/
import Derived.Test.YtfjlniemgmimnaaU3B
set_option linter.unusedVariables false
set_option linter.unusedSimpArgs false
set_option maxRecDepth 100000
namespace Go.Proofs.Ytfjlniemgmimnaa.Abs
open Go Go.RowKit
theorem texts_beq' {xs ys : List Int} (hx : ByteL xs) (hy : ByteL ys) : ((ofInts xs).toList == (ofInts ys).toList) = decide (ys = xs) := by
  rw [texts_beq hx hy]; exact decide_eq_decide.2 eq_comm
theorem take6 {xs : List Int} (h : 16 ≤ xs.length) : (xs.drop 10).take 6 = [xs.getD 10 0, xs.getD 11 0, xs.getD 12 0, xs.getD 13 0, xs.getD 14 0, xs.getD 15 0] := by
  apply List.ext_getElem
  · simp; omega
  · intro i h1 h2
    have hi : i < 6 := by simpa using h2
    have : i = 0 ∨ i = 1 ∨ i = 2 ∨ i = 3 ∨ i = 4 ∨ i = 5 := by omega
    rcases this with h | h | h | h | h | h <;> subst h <;> simp [List.getD] <;> rw [List.getElem?_eq_getElem (by omega)] <;> rfl
theorem rsv_iff {xs : List Int} (hb : ByteL xs) (h : 16 ≤ xs.length) : Rsv xs 8 ↔ xs.getD 4 0 = 0 ∧ xs.getD 8 0 = 0 ∧ rgetV xs 10 6 = 0 := by
  have e : rgetV xs 10 6 = (((((0 * 256 + xs.getD 10 0) * 256 + xs.getD 11 0) * 256 + xs.getD 12 0) * 256 + xs.getD 13 0) * 256 + xs.getD 14 0) * 256 + xs.getD 15 0 := by
    rw [rgetV_in (by omega)]
    show beN ((xs.drop 10).take 6) = _
    rw [take6 h]; rfl
  have b0 := hb.getD 10
  have b1 := hb.getD 11
  have b2 := hb.getD 12
  have b3 := hb.getD 13
  have b4 := hb.getD 14
  have b5 := hb.getD 15
  constructor
  · intro hr
    have r0 : xs.getD 4 0 = 0 := hr 0 (by decide)
    have r1 : xs.getD 8 0 = 0 := hr 1 (by decide)
    have r2 : xs.getD 10 0 = 0 := hr 2 (by decide)
    have r3 : xs.getD 11 0 = 0 := hr 3 (by decide)
    have r4 : xs.getD 12 0 = 0 := hr 4 (by decide)
    have r5 : xs.getD 13 0 = 0 := hr 5 (by decide)
    have r6 : xs.getD 14 0 = 0 := hr 6 (by decide)
    have r7 : xs.getD 15 0 = 0 := hr 7 (by decide)
    exact ⟨r0, r1, by omega⟩
  · rintro ⟨r0, r1, r2⟩ i hi
    have : i = 0 ∨ i = 1 ∨ i = 2 ∨ i = 3 ∨ i = 4 ∨ i = 5 ∨ i = 6 ∨ i = 7 := by omega
    rcases this with h | h | h | h | h | h | h | h <;> subst h
    · exact r0
    · exact r1
    · show xs.getD 10 0 = 0; omega
    · show xs.getD 11 0 = 0; omega
    · show xs.getD 12 0 = 0; omega
    · show xs.getD 13 0 = 0; omega
    · show xs.getD 14 0 = 0; omega
    · show xs.getD 15 0 = 0; omega

end Go.Proofs.Ytfjlniemgmimnaa.Abs
