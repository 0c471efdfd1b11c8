/- PDUs, read: what bytes are, in plain words. -/
import Derived.Test.YtfjlniemgmimnaaU2
set_option linter.unusedVariables false
set_option linter.unusedSimpArgs false
set_option maxRecDepth 100000
namespace Go.Proofs.Ytfjlniemgmimnaa.Abs
open Go Go.RowKit
def zeroP : Pd := ⟨0, 0, 0, 0, 0, 0, 0, 0, 0, 0, 0, 0, 0, []⟩
def nOf (xs : List Int) : Nat := (beN ((xs.drop 5).take 3)).toNat
def atN (h : Bool) : Nat := if h = true then 52 else 48
def rsI : List Int := [4, 8, 10, 11, 12, 13, 14, 15]
def Rsv (xs : List Int) (j : Nat) : Prop := ∀ i, i < j → xs.getD (rsI.getD i 0).toNat 0 = 0
def Zer (xs : List Int) (a k : Nat) : Prop := ∀ i, i < k → xs.getD (a + i) 0 = 0
instance (xs : List Int) (j : Nat) : Decidable (Rsv xs j) := inferInstanceAs (Decidable (∀ i, i < j → _))
instance (xs : List Int) (a k : Nat) : Decidable (Zer xs a k) := inferInstanceAs (Decidable (∀ i, i < k → _))
def mOf (xs : List Int) : Nat := nOf xs + padN (nOf xs)
def endN (xs : List Int) (h d : Bool) : Nat := atN h + mOf xs + (if d = true ∧ 0 < mOf xs then 4 else 0)
def decE (xs : List Int) (h d : Bool) : Int :=
  if xs.length < atN h then 8
  else if h = true ∧ ¬ (beB 4 (c32 (xs.take 48)) = (xs.drop 48).take 4) then 5
  else if nOf xs > 8192 ∨ ¬ Rsv xs 8 then 3
  else if xs.length < endN xs h d then 8
  else if (d = true ∧ 0 < mOf xs) ∧ ¬ (beB 4 (c32 ((xs.drop (atN h)).take (mOf xs))) = (xs.drop (atN h + mOf xs)).take 4) then 5
  else if ¬ Zer xs (atN h + nOf xs) (padN (nOf xs)) then 3
  else 0
def wd (xs : List Int) (i : Nat) : Int := beN ((xs.drop (20 + 4 * i)).take 4)
def decD (xs : List Int) (h : Bool) : Pd := ⟨xs.getD 0 0, xs.getD 1 0, xs.getD 2 0, xs.getD 3 0, xs.getD 9 0, beN ((xs.drop 16).take 4), wd xs 0, wd xs 1, wd xs 2, wd xs 3, wd xs 4, wd xs 5, wd xs 6, (xs.drop (atN h)).take (nOf xs)⟩
def decP (xs : List Int) (h d : Bool) : Pd := if decE xs h d = 0 then decD xs h else zeroP
def decN (xs : List Int) (h d : Bool) : Nat := if decE xs h d = 0 then endN xs h d else 0
theorem decP_no {xs : List Int} {h d : Bool} {e : Int} (he : decE xs h d = e) (h0 : e ≠ 0) : decP xs h d = zeroP ∧ decN xs h d = 0 := by
  subst he
  exact ⟨if_neg h0, if_neg h0⟩
theorem decP_yes {xs : List Int} {h d : Bool} (he : decE xs h d = 0) : decP xs h d = decD xs h ∧ decN xs h d = endN xs h d := ⟨if_pos he, if_pos he⟩
theorem rgetV_in {xs : List Int} {at_ n : Int} (h : 1 ≤ n ∧ n ≤ 8 ∧ 0 ≤ at_ ∧ at_ + n ≤ xs.length) : rgetV xs at_ n = beN ((xs.drop at_.toNat).take n.toNat) := by
  have h0 : rfieldE xs.length at_ n = 0 := by unfold rfieldE; rw [if_neg (by omega), if_neg (by omega)]
  unfold rgetV
  rw [if_pos h0]
theorem beN_bd {xs : List Int} (hb : ByteL xs) (a n : Nat) : 0 ≤ beN ((xs.drop a).take n) ∧ beN ((xs.drop a).take n) < 256 ^ n := by
  refine ⟨beN_nonneg ((hb.drop a).take n), Int.lt_of_lt_of_le (beN_lt ((hb.drop a).take n)) ?_⟩
  have hl : ((xs.drop a).take n).length ≤ n := by rw [List.length_take]; omega
  have h2 : (256 : Nat) ^ ((xs.drop a).take n).length ≤ 256 ^ n := Nat.pow_le_pow_right (by decide) hl
  have h3 : (((256 : Nat) ^ ((xs.drop a).take n).length : Nat) : Int) ≤ ((256 ^ n : Nat) : Int) := by omega
  simpa using h3
theorem n_conv {xs : List Int} (hb : ByteL xs) (hl : 48 ≤ xs.length) : IntKind.i64.wrap (rgetV xs 5 3) = ((nOf xs : Nat) : Int) := by
  obtain ⟨h1, h2⟩ := beN_bd hb 5 3
  rw [show (256 : Int) ^ 3 = 16777216 by decide] at h2
  rw [rgetV_in (by omega)]
  show IntKind.i64.wrap (beN ((xs.drop 5).take 3)) = _
  rw [wi _ (by omega)]
  unfold nOf
  omega
theorem nOf_lt {xs : List Int} (hb : ByteL xs) : nOf xs < 16777216 := by
  obtain ⟨h1, h2⟩ := beN_bd hb 5 3
  rw [show (256 : Int) ^ 3 = 16777216 by decide] at h2
  unfold nOf
  omega
theorem w_conv {xs : List Int} (hb : ByteL xs) {a : Nat} (hl : a + 4 ≤ xs.length) : IntKind.u32.wrap (rgetV xs (a : Int) 4) = beN ((xs.drop a).take 4) := by
  obtain ⟨h1, h2⟩ := beN_bd hb a 4
  rw [show (256 : Int) ^ 4 = 4294967296 by decide] at h2
  rw [rgetV_in (by omega)]
  show IntKind.u32.wrap (beN ((xs.drop a).take 4)) = _
  rw [w32]
  omega
theorem rs_at {j : Nat} (hj : j < 8) : ([Value.int .i64 4, .int .i64 8, .int .i64 10, .int .i64 11, .int .i64 12, .int .i64 13, .int .i64 14, .int .i64 15] : List Value)[0 + ((j : Int)).toNat * 1]? = some (.int .i64 (rsI.getD j 0)) := by
  have : j = 0 ∨ j = 1 ∨ j = 2 ∨ j = 3 ∨ j = 4 ∨ j = 5 ∨ j = 6 ∨ j = 7 := by omega
  rcases this with h | h | h | h | h | h | h | h <;> subst h <;> rfl
theorem rs_bd {j : Nat} (hj : j < 8) : 4 ≤ rsI.getD j 0 ∧ rsI.getD j 0 ≤ 15 := by
  have : j = 0 ∨ j = 1 ∨ j = 2 ∨ j = 3 ∨ j = 4 ∨ j = 5 ∨ j = 6 ∨ j = 7 := by omega
  rcases this with h | h | h | h | h | h | h | h <;> subst h <;> decide
theorem Rsv.step {xs : List Int} {j : Nat} (h : Rsv xs j) (h0 : xs.getD (rsI.getD j 0).toNat 0 = 0) : Rsv xs (j + 1) := fun i hi => by
  by_cases hij : i = j
  · rw [hij]; exact h0
  · exact h i (by omega)
theorem Zer.step {xs : List Int} {a j : Nat} (h : Zer xs a j) (h0 : xs.getD (a + j) 0 = 0) : Zer xs a (j + 1) := fun i hi => by
  by_cases hij : i = j
  · rw [hij]; exact h0
  · exact h i (by omega)
def wj (xs : List Int) (j i : Nat) : Int := if i < j then wd xs i else 0
theorem mOf_le (xs : List Int) : nOf xs ≤ mOf xs ∧ mOf xs ≤ nOf xs + 3 := by unfold mOf padN; omega
theorem e_8 {xs : List Int} {h d : Bool} (a : xs.length < atN h) : decE xs h d = 8 := by unfold decE; rw [if_pos a]
theorem e_5 {xs : List Int} {h d : Bool} (a : ¬ xs.length < atN h) (b : h = true ∧ ¬ (beB 4 (c32 (xs.take 48)) = (xs.drop 48).take 4)) : decE xs h d = 5 := by unfold decE; rw [if_neg a, if_pos b]
theorem e_3 {xs : List Int} {h d : Bool} (a : ¬ xs.length < atN h) (b : ¬ (h = true ∧ ¬ (beB 4 (c32 (xs.take 48)) = (xs.drop 48).take 4))) (c : nOf xs > 8192 ∨ ¬ Rsv xs 8) : decE xs h d = 3 := by unfold decE; rw [if_neg a, if_neg b, if_pos c]
theorem e_8' {xs : List Int} {h d : Bool} (a : ¬ xs.length < atN h) (b : ¬ (h = true ∧ ¬ (beB 4 (c32 (xs.take 48)) = (xs.drop 48).take 4))) (c : ¬ (nOf xs > 8192 ∨ ¬ Rsv xs 8)) (f : xs.length < endN xs h d) : decE xs h d = 8 := by unfold decE; rw [if_neg a, if_neg b, if_neg c, if_pos f]
theorem e_5' {xs : List Int} {h d : Bool} (a : ¬ xs.length < atN h) (b : ¬ (h = true ∧ ¬ (beB 4 (c32 (xs.take 48)) = (xs.drop 48).take 4))) (c : ¬ (nOf xs > 8192 ∨ ¬ Rsv xs 8)) (f : ¬ xs.length < endN xs h d) (g : (d = true ∧ 0 < mOf xs) ∧ ¬ (beB 4 (c32 ((xs.drop (atN h)).take (mOf xs))) = (xs.drop (atN h + mOf xs)).take 4)) : decE xs h d = 5 := by unfold decE; rw [if_neg a, if_neg b, if_neg c, if_neg f, if_pos g]
theorem e_3' {xs : List Int} {h d : Bool} (a : ¬ xs.length < atN h) (b : ¬ (h = true ∧ ¬ (beB 4 (c32 (xs.take 48)) = (xs.drop 48).take 4))) (c : ¬ (nOf xs > 8192 ∨ ¬ Rsv xs 8)) (f : ¬ xs.length < endN xs h d) (g : ¬ ((d = true ∧ 0 < mOf xs) ∧ ¬ (beB 4 (c32 ((xs.drop (atN h)).take (mOf xs))) = (xs.drop (atN h + mOf xs)).take 4))) (i : ¬ Zer xs (atN h + nOf xs) (padN (nOf xs))) : decE xs h d = 3 := by unfold decE; rw [if_neg a, if_neg b, if_neg c, if_neg f, if_neg g, if_pos i]
theorem e_0 {xs : List Int} {h d : Bool} (a : ¬ xs.length < atN h) (b : ¬ (h = true ∧ ¬ (beB 4 (c32 (xs.take 48)) = (xs.drop 48).take 4))) (c : ¬ (nOf xs > 8192 ∨ ¬ Rsv xs 8)) (f : ¬ xs.length < endN xs h d) (g : ¬ ((d = true ∧ 0 < mOf xs) ∧ ¬ (beB 4 (c32 ((xs.drop (atN h)).take (mOf xs))) = (xs.drop (atN h + mOf xs)).take 4))) (i : Zer xs (atN h + nOf xs) (padN (nOf xs))) : decE xs h d = 0 := by unfold decE; rw [if_neg a, if_neg b, if_neg c, if_neg f, if_neg g, if_neg (fun hn => hn i)]
end Go.Proofs.Ytfjlniemgmimnaa.Abs
