/- PDUs in pieces, in plain words: a longer text is read as its beginning is. -/
import Derived.Test.YtfjlniemgmimnaaU8
set_option linter.unusedVariables false
set_option linter.unusedSimpArgs false
set_option linter.unusedSectionVars false
set_option maxRecDepth 100000
namespace Go.Proofs.Ytfjlniemgmimnaa.Abs
open Go Go.RowKit
theorem part_app {xs ys : List Int} {a n : Nat} (h : a + n ≤ xs.length) : ((xs ++ ys).drop a).take n = (xs.drop a).take n := by
  rw [List.drop_append_of_le_length (by omega), List.take_append_of_le_length (by rw [List.length_drop]; omega)]
theorem getD_app {xs ys : List Int} {i : Nat} (h : i < xs.length) : (xs ++ ys).getD i 0 = xs.getD i 0 := by
  simp [List.getD, List.getElem?_append_left h]
theorem dec_more {xs ys : List Int} {h d : Bool} (hne : decE xs h d ≠ 8) : decE (xs ++ ys) h d = decE xs h d ∧ decP (xs ++ ys) h d = decP xs h d ∧ decN (xs ++ ys) h d = decN xs h d := by
  have a : ¬ xs.length < atN h := fun a => hne (e_8 a)
  have al := atN_le h
  have a' : ¬ (xs ++ ys).length < atN h := by rw [List.length_append]; omega
  have t48 : (xs ++ ys).take 48 = xs.take 48 := List.take_append_of_le_length (by omega)
  have hn : nOf (xs ++ ys) = nOf xs := nOf_take t48
  have hm : mOf (xs ++ ys) = mOf xs := by unfold mOf; rw [hn]
  have he : endN (xs ++ ys) h d = endN xs h d := by unfold endN; rw [hm]
  have hr : Rsv (xs ++ ys) 8 ↔ Rsv xs 8 := ⟨Rsv_take t48.symm, Rsv_take t48⟩
  have err : ∀ e : Int, e ≠ 0 → decE xs h d = e → decE (xs ++ ys) h d = e → decE (xs ++ ys) h d = decE xs h d ∧ decP (xs ++ ys) h d = decP xs h d ∧ decN (xs ++ ys) h d = decN xs h d := fun e e0 e1 e2 => by
    obtain ⟨p1, p2⟩ := decP_no e1 e0
    obtain ⟨q1, q2⟩ := decP_no e2 e0
    exact ⟨e2.trans e1.symm, q1.trans p1.symm, q2.trans p2.symm⟩
  have hb : (h = true ∧ ¬ (beB 4 (c32 ((xs ++ ys).take 48)) = ((xs ++ ys).drop 48).take 4)) ↔ (h = true ∧ ¬ (beB 4 (c32 (xs.take 48)) = (xs.drop 48).take 4)) := by
    rw [t48]
    constructor
    · rintro ⟨h1, h2⟩
      have : atN h = 52 := by rw [h1]; rfl
      rw [part_app (by omega)] at h2
      exact ⟨h1, h2⟩
    · rintro ⟨h1, h2⟩
      have : atN h = 52 := by rw [h1]; rfl
      rw [part_app (by omega)]
      exact ⟨h1, h2⟩
  by_cases b : h = true ∧ ¬ (beB 4 (c32 (xs.take 48)) = (xs.drop 48).take 4)
  · exact err 5 (by decide) (e_5 a b) (e_5 a' (hb.2 b))
  have b' := fun x => b (hb.1 x)
  by_cases c : nOf xs > 8192 ∨ ¬ Rsv xs 8
  · exact err 3 (by decide) (e_3 a b c) (e_3 a' b' (by rw [hn, hr]; exact c))
  have c' : ¬ (nOf (xs ++ ys) > 8192 ∨ ¬ Rsv (xs ++ ys) 8) := by rw [hn, hr]; exact c
  by_cases f : xs.length < endN xs h d
  · exact absurd (e_8' a b c f) hne
  have f' : ¬ (xs ++ ys).length < endN (xs ++ ys) h d := by rw [he, List.length_append]; omega
  have hend : atN h + mOf xs ≤ endN xs h d ∧ (d = true ∧ 0 < mOf xs → atN h + mOf xs + 4 ≤ endN xs h d) := by
    unfold endN
    split
    · omega
    · rename_i hc; exact ⟨by omega, fun x => absurd x hc⟩
  have hg : ((d = true ∧ 0 < mOf (xs ++ ys)) ∧ ¬ (beB 4 (c32 (((xs ++ ys).drop (atN h)).take (mOf (xs ++ ys)))) = ((xs ++ ys).drop (atN h + mOf (xs ++ ys))).take 4)) ↔ ((d = true ∧ 0 < mOf xs) ∧ ¬ (beB 4 (c32 ((xs.drop (atN h)).take (mOf xs))) = (xs.drop (atN h + mOf xs)).take 4)) := by
    rw [hm, part_app (by omega)]
    constructor
    · rintro ⟨h1, h2⟩
      have := hend.2 h1
      rw [part_app (by omega)] at h2
      exact ⟨h1, h2⟩
    · rintro ⟨h1, h2⟩
      have := hend.2 h1
      rw [part_app (by omega)]
      exact ⟨h1, h2⟩
  by_cases g : (d = true ∧ 0 < mOf xs) ∧ ¬ (beB 4 (c32 ((xs.drop (atN h)).take (mOf xs))) = (xs.drop (atN h + mOf xs)).take 4)
  · exact err 5 (by decide) (e_5' a b c f g) (e_5' a' b' c' f' (hg.2 g))
  have g' := fun x => g (hg.1 x)
  have hml : mOf xs = nOf xs + padN (nOf xs) := rfl
  have hz : Zer (xs ++ ys) (atN h + nOf (xs ++ ys)) (padN (nOf (xs ++ ys))) ↔ Zer xs (atN h + nOf xs) (padN (nOf xs)) := by
    rw [hn]
    constructor
    · intro z i hi
      rw [← getD_app (ys := ys) (by omega)]
      exact z i hi
    · intro z i hi
      rw [getD_app (by omega)]
      exact z i hi
  by_cases i : Zer xs (atN h + nOf xs) (padN (nOf xs))
  · have e0 := e_0 a b c f g i
    have e0' := e_0 a' b' c' f' g' (hz.2 i)
    obtain ⟨p1, p2⟩ := decP_yes e0
    obtain ⟨q1, q2⟩ := decP_yes e0'
    refine ⟨e0'.trans e0.symm, ?_, by rw [q2, p2, he]⟩
    rw [q1, p1]
    have w : ∀ k, k < 7 → wd (xs ++ ys) k = wd xs k := fun k hk => by unfold wd; rw [part_app (by omega)]
    unfold decD
    rw [getD_app (by omega), getD_app (by omega), getD_app (by omega), getD_app (by omega), getD_app (by omega), part_app (by omega), w 0 (by omega), w 1 (by omega), w 2 (by omega), w 3 (by omega), w 4 (by omega), w 5 (by omega), w 6 (by omega), hn, part_app (by omega)]
  · exact err 3 (by decide) (e_3' a b c f g i) (e_3' a' b' c' f' g' (fun x => i (hz.1 x)))
theorem dec_len {xs : List Int} {h d : Bool} (he : decE xs h d = 0) : 0 < decN xs h d ∧ decN xs h d ≤ xs.length := by
  obtain ⟨_, p2⟩ := decP_yes he
  have al := atN_le h
  rw [p2]
  refine ⟨by unfold endN; omega, ?_⟩
  by_cases f : xs.length < endN xs h d
  · exfalso
    unfold decE at he
    split at he
    · cases he
    · split at he
      · cases he
      · split at he
        · cases he
        · first | (rw [if_pos f] at he; cases he) | exact absurd he (by decide)
  · omega
/-- The PDUs of a text, and what ends them. -/
inductive AllR (h d : Bool) : List Int → List Pd → Int → Prop
  | stop {xs : List Int} (h0 : decE xs h d ≠ 0) : AllR h d xs [] (decE xs h d)
  | step {xs : List Int} {ps : List Pd} {e : Int} (h0 : decE xs h d = 0) (r : AllR h d (xs.drop (decN xs h d)) ps e) : AllR h d xs (decP xs h d :: ps) e
theorem AllR.no {h d : Bool} {xs : List Int} {ps : List Pd} {e : Int} (r : AllR h d xs ps e) (h0 : decE xs h d ≠ 0) : ps = [] ∧ e = decE xs h d := by
  cases r with
  | stop _ => exact ⟨rfl, rfl⟩
  | step h1 _ => exact absurd h1 h0
theorem AllR.yes {h d : Bool} {xs : List Int} {ps : List Pd} {e : Int} (r : AllR h d xs ps e) (h0 : decE xs h d = 0) : ∃ qs, ps = decP xs h d :: qs ∧ AllR h d (xs.drop (decN xs h d)) qs e := by
  cases r with
  | stop h1 => exact absurd h0 h1
  | step _ r => exact ⟨_, rfl, r⟩
/-- What a reader holds, behind n PDUs taken, where `rest` is still to come. -/
theorem rd_yes {h d : Bool} {k rest : List Int} {W : List Pd} {n : Nat} {e : Int} (r : AllR h d (k ++ rest) (W.drop n) e) (h0 : decE k h d = 0) : ∃ hn : n < W.length, W[n] = decP k h d ∧ AllR h d (k.drop (decN k h d) ++ rest) (W.drop (n + 1)) e := by
  obtain ⟨m1, m2, m3⟩ := dec_more (ys := rest) (show decE k h d ≠ 8 by rw [h0]; decide)
  obtain ⟨qs, e1, r1⟩ := r.yes (m1.trans h0)
  have hn : n < W.length := by
    rcases Nat.lt_or_ge n W.length with h | h
    · exact h
    · rw [List.drop_of_length_le h] at e1; cases e1
  rw [List.drop_eq_getElem_cons hn] at e1
  injection e1 with e1 e2
  refine ⟨hn, e1.trans m2, ?_⟩
  rw [e2]
  have hl := (dec_len h0).2
  rw [m3, List.drop_append_of_le_length hl] at r1
  exact r1
theorem rd_no {h d : Bool} {k rest : List Int} {W : List Pd} {n : Nat} {e : Int} (r : AllR h d (k ++ rest) (W.drop n) e) (h0 : decE k h d ≠ 0) (h8 : decE k h d ≠ 8 ∨ rest = []) : W.length ≤ n ∧ e = decE k h d := by
  have h1 : decE (k ++ rest) h d = decE k h d := by
    rcases h8 with h8 | h8
    · exact (dec_more h8).1
    · rw [h8, List.append_nil]
  obtain ⟨e1, e2⟩ := r.no (by rw [h1]; exact h0)
  exact ⟨List.drop_eq_nil_iff.1 e1, e2.trans h1⟩
end Go.Proofs.Ytfjlniemgmimnaa.Abs
