/- Sense data, read: how the document guesses. -/
import Derived.Test.YtloigiieoehimaaE11
set_option linter.unusedVariables false
set_option linter.unusedSimpArgs false
set_option maxRecDepth 100000
namespace Go.Proofs.Ytloigiieoehimaa.Abs
open Go Go.RowKit
def refS (g : Sn) (xs : List Int) (a : Nat) : Sn := { g with hf := true, ic := bits .and .u8 (xs.getD a 0) 64 != 0, bit := if (bits .and .u8 (xs.getD a 0) 8 != 0) = true then IntKind.i64.wrap ((xs.getD a 0).tmod 8) else -1, fld := IntKind.i64.wrap (rgetV xs ((a : Int) + 1) 2) }
theorem refS_wf {g : Sn} {xs : List Int} {a : Nat} (hg : g.wf) : (refS g xs a).wf := by
  obtain ⟨h1, h2, h3, h4, h5⟩ := hg
  refine ⟨h1, h2, h3, ?_, ?_⟩
  · show -9223372036854775808 ≤ IntKind.i64.wrap _ ∧ IntKind.i64.wrap _ < 9223372036854775808
    rw [IntKind.wrap_i64]; omega
  · show -9223372036854775808 ≤ (if _ then _ else _) ∧ (if _ then _ else (-1 : Int)) < 9223372036854775808
    split
    · rw [IntKind.wrap_i64]; omega
    · omega
theorem ref_key {s g : Sn} {xs : List Int} {a : Nat} (hf : 0 ≤ s.fld ∧ s.fld ≤ 65535 ∧ -1 ≤ s.bit ∧ s.bit ≤ 7) (hk : (xs.drop a).take 3 = keyB s) (ha : a + 3 ≤ xs.length) : refS g xs a = { g with hf := true, ic := s.ic, bit := s.bit, fld := s.fld } := by
  have g0 : xs.getD a 0 = (keyB s).getD 0 0 := by rw [← hk]; simp [List.getD, List.getElem?_take]
  obtain ⟨q1, q2, q3, q4, q5⟩ := key_bits hf _ g0.symm
  have e : (xs.drop (a + 1)).take 2 = [s.fld / 256, s.fld % 256] := by
    rw [show (xs.drop (a + 1)).take 2 = ((xs.drop a).take 3).drop 1 by rw [List.drop_take, List.drop_drop], hk]; rfl
  have ef : rgetV xs ((a : Int) + 1) 2 = s.fld := by
    rw [rgetV_in (by omega), show ((a : Int) + 1).toNat = a + 1 by omega, show ((2 : Int)).toNat = 2 from rfl, e]
    show (0 * 256 + s.fld / 256) * 256 + s.fld % 256 = s.fld
    omega
  unfold refS
  rw [q2, q5, ef, wi _ (by omega)]
theorem lensD {s : Sn} {xs : List Int} (h : Enc s xs) (hl : xs.length ≠ 18) : (s.hi = true ↔ xs.length = 20 ∨ xs.length = 28) ∧ (s.hf = true ↔ xs.length = 16 ∨ xs.length = 28) := by
  obtain ⟨e, _⟩ := enc_desc h hl
  cases hi : s.hi <;> cases hf : s.hf <;> rw [hi, hf] at e <;> simp at e <;> simp <;> omega
theorem infoD {s : Sn} {xs : List Int} (h : Enc s xs) (hl : xs.length ≠ 18) : (s.hi = true → s.info = rgetV xs 12 8) ∧ (s.hi = false → s.info = 0) := by
  obtain ⟨e0, _, _, _, _, e5, _, _⟩ := enc_desc h hl
  refine ⟨fun hi => ?_, fun hi => form_noinfo h.2.1 hi⟩
  rw [if_pos hi] at e0
  rw [rgetV_in (by omega)]
  exact (e5 hi).2.2.1.symm
theorem keyD {s : Sn} {xs : List Int} (h : Enc s xs) (hl : xs.length ≠ 18) (hf : s.hf = true) : (xs.drop (xs.length - 4)).take 3 = keyB s ∧ xs.getD (xs.length - 4) 0 ≥ 128 := by
  obtain ⟨e0, _, _, _, _, e5, e6, _⟩ := enc_desc h hl
  rw [if_pos hf] at e0
  have key : (xs.drop (xs.length - 4)).take 3 = keyB s := by
    cases hi : s.hi
    · rw [if_neg (by simp [hi])] at e0
      rw [show xs.length - 4 = 8 + 4 by omega, ← List.drop_drop, e6 hi]
      unfold fldD; rw [if_pos hf]; rfl
    · rw [if_pos hi] at e0
      rw [show xs.length - 4 = 20 + 4 by omega, ← List.drop_drop, (e5 hi).2.2.2]
      unfold fldD; rw [if_pos hf]; rfl
  refine ⟨key, ?_⟩
  have g0 : xs.getD (xs.length - 4) 0 = (keyB s).getD 0 0 := by rw [← key]; simp [List.getD, List.getElem?_take]
  exact (key_bits (form_key h.2.1 hf) _ g0.symm).2.2.2.1
theorem no_fld {s g : Sn} {xs : List Int} (h : Enc s xs) (gb : Bas s g) (g0 : Zer g) (hf : s.hf = false) : s = g := by
  obtain ⟨q1, q2, q3⟩ := form_nofield h.2.1 hf
  obtain ⟨z1, z2, z3, z4⟩ := g0
  exact sn_eq gb (by rw [q1, z1]) (by rw [q2, z2]) (by rw [hf, z3]) (by rw [q3, z4])
theorem fixHf {s : Sn} {xs : List Int} (h : Enc s xs) (hl : xs.length = 18) : (s.hf = true → (xs.drop 15).take 3 = keyB s ∧ xs.getD 15 0 ≥ 128) ∧ (s.hf = false → xs.getD 15 0 = 0) := by
  obtain ⟨_, _, _, _, _, e, _⟩ := enc_fix h hl
  unfold fldB3 at e
  refine ⟨fun hf => ?_, fun hf => ?_⟩
  · rw [if_pos hf] at e
    refine ⟨by rw [e]; rfl, ?_⟩
    have g0 : xs.getD 15 0 = (keyB s).getD 0 0 := by rw [← getD0_drop, e]
    exact (key_bits (form_key h.2.1 hf) _ g0.symm).2.2.2.1
  · rw [if_neg (by simp [hf])] at e
    rw [← getD0_drop, e]; rfl
/-- With a field told. -/
theorem refFix {s g : Sn} {xs : List Int} (h : Enc s xs) (hl : xs.length = 18) (gb : Bas s g) (h15 : xs.getD 15 0 ≥ 128) : s = refS g xs 15 := by
  obtain ⟨q1, q2⟩ := fixHf h hl
  cases hf : s.hf
  · have := q2 hf; omega
  · rw [ref_key (form_key h.2.1 hf) (q1 hf).1 (by omega)]
    exact sn_eq gb rfl rfl hf rfl
theorem refDesc {s g : Sn} {xs : List Int} (h : Enc s xs) (hl : xs.length ≠ 18) (gb : Bas s g) (h16 : xs.length = 16 ∨ xs.length = 28) : s = refS g xs (xs.length - 4) := by
  have hf := (lensD h hl).2.2 h16
  rw [ref_key (form_key h.2.1 hf) (keyD h hl hf).1 (by omega)]
  exact sn_eq gb rfl rfl hf rfl
end Go.Proofs.Ytloigiieoehimaa.Abs
