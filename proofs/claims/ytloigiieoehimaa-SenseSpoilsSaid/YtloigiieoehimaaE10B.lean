/- Sense data, read: how the parts are guessed. -/
import Derived.Test.YtloigiieoehimaaE10
set_option linter.unusedVariables false
set_option linter.unusedSimpArgs false
set_option maxRecDepth 100000
namespace Go.Proofs.Ytloigiieoehimaa.Abs
open Go Go.RowKit
def Bas (s g : Sn) : Prop := s.key = g.key ∧ s.code = g.code ∧ s.info = g.info ∧ s.hi = g.hi
def Zer (g : Sn) : Prop := g.fld = 0 ∧ g.bit = 0 ∧ g.hf = false ∧ g.ic = false
theorem rgetV_in {xs : List Int} {at_ n : Int} (h : 1 ≤ n ∧ n ≤ 8 ∧ 0 ≤ at_ ∧ at_ + n ≤ xs.length) : rgetV xs at_ n = beN ((xs.drop at_.toNat).take n.toNat) := by
  have h0 : rfieldE xs.length at_ n = 0 := by unfold rfieldE; rw [if_neg (by omega), if_neg (by omega)]
  unfold rgetV
  rw [if_pos h0]
theorem beN_bd {xs : List Int} (hb : ByteL xs) (a n : Nat) (hn : n ≤ 8) : 0 ≤ beN ((xs.drop a).take n) ∧ beN ((xs.drop a).take n) < 18446744073709551616 := by
  have h1 := beN_nonneg ((hb.drop a).take n)
  have h2 := beN_lt ((hb.drop a).take n)
  refine ⟨h1, Int.lt_of_lt_of_le h2 ?_⟩
  have : ((xs.drop a).take n).length ≤ 8 := by rw [List.length_take]; omega
  have h3 : ((xs.drop a).take n).length = 0 ∨ ((xs.drop a).take n).length = 1 ∨ ((xs.drop a).take n).length = 2 ∨ ((xs.drop a).take n).length = 3 ∨ ((xs.drop a).take n).length = 4 ∨ ((xs.drop a).take n).length = 5 ∨ ((xs.drop a).take n).length = 6 ∨ ((xs.drop a).take n).length = 7 ∨ ((xs.drop a).take n).length = 8 := by omega
  rcases h3 with h | h | h | h | h | h | h | h | h <;> rw [h] <;> decide
theorem rgetV_bd {xs : List Int} (hb : ByteL xs) (at_ n : Int) : 0 ≤ rgetV xs at_ n ∧ rgetV xs at_ n < 18446744073709551616 := by
  unfold rgetV
  split
  · rename_i h
    have := rfieldE_ok h
    exact beN_bd hb _ _ (by omega)
  · omega
theorem sn_eq {s g : Sn} (h : Bas s g) (h1 : s.fld = g.fld) (h2 : s.bit = g.bit) (h3 : s.hf = g.hf) (h4 : s.ic = g.ic) : s = g := by
  obtain ⟨a, b, c, d⟩ := h
  cases s; cases g
  simp only at *
  subst a b c d h1 h2 h3 h4
  rfl
theorem getD0_drop {xs : List Int} {n : Nat} : (xs.drop n).getD 0 0 = xs.getD n 0 := by simp [List.getD]
theorem fixA {s g : Sn} {xs : List Int} (h : Enc s xs) (hl : xs.length = 18) (gb : Bas s g) (g0 : Zer g) (h15 : xs.getD 15 0 = 0) : s = g := by
  obtain ⟨_, _, _, _, _, e, _⟩ := enc_fix h hl
  cases hf : s.hf
  · obtain ⟨q1, q2, q3⟩ := form_nofield h.2.1 hf
    obtain ⟨z1, z2, z3, z4⟩ := g0
    exact sn_eq gb (by rw [q1, z1]) (by rw [q2, z2]) (by rw [hf, z3]) (by rw [q3, z4])
  · obtain ⟨_, _, _, q, _⟩ := key_bits (form_key h.2.1 hf) _ rfl
    unfold fldB3 at e
    rw [if_pos hf] at e
    rw [← e, getD0_drop, h15] at q
    exact absurd q (by decide)
theorem fixB {s g : Sn} {xs : List Int} (h : Enc s xs) (hl : xs.length = 18) (gb : Bas s g) (g0 : Zer g) (h15 : ¬ xs.getD 15 0 = 0) : unk ((xs.drop 15).getD 0 0) = true ∧ s = unkS g (xs.drop 15) := by
  obtain ⟨_, _, _, _, _, e, _⟩ := enc_fix h hl
  unfold fldB3 at e
  cases hf : s.hf
  · rw [if_neg (by simp [hf])] at e
    rw [← getD0_drop, e] at h15
    exact absurd rfl h15
  · rw [if_pos hf] at e
    obtain ⟨q1, q2⟩ := unkS_key (s := s) (g := g) (xs := xs.drop 15) (form_key h.2.1 hf) (by rw [e]; rfl)
    refine ⟨q1, ?_⟩
    rw [q2]
    exact sn_eq gb rfl rfl hf rfl
theorem descA {s g : Sn} {xs r : List Int} (h : Enc s xs) (hr : r = fldD s) (gb : Bas s g) (g0 : Zer g) (h8 : ¬ 8 ≤ r.length) : s = g := by
  unfold fldD at hr
  cases hf : s.hf
  · obtain ⟨q1, q2, q3⟩ := form_nofield h.2.1 hf
    obtain ⟨z1, z2, z3, z4⟩ := g0
    exact sn_eq gb (by rw [q1, z1]) (by rw [q2, z2]) (by rw [hf, z3]) (by rw [q3, z4])
  · rw [if_pos hf] at hr
    exact absurd (by rw [hr]; simp [keyB]) h8
theorem descU {s g : Sn} {xs r : List Int} (h : Enc s xs) (hr : r = fldD s) (gb : Bas s g) (g0 : Zer g) (h8 : 8 ≤ r.length) : unk ((r.drop 4).getD 0 0) = true ∧ s = unkS g (r.drop 4) := by
  unfold fldD at hr
  cases hf : s.hf
  · rw [if_neg (by simp [hf])] at hr
    rw [hr] at h8
    exact absurd h8 (by decide)
  · rw [if_pos hf] at hr
    obtain ⟨q1, q2⟩ := unkS_key (s := s) (g := g) (xs := r.drop 4) (form_key h.2.1 hf) (by rw [hr]; rfl)
    refine ⟨q1, ?_⟩
    rw [q2]
    exact sn_eq gb rfl rfl hf rfl
theorem enc_and {s : Sn} {xs : List Int} (h : Enc s xs) (hl : xs.length = 18) : bits .and .u8 (xs.getD 0 0) 127 = 112 ∧ (bits .and .u8 (xs.getD 0 0) 128 != 0) = s.hi ∧ decide (xs.getD 0 0 ≥ 128) = s.hi := by
  obtain ⟨e, _⟩ := enc_fix h hl
  rw [e]
  cases s.hi <;> decide
theorem basF {s : Sn} {xs : List Int} (h : Enc s xs) (hl : xs.length = 18) : s.key = xs.getD 2 0 ∧ s.code = xs.getD 12 0 * 256 + xs.getD 13 0 ∧ s.code = rgetV xs 12 2 ∧ (s.hi = true → s.info = rgetV xs 3 4) ∧ (s.hi = false → s.info = 0) := by
  obtain ⟨_, e1, e2, e3, e4, _⟩ := enc_fix h hl
  refine ⟨e1.symm, e2.symm, ?_, fun _ => ?_, fun hi => form_noinfo h.2.1 hi⟩
  · rw [rgetV_in (by omega)]; exact e4.symm
  · rw [rgetV_in (by omega)]; exact e3.symm
theorem descHi {s : Sn} {xs : List Int} (h : Enc s xs) (hl : xs.length ≠ 18) (c : 12 ≤ (xs.drop 8).length) (c0 : (xs.drop 8).getD 0 0 = 0) : s.hi = true ∧ s.info = rgetV (xs.drop 8) 4 8 ∧ (xs.drop 8).drop 12 = fldD s := by
  obtain ⟨e0, _, _, _, _, e5, e6, _⟩ := enc_desc h hl
  cases hi : s.hi
  · rw [e6 hi] at c
    unfold fldD at c
    split at c
    · simp [keyB] at c
    · simp at c
  · obtain ⟨_, q2, _, q4⟩ := e5 hi
    refine ⟨rfl, ?_, ?_⟩
    · rw [rgetV_in (by omega)]; exact q2.symm
    · rw [List.drop_drop]; exact q4
theorem descLo {s : Sn} {xs : List Int} (h : Enc s xs) (hl : xs.length ≠ 18) (c : ¬ (12 ≤ (xs.drop 8).length ∧ (xs.drop 8).getD 0 0 = 0)) : s.hi = false ∧ s.info = 0 ∧ xs.drop 8 = fldD s := by
  obtain ⟨e0, _, _, _, _, e5, e6, _⟩ := enc_desc h hl
  cases hi : s.hi
  · exact ⟨rfl, form_noinfo h.2.1 hi, e6 hi⟩
  · rw [if_pos hi] at e0
    refine absurd ⟨?_, (e5 hi).1⟩ c
    rw [List.length_drop]; omega
theorem basD {s : Sn} {xs : List Int} (h : Enc s xs) (hl : xs.length ≠ 18) : s.key = xs.getD 1 0 ∧ s.code = xs.getD 2 0 * 256 + xs.getD 3 0 ∧ s.code = rgetV xs 2 2 ∧ 8 ≤ xs.length ∧ xs.getD 0 0 = 114 := by
  obtain ⟨e0, e1, e2, e3, e4, _⟩ := enc_desc h hl
  refine ⟨e2.symm, e3.symm, ?_, by omega, e1⟩
  rw [rgetV_in (by omega)]; exact e4.symm
end Go.Proofs.Ytloigiieoehimaa.Abs
