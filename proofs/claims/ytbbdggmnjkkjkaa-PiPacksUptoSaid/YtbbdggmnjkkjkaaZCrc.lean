/- The guard by shifted bytes and the guard by single bits are one. -/
import Derived.Test.YtbbdggmnjkkjkaaFCrc
import Derived.Laws.BitsAllLaws
set_option linter.unusedVariables false
set_option linter.unusedSimpArgs false
namespace Go.Proofs.Ytbbdggmnjkkjkaa.Abs
open Go Go.RowKit
theorem u16_mod (n : Int) : IntKind.u16.wrap n = n % 65536 := by simp [IntKind.wrap, IntKind.bits, IntKind.signed]
def st16 (s : BitVec 16) : BitVec 16 := if s.getLsbD 15 = true then (s <<< 1) ^^^ 35767#16 else s <<< 1
theorem xor16 (a b : BitVec 16) : Go.bits .xor .u16 (a.toNat : Int) (b.toNat : Int) = ((a ^^^ b).toNat : Int) := by
  rw [u16_xor_nat _ _ a.isLt b.isLt, BitVec.toNat_xor]
theorem shl16 (a : BitVec 16) : IntKind.u16.wrap ((a.toNat : Int) * 2) = ((a <<< 1).toNat : Int) := by
  rw [u16_mod, BitVec.toNat_shiftLeft, Nat.shiftLeft_eq]
  simp
theorem fdiv_nat (a k : Nat) : ((a : Int).fdiv (2 ^ k)) = ((a / 2 ^ k : Nat) : Int) := by
  rw [Int.fdiv_eq_ediv_of_nonneg _ (Int.le_of_lt (Int.pow_pos (by decide)))]
  simp
theorem high16 (a : BitVec 16) : (((a.toNat : Int).fdiv (2 ^ min (15 : Int).toNat IntKind.u16.bits)) == 1) = a.getLsbD 15 := by
  have := a.isLt
  rw [show min (15 : Int).toNat IntKind.u16.bits = 15 by decide, fdiv_nat]
  rw [Bool.eq_iff_iff]
  simp only [BitVec.getLsbD, Nat.testBit_eq_decide_div_mod_eq, decide_eq_true_eq, beq_iff_eq]
  omega
theorem c16b_eq (s : BitVec 16) : c16b (s.toNat : Int) = ((st16 s).toNat : Int) := by
  have hs : IntKind.u16.wrap ((s.toNat : Int) * 2 ^ min (1 : Int).toNat IntKind.u16.bits) = ((s <<< 1).toNat : Int) := shl16 s
  unfold st16
  by_cases hb : s.getLsbD 15 = true
  · rw [if_pos hb, c16b_t (by rw [high16]; exact hb), hs, show (35767 : Int) = ((35767#16 : BitVec 16).toNat : Int) from rfl, xor16]
  · rw [if_neg hb, c16b_f (by rw [high16]; simpa using hb), hs]
def byteB (b : Nat) : BitVec 16 := BitVec.ofNat 16 b <<< 8
theorem b16 {b : Nat} (h : b < 256) : IntKind.u16.wrap (IntKind.u16.wrap (b : Int) * 2 ^ min (8 : Int).toNat IntKind.u16.bits) = ((byteB b).toNat : Int) := by
  rw [show (2 : Int) ^ min (8 : Int).toNat IntKind.u16.bits = 256 by decide, u16_mod, u16_mod, byteB, BitVec.toNat_shiftLeft, BitVec.toNat_ofNat, Nat.shiftLeft_eq]
  omega
theorem rep_st (n : Nat) (s : BitVec 16) : rep c16b n (s.toNat : Int) = ((rep st16 n s).toNat : Int) := by
  induction n with
  | zero => rfl
  | succ n ih => rw [rep_succ, rep_succ, ih, c16b_eq]
theorem c16y_eq {b : Nat} (h : b < 256) (s : BitVec 16) : c16y (s.toNat : Int) (b : Int) = ((rep st16 8 (s ^^^ byteB b)).toNat : Int) := by
  unfold c16y
  rw [b16 h, xor16, rep_st]
def rs16 (b : Bool) (r : BitVec 16) : BitVec 16 := if (r.getLsbD 15 ^^ b) = true then (r <<< 1) ^^^ 35767#16 else r <<< 1
theorem st_rs16 (r B : BitVec 16) : st16 (r ^^^ B) = rs16 (B.getLsbD 15) r ^^^ (B <<< 1) := by
  unfold st16 rs16
  rw [BitVec.getLsbD_xor, BitVec.shiftLeft_xor_distrib]
  by_cases h : (r.getLsbD 15 ^^ B.getLsbD 15) = true
  · rw [if_pos h, if_pos h, BitVec.xor_assoc, BitVec.xor_assoc, BitVec.xor_comm (B <<< 1)]
  · rw [if_neg h, if_neg h]
theorem B_bit16 (b i : Nat) (hb : b < 256) (hi : i < 8) : (byteB b <<< i).getLsbD 15 = b.testBit (7 - i) := by
  unfold byteB
  rw [← BitVec.shiftLeft_add, BitVec.getLsbD_shiftLeft, BitVec.getLsbD_ofNat]
  have h1 : 15 - (8 + i) = 7 - i := by omega
  have h2 : ¬ (15 < 8 + i) := by omega
  simp [h1, h2]
  omega
theorem bit16 (b i : Nat) (hb : b < 256) (hi : i < 8) : Go.bits .and .u16 (IntKind.u16.wrap ((b : Int).fdiv (2 ^ min (7 - (i : Int)).toNat IntKind.u8.bits))) 1 = (((b / 2 ^ (7 - i) % 2 : Nat)) : Int) := by
  have hm : min (7 - (i : Int)).toNat IntKind.u8.bits = 7 - i := by simp [IntKind.bits]; omega
  have hd : b / 2 ^ (7 - i) < 256 := Nat.lt_of_le_of_lt (Nat.div_le_self _ _) hb
  rw [hm, fdiv_nat]
  generalize b / 2 ^ (7 - i) = q at hd
  rw [u16_mod, show (q : Int) % 65536 = (q : Int) from by omega, show (1 : Int) = ((1 : Nat) : Int) from rfl, u16_and_nat _ _ (by omega) (by decide), Nat.and_one_is_mod]
theorem test16 (r : BitVec 16) (b i : Nat) (hb : b < 256) (hi : i < 8) :
    (Go.bits .xor .u16 ((r.toNat : Int).fdiv (2 ^ min (15 : Int).toNat IntKind.u16.bits)) (Go.bits .and .u16 (IntKind.u16.wrap ((b : Int).fdiv (2 ^ min (7 - (i : Int)).toNat IntKind.u8.bits))) 1) == 1) = (r.getLsbD 15 ^^ b.testBit (7 - i)) := by
  rw [bit16 b i hb hi]
  have hr := r.isLt
  have hx : b / 2 ^ (7 - i) % 2 < 65536 := by omega
  rw [show min (15 : Int).toNat IntKind.u16.bits = 15 by decide, fdiv_nat, u16_xor_nat _ _ (by omega) hx]
  have h1 : r.getLsbD 15 = decide (r.toNat / 2 ^ 15 = 1) := by
    simp only [BitVec.getLsbD, Nat.testBit_eq_decide_div_mod_eq]
    apply decide_eq_decide.mpr
    omega
  rw [h1, Nat.testBit_eq_decide_div_mod_eq]
  have c1 : r.toNat / 2 ^ 15 = 0 ∨ r.toNat / 2 ^ 15 = 1 := by omega
  have c2 : b / 2 ^ (7 - i) % 2 = 0 ∨ b / 2 ^ (7 - i) % 2 = 1 := by omega
  rcases c1 with c1 | c1 <;> rcases c2 with c2 | c2 <;> rw [c1, c2] <;> decide
theorem r16b_eq (r : BitVec 16) (b i : Nat) (hb : b < 256) (hi : i < 8) : r16b (b : Int) i (r.toNat : Int) = ((rs16 (b.testBit (7 - i)) r).toNat : Int) := by
  have hs : IntKind.u16.wrap ((r.toNat : Int) * 2 ^ min (1 : Int).toNat IntKind.u16.bits) = ((r <<< 1).toNat : Int) := shl16 r
  unfold rs16
  by_cases ht : (r.getLsbD 15 ^^ b.testBit (7 - i)) = true
  · rw [if_pos ht, r16b_t (by rw [test16 r b i hb hi]; exact ht), hs, show (35767 : Int) = ((35767#16 : BitVec 16).toNat : Int) from rfl, xor16]
  · rw [if_neg ht, r16b_f (by rw [test16 r b i hb hi]; simpa using ht), hs]
theorem both16 (b : Nat) (hb : b < 256) (s : BitVec 16) : ∀ i, i ≤ 8 → ∃ r : BitVec 16, repI (r16b (b : Int)) i (s.toNat : Int) = (r.toNat : Int) ∧ rep st16 i (s ^^^ byteB b) = r ^^^ (byteB b <<< i)
  | 0, _ => ⟨s, rfl, by simp [rep]⟩
  | i + 1, hi => by
    obtain ⟨r, h1, h2⟩ := both16 b hb s i (by omega)
    refine ⟨rs16 (b.testBit (7 - i)) r, ?_, ?_⟩
    · show r16b (b : Int) i (repI (r16b (b : Int)) i (s.toNat : Int)) = _
      rw [h1, r16b_eq r b i hb (by omega)]
    · rw [rep_succ, h2, st_rs16, B_bit16 b i hb (by omega), ← BitVec.shiftLeft_add]
theorem c16y_r16y {b : Nat} (hb : b < 256) (s : BitVec 16) : c16y (s.toNat : Int) (b : Int) = r16y (s.toNat : Int) (b : Int) ∧ ∃ r : BitVec 16, c16y (s.toNat : Int) (b : Int) = (r.toNat : Int) := by
  obtain ⟨r, h1, h2⟩ := both16 b hb s 8 (Nat.le_refl _)
  have hz : byteB b <<< 8 = 0#16 := by
    unfold byteB
    rw [← BitVec.shiftLeft_add]
    exact BitVec.shiftLeft_eq_zero (by omega)
  rw [hz, BitVec.xor_zero] at h2
  refine ⟨?_, _, c16y_eq hb s⟩
  unfold r16y
  rw [c16y_eq hb, h2, h1]
def Bytes (l : List Int) : Prop := ∀ x ∈ l, 0 ≤ x ∧ x ≤ 255
/-- THE LAW: the sums are one. -/
theorem fold16 : ∀ (l : List Int) (s : BitVec 16), Bytes l → l.foldl c16y (s.toNat : Int) = l.foldl r16y (s.toNat : Int) ∧ ∃ r : BitVec 16, l.foldl c16y (s.toNat : Int) = (r.toNat : Int)
  | [], s, _ => ⟨rfl, s, rfl⟩
  | x :: l, s, hb => by
    obtain ⟨h0, h1⟩ := hb x (by simp)
    obtain ⟨b, rfl⟩ : ∃ b : Nat, x = (b : Int) := ⟨x.toNat, by omega⟩
    obtain ⟨e, r, hr⟩ := c16y_r16y (b := b) (by omega) s
    obtain ⟨e2, r2⟩ := fold16 l r (fun y hy => hb y (List.mem_cons_of_mem _ hy))
    simp only [List.foldl_cons, ← e, hr]
    exact ⟨e2, r2⟩
end Go.Proofs.Ytbbdggmnjkkjkaa.Abs
