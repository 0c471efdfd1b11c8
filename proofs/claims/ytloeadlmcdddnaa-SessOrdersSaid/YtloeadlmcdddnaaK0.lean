/- CRC32C, in plain words: by bits. (My own text; laid with t.sh, behind N2.) -/
import Derived.Test.YtloeadlmcdddnaaN2
import Derived.Laws.BitsAllLaws
set_option linter.unusedVariables false
set_option linter.unusedSimpArgs false
namespace Go.Proofs.Ytloeadlmcdddnaa.Abs
open Go Go.RowKit
def st32 (s : BitVec 32) : BitVec 32 := if s.getLsbD 0 = true then (s >>> 1) ^^^ 2197175160#32 else s >>> 1
def it32 : Nat → BitVec 32 → BitVec 32
  | 0, s => s
  | j + 1, s => st32 (it32 j s)
def by32 (s : BitVec 32) (x : Int) : BitVec 32 := it32 8 (s ^^^ BitVec.ofNat 32 x.toNat)
def fold32 (xs : List Int) : BitVec 32 := xs.foldl by32 (BitVec.allOnes 32)
def c32 (xs : List Int) : Int := ((~~~ fold32 xs).toNat : Int)
theorem c32_bd (xs : List Int) : 0 ≤ c32 xs ∧ c32 xs < 4294967296 := by
  have := (~~~ fold32 xs).isLt
  unfold c32
  omega
theorem xor32 (a b : BitVec 32) : bits .xor .u32 (a.toNat : Int) (b.toNat : Int) = ((a ^^^ b).toNat : Int) := by
  rw [u32_xor_nat _ _ a.isLt b.isLt, BitVec.toNat_xor]
theorem not32 (s : BitVec 32) : bits .xor .u32 4294967295 (s.toNat : Int) = ((~~~ s).toNat : Int) := by
  rw [show (4294967295 : Int) = ((4294967295#32 : BitVec 32).toNat : Int) from rfl, xor32, show 4294967295#32 = BitVec.allOnes 32 from rfl, BitVec.allOnes_xor]
theorem not32' (s : BitVec 32) : bits .xor .u32 (s.toNat : Int) 4294967295 = ((~~~ s).toNat : Int) := by
  rw [show (4294967295 : Int) = ((4294967295#32 : BitVec 32).toNat : Int) from rfl, xor32, show 4294967295#32 = BitVec.allOnes 32 from rfl, BitVec.xor_allOnes]
theorem xorB (s : BitVec 32) {x : Int} (h : 0 ≤ x ∧ x ≤ 255) : bits .xor .u32 (s.toNat : Int) (IntKind.u32.wrap x) = ((s ^^^ BitVec.ofNat 32 x.toNat).toNat : Int) := by
  have e : IntKind.u32.wrap x = ((BitVec.ofNat 32 x.toNat).toNat : Int) := by rw [w32, BitVec.toNat_ofNat]; omega
  rw [e, xor32]
theorem shr1 (a : BitVec 32) : (a.toNat : Int).fdiv (2 ^ min (1 : Int).toNat IntKind.u32.bits) = ((a >>> 1).toNat : Int) := by
  rw [shr_eq, show (2 : Int) ^ min (1 : Int).toNat IntKind.u32.bits = 2 by decide, BitVec.toNat_ushiftRight, Nat.shiftRight_eq_div_pow]
  simp
theorem low32 (a : BitVec 32) : (bits .and .u32 (a.toNat : Int) 1 == 1) = a.getLsbD 0 := by
  rw [show (1 : Int) = ((1 : Nat) : Int) from rfl, u32_and_nat _ _ a.isLt (by decide), Nat.and_one_is_mod, Bool.eq_iff_iff]
  simp [BitVec.getLsbD, Nat.testBit_zero]
  omega
theorem st32_t {r : BitVec 32} (h : (bits .and .u32 (r.toNat : Int) 1 == 1) = true) : bits .xor .u32 ((r.toNat : Int).fdiv (2 ^ min (1 : Int).toNat IntKind.u32.bits)) 2197175160 = ((st32 r).toNat : Int) := by
  rw [low32] at h
  unfold st32
  rw [if_pos h, shr1, show (2197175160 : Int) = ((2197175160#32 : BitVec 32).toNat : Int) from rfl, xor32]
theorem st32_f {r : BitVec 32} (h : (bits .and .u32 (r.toNat : Int) 1 == 1) = false) : (r.toNat : Int).fdiv (2 ^ min (1 : Int).toNat IntKind.u32.bits) = ((st32 r).toNat : Int) := by
  rw [low32] at h
  unfold st32
  rw [if_neg (by rw [h]; decide), shr1]
theorem fold_step {xs : List Int} {j : Nat} (h : j < xs.length) : fold32 (xs.take (j + 1)) = it32 8 (fold32 (xs.take j) ^^^ BitVec.ofNat 32 (xs.getD j 0).toNat) := by
  unfold fold32
  rw [List.take_succ_eq_append_getElem h, List.foldl_append]
  simp [by32, List.getD, List.getElem?_eq_getElem h]
/-! the document's, a bit at a time -/
def rs32 (b : Bool) (r : BitVec 32) : BitVec 32 := if (r.getLsbD 0 ^^ b) = true then (r >>> 1) ^^^ 2197175160#32 else r >>> 1
theorem st_rs (r B : BitVec 32) : st32 (r ^^^ B) = rs32 (B.getLsbD 0) r ^^^ (B >>> 1) := by
  unfold st32 rs32
  rw [BitVec.getLsbD_xor, BitVec.ushiftRight_xor_distrib]
  by_cases h : (r.getLsbD 0 ^^ B.getLsbD 0) = true
  · rw [if_pos h, if_pos h, BitVec.xor_assoc, BitVec.xor_assoc, BitVec.xor_comm (B >>> 1)]
  · rw [if_neg h, if_neg h]
def bitV (b : Int) (i : Nat) : Int := bits .and .u32 (IntKind.u32.wrap (b.fdiv (2 ^ min ((i : Int)).toNat IntKind.u8.bits))) 1
theorem bitV_eq {b : Nat} {i : Nat} (hb : b < 256) (hi : i < 8) : bitV (b : Int) i = ((b / 2 ^ i % 2 : Nat) : Int) := by
  have hm : min ((i : Int)).toNat IntKind.u8.bits = i := by simp [IntKind.bits]; omega
  have hd : b / 2 ^ i < 256 := Nat.lt_of_le_of_lt (Nat.div_le_self _ _) hb
  unfold bitV
  rw [hm, Int.fdiv_eq_ediv_of_nonneg _ (Int.le_of_lt (Int.pow_pos (by decide))), show ((b : Int) / 2 ^ i) = ((b / 2 ^ i : Nat) : Int) by simp]
  generalize b / 2 ^ i = q at hd
  rw [w32, show (q : Int) % 4294967296 = (q : Int) from by omega, show (1 : Int) = ((1 : Nat) : Int) from rfl, u32_and_nat _ _ (by omega) (by decide), Nat.and_one_is_mod]
theorem test32 (r : BitVec 32) {b i : Nat} (hb : b < 256) (hi : i < 8) : (bits .and .u32 (bits .xor .u32 (r.toNat : Int) (bitV (b : Int) i)) 1 == 1) = (r.getLsbD 0 ^^ b.testBit i) := by
  rw [bitV_eq hb hi]
  have hx : b / 2 ^ i % 2 < 4294967296 := by omega
  rw [u32_xor_nat _ _ r.isLt hx, show (1 : Int) = ((1 : Nat) : Int) from rfl, u32_and_nat _ _ (Nat.xor_lt_two_pow (n := 32) r.isLt hx) (by decide), Nat.and_one_is_mod]
  have h2 : (r.toNat ^^^ (b / 2 ^ i % 2)) % 2 = 1 ↔ ((r.toNat ^^^ (b / 2 ^ i % 2)).testBit 0 = true) := by simp [Nat.testBit_zero]
  have h3 : (b / 2 ^ i % 2).testBit 0 = b.testBit i := by
    rw [Nat.testBit_zero, Nat.testBit_eq_decide_div_mod_eq, Nat.mod_mod]
  rw [Bool.eq_iff_iff, beq_iff_eq, show (((r.toNat ^^^ (b / 2 ^ i % 2)) % 2 : Nat) : Int) = ((1 : Nat) : Int) ↔ (r.toNat ^^^ (b / 2 ^ i % 2)) % 2 = 1 from by omega, h2, Nat.testBit_xor, h3]
  rfl
theorem B_bit {b i : Nat} (hb : b < 256) (hi : i < 8) : ((BitVec.ofNat 32 b) >>> i).getLsbD 0 = b.testBit i := by
  rw [BitVec.getLsbD_ushiftRight, BitVec.getLsbD_ofNat]
  simp
  omega
theorem B_out {b : Nat} (hb : b < 256) : BitVec.ofNat 32 b >>> 8 = 0#32 := by
  apply BitVec.eq_of_toNat_eq
  rw [BitVec.toNat_ushiftRight, BitVec.toNat_ofNat, Nat.shiftRight_eq_div_pow]
  have : b % 2 ^ 32 / 2 ^ 8 = 0 := by omega
  rw [this]
  rfl
/-- One step of the document's loop. -/
theorem rs_step {x : Int} (hx : 0 ≤ x ∧ x ≤ 255) {i : Nat} (hi : i < 8) {S R : BitVec 32} (h : it32 i (S ^^^ BitVec.ofNat 32 x.toNat) = R ^^^ (BitVec.ofNat 32 x.toNat >>> i)) :
    it32 (i + 1) (S ^^^ BitVec.ofNat 32 x.toNat) = rs32 (x.toNat.testBit i) R ^^^ (BitVec.ofNat 32 x.toNat >>> (i + 1)) := by
  show st32 (it32 i _) = _
  rw [h, st_rs, B_bit (by omega) hi, ← BitVec.shiftRight_add]
theorem rs_t {x : Int} (hx : 0 ≤ x ∧ x ≤ 255) {i : Nat} (hi : i < 8) {R : BitVec 32} (h : (bits .and .u32 (bits .xor .u32 (R.toNat : Int) (bitV x i)) 1 == 1) = true) : bits .xor .u32 ((R.toNat : Int).fdiv (2 ^ min (1 : Int).toNat IntKind.u32.bits)) 2197175160 = ((rs32 (x.toNat.testBit i) R).toNat : Int) := by
  obtain ⟨b, rfl⟩ := Int.eq_ofNat_of_zero_le hx.1
  rw [test32 R (by omega) hi] at h
  unfold rs32
  rw [if_pos (by simpa using h), shr1, show (2197175160 : Int) = ((2197175160#32 : BitVec 32).toNat : Int) from rfl, xor32]
theorem rs_f {x : Int} (hx : 0 ≤ x ∧ x ≤ 255) {i : Nat} (hi : i < 8) {R : BitVec 32} (h : (bits .and .u32 (bits .xor .u32 (R.toNat : Int) (bitV x i)) 1 == 1) = false) : (R.toNat : Int).fdiv (2 ^ min (1 : Int).toNat IntKind.u32.bits) = ((rs32 (x.toNat.testBit i) R).toNat : Int) := by
  obtain ⟨b, rfl⟩ := Int.eq_ofNat_of_zero_le hx.1
  rw [test32 R (by omega) hi] at h
  unfold rs32
  rw [if_neg (by rw [show ((b : Int)).toNat = b from rfl, h]; decide), shr1]
theorem rs_end {x : Int} (hx : 0 ≤ x ∧ x ≤ 255) {S R : BitVec 32} (h : it32 8 (S ^^^ BitVec.ofNat 32 x.toNat) = R ^^^ (BitVec.ofNat 32 x.toNat >>> 8)) : R = it32 8 (S ^^^ BitVec.ofNat 32 x.toNat) := by
  rw [B_out (by omega), BitVec.xor_zero] at h
  exact h.symm
/-! one byte turned turns the sum -/
theorem st32_inj (s t : BitVec 32) (h : st32 s = st32 t) : s = t := by
  have top : ∀ s : BitVec 32, (st32 s).getLsbD 31 = s.getLsbD 0 := fun s => by
    unfold st32
    by_cases hb : s.getLsbD 0 = true
    · rw [if_pos hb, BitVec.getLsbD_xor, BitVec.getLsbD_ushiftRight, BitVec.getLsbD_of_ge _ _ (by omega), hb]
      decide
    · rw [if_neg hb, BitVec.getLsbD_ushiftRight, BitVec.getLsbD_of_ge _ _ (by omega)]
      simpa using hb
  have h0 : s.getLsbD 0 = t.getLsbD 0 := by rw [← top s, ← top t, h]
  have hs : s >>> 1 = t >>> 1 := by
    unfold st32 at h
    by_cases hb : s.getLsbD 0 = true
    · rw [if_pos hb, if_pos (h0 ▸ hb)] at h
      have := congrArg (· ^^^ 2197175160#32) h
      simpa [BitVec.xor_assoc] using this
    · rw [if_neg hb, if_neg (h0 ▸ hb)] at h
      exact h
  apply BitVec.eq_of_getLsbD_eq
  intro i hi
  match i with
  | 0 => exact h0
  | i + 1 =>
    have := congrArg (fun x : BitVec 32 => x.getLsbD i) hs
    simpa [BitVec.getLsbD_ushiftRight, Nat.add_comm] using this
theorem it32_inj : ∀ (j : Nat) (s t : BitVec 32), it32 j s = it32 j t → s = t
  | 0, _, _, h => h
  | j + 1, s, t, h => it32_inj j s t (st32_inj _ _ h)
theorem xor_cancel32 {a b c : BitVec 32} (h : a ^^^ c = b ^^^ c) : a = b := by
  have := congrArg (· ^^^ c) h
  simpa [BitVec.xor_assoc] using this
theorem fold32_inj : ∀ (l : List Int) (s t : BitVec 32), l.foldl by32 s = l.foldl by32 t → s = t
  | [], _, _, h => h
  | x :: l, s, t, h => xor_cancel32 (it32_inj 8 _ _ (fold32_inj l _ _ h))
theorem by32_ne (s : BitVec 32) (x y : Int) (hx : 0 ≤ x ∧ x ≤ 255) (hy : 0 ≤ y ∧ y ≤ 255) (h : by32 s x = by32 s y) : x = y := by
  have h0 := it32_inj 8 _ _ h
  rw [BitVec.xor_comm s, BitVec.xor_comm s] at h0
  have h1 := congrArg BitVec.toNat (xor_cancel32 h0)
  rw [BitVec.toNat_ofNat, BitVec.toNat_ofNat] at h1
  omega
theorem tells32 {xs : List Int} (hb : ByteL xs) {i : Nat} (hi : i < xs.length) {v : Int} (hv : 0 ≤ v ∧ v ≤ 255) (hne : v ≠ xs.getD i 0) : c32 (xs.set i v) ≠ c32 xs := by
  intro h
  have e0 : xs.getD i 0 = xs[i] := by simp [List.getD, List.getElem?_eq_getElem hi]
  have e1 : xs = xs.take i ++ xs[i] :: xs.drop (i + 1) := by rw [← List.drop_eq_getElem_cons hi, List.take_append_drop]
  have e2 : xs.set i v = xs.take i ++ v :: xs.drop (i + 1) := by rw [List.set_eq_take_append_cons_drop, if_pos hi]
  have hn : fold32 (xs.set i v) = fold32 xs := by
    have : ~~~ fold32 (xs.set i v) = ~~~ fold32 xs := BitVec.eq_of_toNat_eq (by unfold c32 at h; omega)
    exact BitVec.not_inj.1 this
  unfold fold32 at hn
  rw [e2] at hn
  conv at hn => rhs; rw [e1]
  simp only [List.foldl_append, List.foldl_cons] at hn
  have := by32_ne _ _ _ hv (hb _ (List.getElem_mem hi)) (fold32_inj _ _ _ hn)
  rw [e0] at hne
  exact hne this
end Go.Proofs.Ytloeadlmcdddnaa.Abs
