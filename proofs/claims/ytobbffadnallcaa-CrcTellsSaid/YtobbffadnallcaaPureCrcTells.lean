/- Bytes that differ in one byte alone have unlike sums, both of them: of any bytes, at any place, by any byte: no condition. -/
import Derived.Test.YtobbffadnallcaaPCrcTellsx1
import Derived.Laws.BitsAllLaws
set_option linter.unusedVariables false
set_option linter.unusedSimpArgs false
namespace Go.Proofs.Ytobbffadnallcaa.Pure
open Go.RowKit Go.Proofs.Ytobbffadnallcaa.PCrcTells Go.Proofs.YtobbffadnallcaaW.PrintWords Go.Proofs.YtobbffadnallcaaW.PrintLast Go.Proofs.YtobbffadnallcaaW.PrintMore

theorem w64_id {n : Int} (h0 : -9223372036854775808 ≤ n) (h1 : n ≤ 9223372036854775807) : wrap64 n = n := by
  unfold wrap64
  omega
def Bytes (l : List Int) : Prop := ∀ x ∈ l, 0 ≤ x ∧ x ≤ 255
theorem bytes_of_wf {l : List Int} (h : ∀ x ∈ l, (Lit.int .u8 x).wf = true) : Bytes l := by
  intro x hx
  have := h x hx
  simp [Lit.wf, IntKind.min, IntKind.max, IntKind.signed, IntKind.bits] at this
  omega
theorem rd_nat (l : List Int) (i : Nat) (h : i < l.length) : rd l (i : Int) = l[i] := by
  simp [rd, h]
theorem Bytes.at {l : List Int} (hb : Bytes l) (i : Nat) (h : i < l.length) : 0 ≤ l[i] ∧ l[i] ≤ 255 := hb _ (List.getElem_mem h)
theorem u16_mod (n : Int) : IntKind.u16.wrap n = n % 65536 := by simp [IntKind.wrap, IntKind.bits, IntKind.signed]

/-- One step of the sum of 32 bits, the lowest bit first; j of them. -/
def st32 (s : BitVec 32) : BitVec 32 := if s.getLsbD 0 = true then (s >>> 1) ^^^ 2197175160#32 else s >>> 1
def it32 : Nat → BitVec 32 → BitVec 32
  | 0, s => s
  | j + 1, s => it32 j (st32 s)
def by32 (s : BitVec 32) (x : Int) : BitVec 32 := it32 8 (s ^^^ BitVec.ofNat 32 x.toNat)
def st16 (s : BitVec 16) : BitVec 16 := if s.getLsbD 15 = true then (s <<< 1) ^^^ 35767#16 else s <<< 1
def it16 : Nat → BitVec 16 → BitVec 16
  | 0, s => s
  | j + 1, s => it16 j (st16 s)
def by16 (s : BitVec 16) (x : Int) : BitVec 16 := it16 8 (s ^^^ (BitVec.ofNat 16 x.toNat <<< 8))

theorem xor32 (a b : BitVec 32) : Go.bits .xor .u32 (a.toNat : Int) (b.toNat : Int) = ((a ^^^ b).toNat : Int) := by
  rw [u32_xor_nat _ _ a.isLt b.isLt, BitVec.toNat_xor]
theorem xor16 (a b : BitVec 16) : Go.bits .xor .u16 (a.toNat : Int) (b.toNat : Int) = ((a ^^^ b).toNat : Int) := by
  rw [u16_xor_nat _ _ a.isLt b.isLt, BitVec.toNat_xor]
theorem shr32 (a : BitVec 32) : (a.toNat : Int) / (2 : Int) = ((a >>> 1).toNat : Int) := by
  rw [BitVec.toNat_ushiftRight, Nat.shiftRight_eq_div_pow]
  simp
theorem shl16 (a : BitVec 16) : IntKind.u16.wrap ((a.toNat : Int) * 2) = ((a <<< 1).toNat : Int) := by
  rw [u16_mod, BitVec.toNat_shiftLeft, Nat.shiftLeft_eq]
  simp
theorem low32 (a : BitVec 32) : (Go.bits .and .u32 (a.toNat : Int) 1 = 1) ↔ a.getLsbD 0 = true := by
  rw [show (1 : Int) = ((1 : Nat) : Int) from rfl, u32_and_nat _ _ a.isLt (by decide), Nat.and_one_is_mod]
  simp [BitVec.getLsbD, Nat.testBit_zero]
  omega
theorem high16 (a : BitVec 16) : ((a.toNat : Int) / 32768 = 1) ↔ a.getLsbD 15 = true := by
  have := a.isLt
  simp only [BitVec.getLsbD, Nat.testBit_eq_decide_div_mod_eq, decide_eq_true_eq]
  omega
theorem st32_int (s : BitVec 32) (f : Int → Option Int) (R : Option Int) (h : f ((st32 s).toNat : Int) = R) :
    (if Go.bits .and .u32 (s.toNat : Int) 1 = 1 then f (Go.bits .xor .u32 ((s.toNat : Int) / 2) 2197175160) else f ((s.toNat : Int) / 2)) = R := by
  unfold st32 at h
  by_cases hb : s.getLsbD 0 = true
  · rw [if_pos hb] at h
    rw [if_pos ((low32 s).mpr hb), shr32, show (2197175160 : Int) = ((2197175160#32 : BitVec 32).toNat : Int) from rfl, xor32]
    exact h
  · rw [if_neg hb] at h
    rw [if_neg (fun hh => hb ((low32 s).mp hh)), shr32]
    exact h
theorem st16_int (s : BitVec 16) (f : Int → Option Int) (R : Option Int) (h : f ((st16 s).toNat : Int) = R) :
    (if (s.toNat : Int) / 32768 = 1 then f (Go.bits .xor .u16 (IntKind.u16.wrap ((s.toNat : Int) * 2)) 35767) else f (IntKind.u16.wrap ((s.toNat : Int) * 2))) = R := by
  unfold st16 at h
  by_cases hb : s.getLsbD 15 = true
  · rw [if_pos hb] at h
    rw [if_pos ((high16 s).mpr hb), shl16, show (35767 : Int) = ((35767#16 : BitVec 16).toNat : Int) from rfl, xor16]
    exact h
  · rw [if_neg hb] at h
    rw [if_neg (fun hh => hb ((high16 s).mp hh)), shl16]
    exact h
theorem b32 {x : Int} (h : 0 ≤ x ∧ x ≤ 255) : x % 4294967296 = ((BitVec.ofNat 32 x.toNat).toNat : Int) := by
  rw [BitVec.toNat_ofNat]
  omega
theorem b16 {x : Int} (h : 0 ≤ x ∧ x ≤ 255) : IntKind.u16.wrap ((IntKind.u16.wrap x) * 256) = ((BitVec.ofNat 16 x.toNat <<< 8).toNat : Int) := by
  rw [u16_mod, u16_mod, BitVec.toNat_shiftLeft, BitVec.toNat_ofNat, Nat.shiftLeft_eq]
  omega
theorem add32_bits (ys : List Int) (n i : Int) (hi0 : 0 ≤ i) (hi : i ≤ 140737488351232) (M : Nat) (R : Option Int) : ∀ (j k : Nat) (s : BitVec 32), j ≤ 8 → M + j + 1 < k → (∀ k, M < k → crc_Add32.l0 k ((it32 j s).toNat : Int) ys n (wrap64 (i + 1)) = R) →
    crc_Add32.l1 k (s.toNat : Int) ys n i ((8 - j : Nat) : Int) = R := by
  intro j
  induction j with
  | zero =>
    intro k s hj hk h
    obtain ⟨k, rfl⟩ : ∃ q, k = q + 1 := ⟨k - 1, by omega⟩
    simp only [crc_Add32.l1]
    rw [if_neg (by omega)]
    exact h k (by omega)
  | succ j ih =>
    intro k s hj hk h
    obtain ⟨k, rfl⟩ : ∃ q, k = q + 1 := ⟨k - 1, by omega⟩
    simp only [crc_Add32.l1]
    rw [if_pos (by omega), w64_id (by omega) (by omega), show (((8 - (j + 1) : Nat) : Int) + 1) = ((8 - j : Nat) : Int) from by omega]
    exact st32_int s (fun x => crc_Add32.l1 k x ys n i ((8 - j : Nat) : Int)) R (ih k (st32 s) (by omega) (by omega) h)
theorem add16_bits (ys : List Int) (n i : Int) (hi0 : 0 ≤ i) (hi : i ≤ 140737488351232) (M : Nat) (R : Option Int) : ∀ (j k : Nat) (s : BitVec 16), j ≤ 8 → M + j + 1 < k → (∀ k, M < k → crc_Add16.l0 k ((it16 j s).toNat : Int) ys n (wrap64 (i + 1)) = R) →
    crc_Add16.l1 k (s.toNat : Int) ys n i ((8 - j : Nat) : Int) = R := by
  intro j
  induction j with
  | zero =>
    intro k s hj hk h
    obtain ⟨k, rfl⟩ : ∃ q, k = q + 1 := ⟨k - 1, by omega⟩
    simp only [crc_Add16.l1]
    rw [if_neg (by omega)]
    exact h k (by omega)
  | succ j ih =>
    intro k s hj hk h
    obtain ⟨k, rfl⟩ : ∃ q, k = q + 1 := ⟨k - 1, by omega⟩
    simp only [crc_Add16.l1]
    rw [if_pos (by omega), w64_id (by omega) (by omega), show (((8 - (j + 1) : Nat) : Int) + 1) = ((8 - j : Nat) : Int) from by omega]
    exact st16_int s (fun x => crc_Add16.l1 k x ys n i ((8 - j : Nat) : Int)) R (ih k (st16 s) (by omega) (by omega) h)
theorem not32 (s : BitVec 32) : Go.bits .xor .u32 4294967295 (s.toNat : Int) = ((~~~ s).toNat : Int) := by
  rw [show (4294967295 : Int) = ((4294967295#32 : BitVec 32).toNat : Int) from rfl, xor32, show 4294967295#32 = BitVec.allOnes 32 from rfl, BitVec.allOnes_xor]
theorem add32_all (ys : List Int) (hb : Bytes ys) (hl : (ys.length : Int) ≤ 140737488351232) : ∀ (d k : Nat) (s : BitVec 32), d ≤ ys.length → 12 * d < k →
    crc_Add32.l0 k (s.toNat : Int) ys ys.length ((ys.length - d : Nat) : Int) = some ((~~~ ((ys.drop (ys.length - d)).foldl by32 s)).toNat : Int) := by
  intro d
  induction d with
  | zero =>
    intro k s hd hk
    obtain ⟨k, rfl⟩ : ∃ q, k = q + 1 := ⟨k - 1, by omega⟩
    simp only [crc_Add32.l0]
    rw [if_neg (by omega), not32, Nat.sub_zero, List.drop_length]
    rfl
  | succ d ih =>
    intro k s hd hk
    obtain ⟨k, rfl⟩ : ∃ q, k = q + 1 := ⟨k - 1, by omega⟩
    obtain ⟨i, hi⟩ : ∃ i, i = ys.length - (d + 1) := ⟨_, rfl⟩
    have hlt : i < ys.length := by omega
    have hbi := hb.at i hlt
    simp only [crc_Add32.l0]
    rw [← hi, if_pos (by omega), if_pos (by omega), if_pos (by omega), rd_nat ys i hlt, b32 hbi, xor32]
    rw [show (0 : Int) = ((8 - 8 : Nat) : Int) from rfl]
    refine add32_bits ys ys.length i (by omega) (by omega) (12 * d) _ 8 k _ (by omega) (by omega) fun k hk => ?_
    rw [w64_id (by omega) (by omega), show ((i : Int) + 1) = ((ys.length - d : Nat) : Int) from by omega, ih k _ (by omega) (by omega), List.drop_eq_getElem_cons hlt, show i + 1 = ys.length - d from by omega]
    rfl
theorem add16_all (ys : List Int) (hb : Bytes ys) (hl : (ys.length : Int) ≤ 140737488351232) : ∀ (d k : Nat) (s : BitVec 16), d ≤ ys.length → 12 * d < k →
    crc_Add16.l0 k (s.toNat : Int) ys ys.length ((ys.length - d : Nat) : Int) = some (((ys.drop (ys.length - d)).foldl by16 s).toNat : Int) := by
  intro d
  induction d with
  | zero =>
    intro k s hd hk
    obtain ⟨k, rfl⟩ : ∃ q, k = q + 1 := ⟨k - 1, by omega⟩
    simp only [crc_Add16.l0]
    rw [if_neg (by omega), Nat.sub_zero, List.drop_length]
    rfl
  | succ d ih =>
    intro k s hd hk
    obtain ⟨k, rfl⟩ : ∃ q, k = q + 1 := ⟨k - 1, by omega⟩
    obtain ⟨i, hi⟩ : ∃ i, i = ys.length - (d + 1) := ⟨_, rfl⟩
    have hlt : i < ys.length := by omega
    have hbi := hb.at i hlt
    simp only [crc_Add16.l0]
    rw [← hi, if_pos (by omega), if_pos (by omega), if_pos (by omega), rd_nat ys i hlt, b16 hbi, xor16]
    rw [show (0 : Int) = ((8 - 8 : Nat) : Int) from rfl]
    refine add16_bits ys ys.length i (by omega) (by omega) (12 * d) _ 8 k _ (by omega) (by omega) fun k hk => ?_
    rw [w64_id (by omega) (by omega), show ((i : Int) + 1) = ((ys.length - d : Nat) : Int) from by omega, ih k _ (by omega) (by omega), List.drop_eq_getElem_cons hlt, show i + 1 = ys.length - d from by omega]
    rfl
def add32S (s : BitVec 32) (l : List Int) : BitVec 32 := ~~~ (l.foldl by32 (~~~ s))
def add16S (s : BitVec 16) (l : List Int) : BitVec 16 := l.foldl by16 s
theorem add32_ok (l : List Int) (hb : Bytes l) (hl : (l.length : Int) ≤ 140737488351232) (s : BitVec 32) (k : Nat) (hk : 12 * l.length < k) : crc_Add32.f k (s.toNat : Int) l = some ((add32S s l).toNat : Int) := by
  unfold crc_Add32.f
  have := add32_all l hb hl l.length k (~~~ s) (Nat.le_refl _) hk
  rw [Nat.sub_self] at this
  rw [not32]
  exact this
theorem add16_ok (l : List Int) (hb : Bytes l) (hl : (l.length : Int) ≤ 140737488351232) (s : BitVec 16) (k : Nat) (hk : 12 * l.length < k) : crc_Add16.f k (s.toNat : Int) l = some ((add16S s l).toNat : Int) := by
  unfold crc_Add16.f
  have := add16_all l hb hl l.length k s (Nat.le_refl _) hk
  rw [Nat.sub_self] at this
  exact this
theorem c32_ok (l : List Int) (hb : Bytes l) (hl : (l.length : Int) ≤ 140737488351232) (k : Nat) (hk : 12 * l.length < k) : crc_C32.f k l = some ((add32S 0#32 l).toNat : Int) := by
  unfold crc_C32.f
  have := add32_ok l hb hl 0#32 k hk
  rw [show ((0#32 : BitVec 32).toNat : Int) = 0 from rfl] at this
  rw [this]
  rfl
theorem c16_ok (l : List Int) (hb : Bytes l) (hl : (l.length : Int) ≤ 140737488351232) (k : Nat) (hk : 12 * l.length < k) : crc_C16.f k l = some ((add16S 0#16 l).toNat : Int) := by
  unfold crc_C16.f
  have := add16_ok l hb hl 0#16 k hk
  rw [show ((0#16 : BitVec 16).toNat : Int) = 0 from rfl] at this
  rw [this]
  rfl
theorem awake_ok (k : Nat) (hk : 108 < k) : palletlaw02_awake.f k = some true := by
  have hb : Bytes [49, 50, 51, 52, 53, 54, 55, 56, 57] := by intro x hx; simp at hx; omega
  have h1 := c32_ok _ hb (by decide) k hk
  have h2 := c16_ok _ hb (by decide) k hk
  rw [show ((add32S 0#32 [49, 50, 51, 52, 53, 54, 55, 56, 57]).toNat : Int) = 3808858755 from by decide +kernel] at h1
  rw [show ((add16S 0#16 [49, 50, 51, 52, 53, 54, 55, 56, 57]).toNat : Int) = 53467 from by decide +kernel] at h2
  unfold palletlaw02_awake.f
  simp only [Option.bind_some]
  rw [h1]
  simp only [Option.bind_some, if_true]
  rw [h2]
  rfl
theorem u32_val {x : Int} (h : (Lit.int .u32 x).wf = true) : ∃ s : BitVec 32, x = (s.toNat : Int) := by
  simp [Lit.wf, IntKind.min, IntKind.max, IntKind.signed, IntKind.bits] at h
  refine ⟨BitVec.ofNat 32 x.toNat, ?_⟩
  rw [BitVec.toNat_ofNat]
  omega
theorem u16_val {x : Int} (h : (Lit.int .u16 x).wf = true) : ∃ s : BitVec 16, x = (s.toNat : Int) := by
  simp [Lit.wf, IntKind.min, IntKind.max, IntKind.signed, IntKind.bits] at h
  refine ⟨BitVec.ofNat 16 x.toNat, ?_⟩
  rw [BitVec.toNat_ofNat]
  omega

theorem st32_inj (s t : BitVec 32) (h : st32 s = st32 t) : s = t := by
  have top : ∀ s : BitVec 32, (st32 s).getLsbD 31 = s.getLsbD 0 := fun s => by
    unfold st32
    by_cases hb : s.getLsbD 0 = true
    · rw [if_pos hb, BitVec.getLsbD_xor, BitVec.getLsbD_ushiftRight, BitVec.getLsbD_of_ge _ _ (by omega), hb]
      decide
    · rw [if_neg hb, BitVec.getLsbD_ushiftRight, BitVec.getLsbD_of_ge _ _ (by omega)]
      simpa using hb
  have h0 : s.getLsbD 0 = t.getLsbD 0 := by rw [← top s, ← top t, h]
  have hs : s >>> 1 = t >>> 1 := by
    unfold st32 at h
    by_cases hb : s.getLsbD 0 = true
    · rw [if_pos hb, if_pos (h0 ▸ hb)] at h
      have := congrArg (· ^^^ 2197175160#32) h
      simpa [BitVec.xor_assoc] using this
    · rw [if_neg hb, if_neg (h0 ▸ hb)] at h
      exact h
  apply BitVec.eq_of_getLsbD_eq
  intro i hi
  match i with
  | 0 => exact h0
  | i + 1 =>
    have := congrArg (fun x : BitVec 32 => x.getLsbD i) hs
    simpa [BitVec.getLsbD_ushiftRight, Nat.add_comm] using this
theorem st16_inj (s t : BitVec 16) (h : st16 s = st16 t) : s = t := by
  have low : ∀ s : BitVec 16, (st16 s).getLsbD 0 = s.getLsbD 15 := fun s => by
    unfold st16
    by_cases hb : s.getLsbD 15 = true
    · rw [if_pos hb, BitVec.getLsbD_xor, BitVec.getLsbD_shiftLeft, hb]
      simp
    · rw [if_neg hb, BitVec.getLsbD_shiftLeft]
      simpa using hb
  have h0 : s.getLsbD 15 = t.getLsbD 15 := by rw [← low s, ← low t, h]
  have hs : s <<< 1 = t <<< 1 := by
    unfold st16 at h
    by_cases hb : s.getLsbD 15 = true
    · rw [if_pos hb, if_pos (h0 ▸ hb)] at h
      have := congrArg (· ^^^ 35767#16) h
      simpa [BitVec.xor_assoc] using this
    · rw [if_neg hb, if_neg (h0 ▸ hb)] at h
      exact h
  apply BitVec.eq_of_getLsbD_eq
  intro i hi
  by_cases h15 : i = 15
  · subst h15
    exact h0
  · have := congrArg (fun x : BitVec 16 => x.getLsbD (i + 1)) hs
    have hlt : i + 1 < 16 := by omega
    have hx : ∀ x : BitVec 16, (x <<< 1).getLsbD (i + 1) = x.getLsbD i := fun x => by
      rw [BitVec.getLsbD_shiftLeft]
      simp [hlt]
    exact (hx s).symm.trans (Eq.trans this (hx t))
theorem it32_inj : ∀ (j : Nat) (s t : BitVec 32), it32 j s = it32 j t → s = t
  | 0, _, _, h => h
  | j + 1, s, t, h => st32_inj s t (it32_inj j _ _ h)
theorem it16_inj : ∀ (j : Nat) (s t : BitVec 16), it16 j s = it16 j t → s = t
  | 0, _, _, h => h
  | j + 1, s, t, h => st16_inj s t (it16_inj j _ _ h)
theorem xor_cancel {n : Nat} {a b c : BitVec n} (h : a ^^^ c = b ^^^ c) : a = b := by
  have := congrArg (· ^^^ c) h
  simpa [BitVec.xor_assoc] using this
theorem xor_cancel_left {n : Nat} {a b c : BitVec n} (h : c ^^^ a = c ^^^ b) : a = b := by
  rw [BitVec.xor_comm c, BitVec.xor_comm c] at h
  exact xor_cancel h
theorem fold32_inj : ∀ (l : List Int) (s t : BitVec 32), l.foldl by32 s = l.foldl by32 t → s = t
  | [], _, _, h => h
  | x :: l, s, t, h => xor_cancel (it32_inj 8 _ _ (fold32_inj l _ _ h))
theorem fold16_inj : ∀ (l : List Int) (s t : BitVec 16), l.foldl by16 s = l.foldl by16 t → s = t
  | [], _, _, h => h
  | x :: l, s, t, h => xor_cancel (it16_inj 8 _ _ (fold16_inj l _ _ h))
theorem by32_ne (s : BitVec 32) (x y : Int) (hx : 0 ≤ x ∧ x ≤ 255) (hy : 0 ≤ y ∧ y ≤ 255) (h : by32 s x = by32 s y) : x = y := by
  have h1 := congrArg BitVec.toNat (xor_cancel_left (it32_inj 8 _ _ h))
  rw [BitVec.toNat_ofNat, BitVec.toNat_ofNat] at h1
  omega
theorem by16_ne (s : BitVec 16) (x y : Int) (hx : 0 ≤ x ∧ x ≤ 255) (hy : 0 ≤ y ∧ y ≤ 255) (h : by16 s x = by16 s y) : x = y := by
  have h1 := congrArg BitVec.toNat (xor_cancel_left (it16_inj 8 _ _ h))
  rw [BitVec.toNat_shiftLeft, BitVec.toNat_shiftLeft, BitVec.toNat_ofNat, BitVec.toNat_ofNat, Nat.shiftLeft_eq, Nat.shiftLeft_eq] at h1
  omega
theorem split_at (l : List Int) (i : Nat) (y : Int) (h : i < l.length) : l = l.take i ++ l[i] :: l.drop (i + 1) ∧ l.set i y = l.take i ++ y :: l.drop (i + 1) := by
  constructor
  · rw [← List.drop_eq_getElem_cons h, List.take_append_drop]
  · rw [List.set_eq_take_append_cons_drop, if_pos h]
theorem CrcTells : palletlaw02_CrcTells.Pure := by
  intro l at_ c _ hl hw ha hc
  have hb := bytes_of_wf hw
  have hat : 0 ≤ at_ ∧ at_ ≤ 65535 := by
    simp [Lit.wf, IntKind.min, IntKind.max, IntKind.signed, IntKind.bits] at ha
    omega
  have hcc : 0 ≤ c ∧ c ≤ 255 := by
    simp [Lit.wf, IntKind.min, IntKind.max, IntKind.signed, IntKind.bits] at hc
    omega
  refine ⟨12 * l.length + 110, ?_⟩
  unfold palletlaw02_CrcTells.f
  rw [awake_ok _ (by omega)]
  simp only [Option.bind_some, if_true]
  by_cases h0 : (l.length : Int) = 0
  · rw [if_pos h0]
    simp [palletlaw02_CrcTells.j0]
  · rw [if_neg h0]
    simp only [palletlaw02_CrcTells.j0]
    by_cases hz : c = 0
    · subst hz
      simp
    · have hz' : (c == 0) = false := by simpa using hz
      rw [hz', if_neg (by decide), if_neg h0, if_pos (by simp; omega), w64_id (by omega) (by omega), Int.tmod_eq_emod_of_nonneg hat.1]
      simp only [Option.bind_some, List.nil_append]
      have m0 : 0 ≤ at_ % (l.length : Int) := Int.emod_nonneg _ (by omega)
      have m1 : at_ % (l.length : Int) < l.length := Int.emod_lt_of_pos _ (by omega)
      obtain ⟨i, hi⟩ := Int.eq_ofNat_of_zero_le m0
      rw [hi, if_pos (by omega), if_pos (by omega)]
      simp only [Int.toNat_natCast]
      have hlt : i < l.length := by omega
      have hbi := hb.at i hlt
      rw [rd_nat l i hlt]
      obtain ⟨x, hx⟩ := Int.eq_ofNat_of_zero_le hbi.1
      obtain ⟨u, rfl⟩ := Int.eq_ofNat_of_zero_le hcc.1
      have hxor : Go.bits .xor .u8 l[i] (u : Int) = ((x ^^^ u : Nat) : Int) := by rw [hx, u8_xor_nat x u (by omega) (by omega)]
      have hlt2 : x ^^^ u < 256 := Nat.xor_lt_two_pow (n := 8) (by omega) (by omega)
      have hne : ((x ^^^ u : Nat) : Int) ≠ l[i] := by
        rw [hx]
        intro h
        have h1 : x ^^^ u = x := by exact_mod_cast h
        have h2 : x ^^^ (x ^^^ u) = x ^^^ x := by rw [h1]
        rw [← Nat.xor_assoc, Nat.xor_self, Nat.zero_xor] at h2
        omega
      rw [hxor]
      have hb2 : Bytes (l.set i ((x ^^^ u : Nat) : Int)) := fun y hy => by
        rcases List.mem_or_eq_of_mem_set hy with hy | hy
        · exact hb y hy
        · omega
      obtain ⟨s1, s2⟩ := split_at l i ((x ^^^ u : Nat) : Int) hlt
      rw [c32_ok l hb (by omega) _ (by omega), c32_ok _ hb2 (by simp only [List.length_set]; omega) _ (by simp only [List.length_set]; omega), c16_ok l hb (by omega) _ (by omega), c16_ok _ hb2 (by simp only [List.length_set]; omega) _ (by simp only [List.length_set]; omega)]
      simp only [Option.bind_some]
      have n32 : add32S 0#32 l ≠ add32S 0#32 (l.set i ((x ^^^ u : Nat) : Int)) := by
        intro h
        unfold add32S at h
        rw [BitVec.not_inj] at h
        rw [s2] at h
        conv at h => lhs; rw [s1]
        rw [List.foldl_append, List.foldl_append, List.foldl_cons, List.foldl_cons] at h
        exact hne (by32_ne _ _ _ hbi ⟨by omega, by omega⟩ (fold32_inj _ _ _ h)).symm
      have n16 : add16S 0#16 l ≠ add16S 0#16 (l.set i ((x ^^^ u : Nat) : Int)) := by
        intro h
        unfold add16S at h
        rw [s2] at h
        conv at h => lhs; rw [s1]
        rw [List.foldl_append, List.foldl_append, List.foldl_cons, List.foldl_cons] at h
        exact hne (by16_ne _ _ _ hbi ⟨by omega, by omega⟩ (fold16_inj _ _ _ h)).symm
      rw [if_neg (fun h => n32 (BitVec.eq_of_toNat_eq (by exact_mod_cast h)))]
      congr 1
      rw [bne_iff_ne]
      exact fun h => n16 (BitVec.eq_of_toNat_eq (by exact_mod_cast h))

end Go.Proofs.Ytobbffadnallcaa.Pure
