/- Both sums of any bytes, behind any others, are what the document's long division of bits gives: no condition. -/
import Derived.Test.YtobbffadnallcaaPCrcSumsx2
import Derived.Laws.BitsAllLaws
set_option linter.unusedVariables false
set_option linter.unusedSimpArgs false
namespace Go.Proofs.Ytobbffadnallcaa.Pure
open Go.RowKit Go.Proofs.Ytobbffadnallcaa.PCrcSums Go.Proofs.YtobbffadnallcaaW.PrintWords Go.Proofs.YtobbffadnallcaaW.PrintLast Go.Proofs.YtobbffadnallcaaW.PrintMore

theorem w64_id {n : Int} (h0 : -9223372036854775808 ≤ n) (h1 : n ≤ 9223372036854775807) : wrap64 n = n := by
  unfold wrap64
  omega
def Bytes (l : List Int) : Prop := ∀ x ∈ l, 0 ≤ x ∧ x ≤ 255
theorem bytes_of_wf {l : List Int} (h : ∀ x ∈ l, (Lit.int .u8 x).wf = true) : Bytes l := by
  intro x hx
  have := h x hx
  simp [Lit.wf, IntKind.min, IntKind.max, IntKind.signed, IntKind.bits] at this
  omega
theorem rd_nat (l : List Int) (i : Nat) (h : i < l.length) : rd l (i : Int) = l[i] := by
  simp [rd, h]
theorem Bytes.at {l : List Int} (hb : Bytes l) (i : Nat) (h : i < l.length) : 0 ≤ l[i] ∧ l[i] ≤ 255 := hb _ (List.getElem_mem h)
theorem u16_mod (n : Int) : IntKind.u16.wrap n = n % 65536 := by simp [IntKind.wrap, IntKind.bits, IntKind.signed]

/-- One step of the sum of 32 bits, the lowest bit first; j of them. -/
def st32 (s : BitVec 32) : BitVec 32 := if s.getLsbD 0 = true then (s >>> 1) ^^^ 2197175160#32 else s >>> 1
def it32 : Nat → BitVec 32 → BitVec 32
  | 0, s => s
  | j + 1, s => it32 j (st32 s)
def by32 (s : BitVec 32) (x : Int) : BitVec 32 := it32 8 (s ^^^ BitVec.ofNat 32 x.toNat)
def st16 (s : BitVec 16) : BitVec 16 := if s.getLsbD 15 = true then (s <<< 1) ^^^ 35767#16 else s <<< 1
def it16 : Nat → BitVec 16 → BitVec 16
  | 0, s => s
  | j + 1, s => it16 j (st16 s)
def by16 (s : BitVec 16) (x : Int) : BitVec 16 := it16 8 (s ^^^ (BitVec.ofNat 16 x.toNat <<< 8))

theorem xor32 (a b : BitVec 32) : Go.bits .xor .u32 (a.toNat : Int) (b.toNat : Int) = ((a ^^^ b).toNat : Int) := by
  rw [u32_xor_nat _ _ a.isLt b.isLt, BitVec.toNat_xor]
theorem xor16 (a b : BitVec 16) : Go.bits .xor .u16 (a.toNat : Int) (b.toNat : Int) = ((a ^^^ b).toNat : Int) := by
  rw [u16_xor_nat _ _ a.isLt b.isLt, BitVec.toNat_xor]
theorem shr32 (a : BitVec 32) : (a.toNat : Int) / (2 : Int) = ((a >>> 1).toNat : Int) := by
  rw [BitVec.toNat_ushiftRight, Nat.shiftRight_eq_div_pow]
  simp
theorem shl16 (a : BitVec 16) : IntKind.u16.wrap ((a.toNat : Int) * 2) = ((a <<< 1).toNat : Int) := by
  rw [u16_mod, BitVec.toNat_shiftLeft, Nat.shiftLeft_eq]
  simp
theorem low32 (a : BitVec 32) : (Go.bits .and .u32 (a.toNat : Int) 1 = 1) ↔ a.getLsbD 0 = true := by
  rw [show (1 : Int) = ((1 : Nat) : Int) from rfl, u32_and_nat _ _ a.isLt (by decide), Nat.and_one_is_mod]
  simp [BitVec.getLsbD, Nat.testBit_zero]
  omega
theorem high16 (a : BitVec 16) : ((a.toNat : Int) / 32768 = 1) ↔ a.getLsbD 15 = true := by
  have := a.isLt
  simp only [BitVec.getLsbD, Nat.testBit_eq_decide_div_mod_eq, decide_eq_true_eq]
  omega
theorem st32_int (s : BitVec 32) (f : Int → Option Int) (R : Option Int) (h : f ((st32 s).toNat : Int) = R) :
    (if Go.bits .and .u32 (s.toNat : Int) 1 = 1 then f (Go.bits .xor .u32 ((s.toNat : Int) / 2) 2197175160) else f ((s.toNat : Int) / 2)) = R := by
  unfold st32 at h
  by_cases hb : s.getLsbD 0 = true
  · rw [if_pos hb] at h
    rw [if_pos ((low32 s).mpr hb), shr32, show (2197175160 : Int) = ((2197175160#32 : BitVec 32).toNat : Int) from rfl, xor32]
    exact h
  · rw [if_neg hb] at h
    rw [if_neg (fun hh => hb ((low32 s).mp hh)), shr32]
    exact h
theorem st16_int (s : BitVec 16) (f : Int → Option Int) (R : Option Int) (h : f ((st16 s).toNat : Int) = R) :
    (if (s.toNat : Int) / 32768 = 1 then f (Go.bits .xor .u16 (IntKind.u16.wrap ((s.toNat : Int) * 2)) 35767) else f (IntKind.u16.wrap ((s.toNat : Int) * 2))) = R := by
  unfold st16 at h
  by_cases hb : s.getLsbD 15 = true
  · rw [if_pos hb] at h
    rw [if_pos ((high16 s).mpr hb), shl16, show (35767 : Int) = ((35767#16 : BitVec 16).toNat : Int) from rfl, xor16]
    exact h
  · rw [if_neg hb] at h
    rw [if_neg (fun hh => hb ((high16 s).mp hh)), shl16]
    exact h
theorem b32 {x : Int} (h : 0 ≤ x ∧ x ≤ 255) : x % 4294967296 = ((BitVec.ofNat 32 x.toNat).toNat : Int) := by
  rw [BitVec.toNat_ofNat]
  omega
theorem b16 {x : Int} (h : 0 ≤ x ∧ x ≤ 255) : IntKind.u16.wrap ((IntKind.u16.wrap x) * 256) = ((BitVec.ofNat 16 x.toNat <<< 8).toNat : Int) := by
  rw [u16_mod, u16_mod, BitVec.toNat_shiftLeft, BitVec.toNat_ofNat, Nat.shiftLeft_eq]
  omega
theorem add32_bits (ys : List Int) (n i : Int) (hi0 : 0 ≤ i) (hi : i ≤ 140737488351232) (M : Nat) (R : Option Int) : ∀ (j k : Nat) (s : BitVec 32), j ≤ 8 → M + j + 1 < k → (∀ k, M < k → crc_Add32.l0 k ((it32 j s).toNat : Int) ys n (wrap64 (i + 1)) = R) →
    crc_Add32.l1 k (s.toNat : Int) ys n i ((8 - j : Nat) : Int) = R := by
  intro j
  induction j with
  | zero =>
    intro k s hj hk h
    obtain ⟨k, rfl⟩ : ∃ q, k = q + 1 := ⟨k - 1, by omega⟩
    simp only [crc_Add32.l1]
    rw [if_neg (by omega)]
    exact h k (by omega)
  | succ j ih =>
    intro k s hj hk h
    obtain ⟨k, rfl⟩ : ∃ q, k = q + 1 := ⟨k - 1, by omega⟩
    simp only [crc_Add32.l1]
    rw [if_pos (by omega), w64_id (by omega) (by omega), show (((8 - (j + 1) : Nat) : Int) + 1) = ((8 - j : Nat) : Int) from by omega]
    exact st32_int s (fun x => crc_Add32.l1 k x ys n i ((8 - j : Nat) : Int)) R (ih k (st32 s) (by omega) (by omega) h)
theorem add16_bits (ys : List Int) (n i : Int) (hi0 : 0 ≤ i) (hi : i ≤ 140737488351232) (M : Nat) (R : Option Int) : ∀ (j k : Nat) (s : BitVec 16), j ≤ 8 → M + j + 1 < k → (∀ k, M < k → crc_Add16.l0 k ((it16 j s).toNat : Int) ys n (wrap64 (i + 1)) = R) →
    crc_Add16.l1 k (s.toNat : Int) ys n i ((8 - j : Nat) : Int) = R := by
  intro j
  induction j with
  | zero =>
    intro k s hj hk h
    obtain ⟨k, rfl⟩ : ∃ q, k = q + 1 := ⟨k - 1, by omega⟩
    simp only [crc_Add16.l1]
    rw [if_neg (by omega)]
    exact h k (by omega)
  | succ j ih =>
    intro k s hj hk h
    obtain ⟨k, rfl⟩ : ∃ q, k = q + 1 := ⟨k - 1, by omega⟩
    simp only [crc_Add16.l1]
    rw [if_pos (by omega), w64_id (by omega) (by omega), show (((8 - (j + 1) : Nat) : Int) + 1) = ((8 - j : Nat) : Int) from by omega]
    exact st16_int s (fun x => crc_Add16.l1 k x ys n i ((8 - j : Nat) : Int)) R (ih k (st16 s) (by omega) (by omega) h)
theorem not32 (s : BitVec 32) : Go.bits .xor .u32 4294967295 (s.toNat : Int) = ((~~~ s).toNat : Int) := by
  rw [show (4294967295 : Int) = ((4294967295#32 : BitVec 32).toNat : Int) from rfl, xor32, show 4294967295#32 = BitVec.allOnes 32 from rfl, BitVec.allOnes_xor]
theorem add32_all (ys : List Int) (hb : Bytes ys) (hl : (ys.length : Int) ≤ 140737488351232) : ∀ (d k : Nat) (s : BitVec 32), d ≤ ys.length → 12 * d < k →
    crc_Add32.l0 k (s.toNat : Int) ys ys.length ((ys.length - d : Nat) : Int) = some ((~~~ ((ys.drop (ys.length - d)).foldl by32 s)).toNat : Int) := by
  intro d
  induction d with
  | zero =>
    intro k s hd hk
    obtain ⟨k, rfl⟩ : ∃ q, k = q + 1 := ⟨k - 1, by omega⟩
    simp only [crc_Add32.l0]
    rw [if_neg (by omega), not32, Nat.sub_zero, List.drop_length]
    rfl
  | succ d ih =>
    intro k s hd hk
    obtain ⟨k, rfl⟩ : ∃ q, k = q + 1 := ⟨k - 1, by omega⟩
    obtain ⟨i, hi⟩ : ∃ i, i = ys.length - (d + 1) := ⟨_, rfl⟩
    have hlt : i < ys.length := by omega
    have hbi := hb.at i hlt
    simp only [crc_Add32.l0]
    rw [← hi, if_pos (by omega), if_pos (by omega), if_pos (by omega), rd_nat ys i hlt, b32 hbi, xor32]
    rw [show (0 : Int) = ((8 - 8 : Nat) : Int) from rfl]
    refine add32_bits ys ys.length i (by omega) (by omega) (12 * d) _ 8 k _ (by omega) (by omega) fun k hk => ?_
    rw [w64_id (by omega) (by omega), show ((i : Int) + 1) = ((ys.length - d : Nat) : Int) from by omega, ih k _ (by omega) (by omega), List.drop_eq_getElem_cons hlt, show i + 1 = ys.length - d from by omega]
    rfl
theorem add16_all (ys : List Int) (hb : Bytes ys) (hl : (ys.length : Int) ≤ 140737488351232) : ∀ (d k : Nat) (s : BitVec 16), d ≤ ys.length → 12 * d < k →
    crc_Add16.l0 k (s.toNat : Int) ys ys.length ((ys.length - d : Nat) : Int) = some (((ys.drop (ys.length - d)).foldl by16 s).toNat : Int) := by
  intro d
  induction d with
  | zero =>
    intro k s hd hk
    obtain ⟨k, rfl⟩ : ∃ q, k = q + 1 := ⟨k - 1, by omega⟩
    simp only [crc_Add16.l0]
    rw [if_neg (by omega), Nat.sub_zero, List.drop_length]
    rfl
  | succ d ih =>
    intro k s hd hk
    obtain ⟨k, rfl⟩ : ∃ q, k = q + 1 := ⟨k - 1, by omega⟩
    obtain ⟨i, hi⟩ : ∃ i, i = ys.length - (d + 1) := ⟨_, rfl⟩
    have hlt : i < ys.length := by omega
    have hbi := hb.at i hlt
    simp only [crc_Add16.l0]
    rw [← hi, if_pos (by omega), if_pos (by omega), if_pos (by omega), rd_nat ys i hlt, b16 hbi, xor16]
    rw [show (0 : Int) = ((8 - 8 : Nat) : Int) from rfl]
    refine add16_bits ys ys.length i (by omega) (by omega) (12 * d) _ 8 k _ (by omega) (by omega) fun k hk => ?_
    rw [w64_id (by omega) (by omega), show ((i : Int) + 1) = ((ys.length - d : Nat) : Int) from by omega, ih k _ (by omega) (by omega), List.drop_eq_getElem_cons hlt, show i + 1 = ys.length - d from by omega]
    rfl
def add32S (s : BitVec 32) (l : List Int) : BitVec 32 := ~~~ (l.foldl by32 (~~~ s))
def add16S (s : BitVec 16) (l : List Int) : BitVec 16 := l.foldl by16 s
theorem add32_ok (l : List Int) (hb : Bytes l) (hl : (l.length : Int) ≤ 140737488351232) (s : BitVec 32) (k : Nat) (hk : 12 * l.length < k) : crc_Add32.f k (s.toNat : Int) l = some ((add32S s l).toNat : Int) := by
  unfold crc_Add32.f
  have := add32_all l hb hl l.length k (~~~ s) (Nat.le_refl _) hk
  rw [Nat.sub_self] at this
  rw [not32]
  exact this
theorem add16_ok (l : List Int) (hb : Bytes l) (hl : (l.length : Int) ≤ 140737488351232) (s : BitVec 16) (k : Nat) (hk : 12 * l.length < k) : crc_Add16.f k (s.toNat : Int) l = some ((add16S s l).toNat : Int) := by
  unfold crc_Add16.f
  have := add16_all l hb hl l.length k s (Nat.le_refl _) hk
  rw [Nat.sub_self] at this
  exact this
theorem c32_ok (l : List Int) (hb : Bytes l) (hl : (l.length : Int) ≤ 140737488351232) (k : Nat) (hk : 12 * l.length < k) : crc_C32.f k l = some ((add32S 0#32 l).toNat : Int) := by
  unfold crc_C32.f
  have := add32_ok l hb hl 0#32 k hk
  rw [show ((0#32 : BitVec 32).toNat : Int) = 0 from rfl] at this
  rw [this]
  rfl
theorem c16_ok (l : List Int) (hb : Bytes l) (hl : (l.length : Int) ≤ 140737488351232) (k : Nat) (hk : 12 * l.length < k) : crc_C16.f k l = some ((add16S 0#16 l).toNat : Int) := by
  unfold crc_C16.f
  have := add16_ok l hb hl 0#16 k hk
  rw [show ((0#16 : BitVec 16).toNat : Int) = 0 from rfl] at this
  rw [this]
  rfl
theorem awake_ok (k : Nat) (hk : 108 < k) : palletlaw02_awake.f k = some true := by
  have hb : Bytes [49, 50, 51, 52, 53, 54, 55, 56, 57] := by intro x hx; simp at hx; omega
  have h1 := c32_ok _ hb (by decide) k hk
  have h2 := c16_ok _ hb (by decide) k hk
  rw [show ((add32S 0#32 [49, 50, 51, 52, 53, 54, 55, 56, 57]).toNat : Int) = 3808858755 from by decide +kernel] at h1
  rw [show ((add16S 0#16 [49, 50, 51, 52, 53, 54, 55, 56, 57]).toNat : Int) = 53467 from by decide +kernel] at h2
  unfold palletlaw02_awake.f
  simp only [Option.bind_some]
  rw [h1]
  simp only [Option.bind_some, if_true]
  rw [h2]
  rfl
theorem u32_val {x : Int} (h : (Lit.int .u32 x).wf = true) : ∃ s : BitVec 32, x = (s.toNat : Int) := by
  simp [Lit.wf, IntKind.min, IntKind.max, IntKind.signed, IntKind.bits] at h
  refine ⟨BitVec.ofNat 32 x.toNat, ?_⟩
  rw [BitVec.toNat_ofNat]
  omega
theorem u16_val {x : Int} (h : (Lit.int .u16 x).wf = true) : ∃ s : BitVec 16, x = (s.toNat : Int) := by
  simp [Lit.wf, IntKind.min, IntKind.max, IntKind.signed, IntKind.bits] at h
  refine ⟨BitVec.ofNat 16 x.toNat, ?_⟩
  rw [BitVec.toNat_ofNat]
  omega

def rs32 (b : Bool) (r : BitVec 32) : BitVec 32 := if (r.getLsbD 0 ^^ b) = true then (r >>> 1) ^^^ 2197175160#32 else r >>> 1
theorem st_rs (r B : BitVec 32) : st32 (r ^^^ B) = rs32 (B.getLsbD 0) r ^^^ (B >>> 1) := by
  unfold st32 rs32
  rw [BitVec.getLsbD_xor, BitVec.ushiftRight_xor_distrib]
  by_cases h : (r.getLsbD 0 ^^ B.getLsbD 0) = true
  · rw [if_pos h, if_pos h, BitVec.xor_assoc, BitVec.xor_assoc, BitVec.xor_comm (B >>> 1)]
  · rw [if_neg h, if_neg h]
theorem bit_eq (b j : Nat) (hb : b < 256) (hj : j < 8) : Go.bits .and .u32 ((shr .u8 (b : Int) (j : Int)) % 4294967296) 1 = (((b / 2 ^ j % 2 : Nat)) : Int) := by
  have hm : min (j : Int).toNat (IntKind.bits .u8) = j := by simp [IntKind.bits]; omega
  have hd : b / 2 ^ j < 256 := Nat.lt_of_le_of_lt (Nat.div_le_self _ _) hb
  have hs : shr .u8 (b : Int) (j : Int) = ((b / 2 ^ j : Nat) : Int) := by
    unfold shr
    rw [hm]
    simp
  rw [hs]
  generalize b / 2 ^ j = q at hd
  rw [show (q : Int) % 4294967296 = (q : Int) from by omega, show (1 : Int) = ((1 : Nat) : Int) from rfl, u32_and_nat _ _ (by omega) (by decide), Nat.and_one_is_mod]
theorem test32 (r : BitVec 32) (b j : Nat) (hb : b < 256) (hj : j < 8) :
    (Go.bits .and .u32 (Go.bits .xor .u32 (r.toNat : Int) (Go.bits .and .u32 ((shr .u8 (b : Int) (j : Int)) % 4294967296) 1)) 1 = 1) ↔ (r.getLsbD 0 ^^ b.testBit j) = true := by
  rw [bit_eq b j hb hj]
  have hx : b / 2 ^ j % 2 < 4294967296 := by omega
  rw [u32_xor_nat _ _ r.isLt hx, show (1 : Int) = ((1 : Nat) : Int) from rfl, u32_and_nat _ _ (Nat.xor_lt_two_pow (n := 32) r.isLt hx) (by decide), Nat.and_one_is_mod]
  have h2 : (r.toNat ^^^ (b / 2 ^ j % 2)) % 2 = 1 ↔ ((r.toNat ^^^ (b / 2 ^ j % 2)).testBit 0 = true) := by simp [Nat.testBit_zero]
  have h3 : (b / 2 ^ j % 2).testBit 0 = b.testBit j := by
    rw [Nat.testBit_zero, Nat.testBit_eq_decide_div_mod_eq, Nat.mod_mod]
  rw [show (((r.toNat ^^^ (b / 2 ^ j % 2)) % 2 : Nat) : Int) = ((1 : Nat) : Int) ↔ (r.toNat ^^^ (b / 2 ^ j % 2)) % 2 = 1 from by omega, h2, Nat.testBit_xor, h3]
  rfl
theorem rs32_int (r : BitVec 32) (b j : Nat) (hb : b < 256) (hj : j < 8) (f : Int → Option Int) (R : Option Int) (h : f ((rs32 (b.testBit j) r).toNat : Int) = R) :
    (if Go.bits .and .u32 (Go.bits .xor .u32 (r.toNat : Int) (Go.bits .and .u32 ((shr .u8 (b : Int) (j : Int)) % 4294967296) 1)) 1 = 1 then f (Go.bits .xor .u32 ((r.toNat : Int) / 2) 2197175160) else f ((r.toNat : Int) / 2)) = R := by
  unfold rs32 at h
  by_cases ht : (r.getLsbD 0 ^^ b.testBit j) = true
  · rw [if_pos ht] at h
    rw [if_pos ((test32 r b j hb hj).mpr ht), shr32, show (2197175160 : Int) = ((2197175160#32 : BitVec 32).toNat : Int) from rfl, xor32]
    exact h
  · rw [if_neg ht] at h
    rw [if_neg (fun hh => ht ((test32 r b j hb hj).mp hh)), shr32]
    exact h
theorem B_bit (b j : Nat) (hb : b < 256) (hj : j < 8) : ((BitVec.ofNat 32 b) >>> j).getLsbD 0 = b.testBit j := by
  rw [BitVec.getLsbD_ushiftRight, BitVec.getLsbD_ofNat]
  simp
  omega
theorem ref32_bits (ys : List Int) (i : Nat) (b : Nat) (hb : b < 256) (hy : rd ys i = (b : Int)) (hlt : i < ys.length) (hi : (i : Int) ≤ 140737488351232) (M : Nat) (R : Option Int) : ∀ (j k : Nat) (r : BitVec 32), j ≤ 8 → M + j + 1 < k →
    (∀ k, M < k → palletref02_Add32.l0 k ys ((it32 j (r ^^^ (BitVec.ofNat 32 b >>> (8 - j)))).toNat : Int) (wrap64 ((i : Int) + 1)) = R) → palletref02_Add32.l1 k ys (r.toNat : Int) i ((8 - j : Nat) : Int) = R := by
  intro j
  induction j with
  | zero =>
    intro k r hj hk h
    obtain ⟨k, rfl⟩ : ∃ q, k = q + 1 := ⟨k - 1, by omega⟩
    simp only [palletref02_Add32.l1]
    rw [if_neg (by omega)]
    have := h k (by omega)
    have hz : BitVec.ofNat 32 b >>> (8 - 0) = 0#32 := by
      apply BitVec.eq_of_toNat_eq
      rw [BitVec.toNat_ushiftRight, BitVec.toNat_ofNat, Nat.shiftRight_eq_div_pow]
      have : b % 2 ^ 32 / 2 ^ (8 - 0) = 0 := by omega
      rw [this]
      rfl
    rw [hz, BitVec.xor_zero] at this
    exact this
  | succ j ih =>
    intro k r hj hk h
    obtain ⟨k, rfl⟩ : ∃ q, k = q + 1 := ⟨k - 1, by omega⟩
    simp only [palletref02_Add32.l1]
    rw [if_pos (by omega), if_pos (by omega), if_pos (by omega), if_pos (by omega), hy, w64_id (by omega) (by omega), show (((8 - (j + 1) : Nat) : Int) + 1) = ((8 - j : Nat) : Int) from by omega]
    refine rs32_int r b (8 - (j + 1)) hb (by omega) (fun x => palletref02_Add32.l1 k ys x i ((8 - j : Nat) : Int)) R (ih k _ (by omega) (by omega) fun k hk => ?_)
    have := h k hk
    rw [it32, st_rs, B_bit b (8 - (j + 1)) hb (by omega), ← BitVec.shiftRight_add, show 8 - (j + 1) + 1 = 8 - j from by omega] at this
    exact this
theorem ref32_all (ys : List Int) (hb : Bytes ys) (hl : (ys.length : Int) ≤ 140737488351232) : ∀ (d k : Nat) (s : BitVec 32), d ≤ ys.length → 12 * d < k →
    palletref02_Add32.l0 k ys (s.toNat : Int) ((ys.length - d : Nat) : Int) = some ((~~~ ((ys.drop (ys.length - d)).foldl by32 s)).toNat : Int) := by
  intro d
  induction d with
  | zero =>
    intro k s hd hk
    obtain ⟨k, rfl⟩ : ∃ q, k = q + 1 := ⟨k - 1, by omega⟩
    simp only [palletref02_Add32.l0]
    rw [if_neg (by omega), Nat.sub_zero, List.drop_length, show (4294967295 : Int) = ((BitVec.allOnes 32).toNat : Int) from rfl, xor32, BitVec.xor_allOnes]
    rfl
  | succ d ih =>
    intro k s hd hk
    obtain ⟨k, rfl⟩ : ∃ q, k = q + 1 := ⟨k - 1, by omega⟩
    obtain ⟨i, hi⟩ : ∃ i, i = ys.length - (d + 1) := ⟨_, rfl⟩
    have hlt : i < ys.length := by omega
    have hbi := hb.at i hlt
    obtain ⟨b, hbb⟩ := Int.eq_ofNat_of_zero_le hbi.1
    simp only [palletref02_Add32.l0]
    rw [← hi, if_pos (by omega)]
    rw [show (0 : Int) = ((8 - 8 : Nat) : Int) from rfl]
    refine ref32_bits ys i b (by omega) (by rw [rd_nat ys i hlt, hbb]) hlt (by omega) (12 * d) _ 8 k _ (by omega) (by omega) fun k hk => ?_
    rw [w64_id (by omega) (by omega), show ((i : Int) + 1) = ((ys.length - d : Nat) : Int) from by omega, ih k _ (by omega) (by omega), List.drop_eq_getElem_cons hlt, show i + 1 = ys.length - d from by omega]
    rw [List.foldl_cons, by32, hbb]
    rfl
def rs16 (b : Bool) (r : BitVec 16) : BitVec 16 := if (r.getLsbD 15 ^^ b) = true then (r <<< 1) ^^^ 35767#16 else r <<< 1
theorem st_rs16 (r B : BitVec 16) : st16 (r ^^^ B) = rs16 (B.getLsbD 15) r ^^^ (B <<< 1) := by
  unfold st16 rs16
  rw [BitVec.getLsbD_xor, BitVec.shiftLeft_xor_distrib]
  by_cases h : (r.getLsbD 15 ^^ B.getLsbD 15) = true
  · rw [if_pos h, if_pos h, BitVec.xor_assoc, BitVec.xor_assoc, BitVec.xor_comm (B <<< 1)]
  · rw [if_neg h, if_neg h]
theorem bit16 (b j : Nat) (hb : b < 256) (hj : j < 8) : Go.bits .and .u16 (IntKind.u16.wrap (shr .u8 (b : Int) (j : Int))) 1 = (((b / 2 ^ j % 2 : Nat)) : Int) := by
  have hm : min (j : Int).toNat (IntKind.bits .u8) = j := by simp [IntKind.bits]; omega
  have hd : b / 2 ^ j < 256 := Nat.lt_of_le_of_lt (Nat.div_le_self _ _) hb
  have hs : shr .u8 (b : Int) (j : Int) = ((b / 2 ^ j : Nat) : Int) := by
    unfold shr
    rw [hm]
    simp
  rw [hs]
  generalize b / 2 ^ j = q at hd
  rw [u16_mod, show (q : Int) % 65536 = (q : Int) from by omega, show (1 : Int) = ((1 : Nat) : Int) from rfl, u16_and_nat _ _ (by omega) (by decide), Nat.and_one_is_mod]
theorem test16 (r : BitVec 16) (b j : Nat) (hb : b < 256) (hj : j < 8) :
    (Go.bits .xor .u16 ((r.toNat : Int) / 32768) (Go.bits .and .u16 (IntKind.u16.wrap (shr .u8 (b : Int) (j : Int))) 1) = 1) ↔ (r.getLsbD 15 ^^ b.testBit j) = true := by
  rw [bit16 b j hb hj]
  have hr := r.isLt
  have hx : b / 2 ^ j % 2 < 65536 := by omega
  rw [show ((r.toNat : Int) / 32768) = ((r.toNat / 32768 : Nat) : Int) from by omega, u16_xor_nat _ _ (by omega) hx]
  have h1 : r.getLsbD 15 = decide (r.toNat / 32768 = 1) := by
    simp only [BitVec.getLsbD, Nat.testBit_eq_decide_div_mod_eq]
    apply decide_eq_decide.mpr
    omega
  rw [h1, Nat.testBit_eq_decide_div_mod_eq]
  have c1 : r.toNat / 32768 = 0 ∨ r.toNat / 32768 = 1 := by omega
  have c2 : b / 2 ^ j % 2 = 0 ∨ b / 2 ^ j % 2 = 1 := by omega
  rcases c1 with c1 | c1 <;> rcases c2 with c2 | c2 <;> rw [c1, c2] <;> decide
theorem rs16_int (r : BitVec 16) (b j : Nat) (hb : b < 256) (hj : j < 8) (f : Int → Option Int) (R : Option Int) (h : f ((rs16 (b.testBit j) r).toNat : Int) = R) :
    (if Go.bits .xor .u16 ((r.toNat : Int) / 32768) (Go.bits .and .u16 (IntKind.u16.wrap (shr .u8 (b : Int) (j : Int))) 1) = 1 then f (Go.bits .xor .u16 (IntKind.u16.wrap ((r.toNat : Int) * 2)) 35767) else f (IntKind.u16.wrap ((r.toNat : Int) * 2))) = R := by
  unfold rs16 at h
  by_cases ht : (r.getLsbD 15 ^^ b.testBit j) = true
  · rw [if_pos ht] at h
    rw [if_pos ((test16 r b j hb hj).mpr ht), shl16, show (35767 : Int) = ((35767#16 : BitVec 16).toNat : Int) from rfl, xor16]
    exact h
  · rw [if_neg ht] at h
    rw [if_neg (fun hh => ht ((test16 r b j hb hj).mp hh)), shl16]
    exact h
theorem B_bit16 (b j : Nat) (hb : b < 256) (hj : j < 8) : (((BitVec.ofNat 16 b) <<< 8) <<< (7 - j)).getLsbD 15 = b.testBit j := by
  rw [← BitVec.shiftLeft_add, BitVec.getLsbD_shiftLeft, BitVec.getLsbD_ofNat]
  have h1 : 15 - (8 + (7 - j)) = j := by omega
  have h2 : ¬ (15 < 8 + (7 - j)) := by omega
  simp [h1, h2]
  omega
theorem ref16_bits (ys : List Int) (i : Nat) (b : Nat) (hb : b < 256) (hy : rd ys i = (b : Int)) (hlt : i < ys.length) (hi : (i : Int) ≤ 140737488351232) (M : Nat) (R : Option Int) : ∀ (j k : Nat) (r : BitVec 16), j ≤ 8 → M + j + 1 < k →
    (∀ k, M < k → palletref02_Add16.l0 k ys ((it16 j (r ^^^ ((BitVec.ofNat 16 b <<< 8) <<< (8 - j)))).toNat : Int) (wrap64 ((i : Int) + 1)) = R) → palletref02_Add16.l1 k ys (r.toNat : Int) i ((j : Int) - 1) = R := by
  intro j
  induction j with
  | zero =>
    intro k r hj hk h
    obtain ⟨k, rfl⟩ : ∃ q, k = q + 1 := ⟨k - 1, by omega⟩
    simp only [palletref02_Add16.l1]
    rw [if_neg (by omega)]
    have := h k (by omega)
    have hz : (BitVec.ofNat 16 b <<< 8) <<< (8 - 0) = 0#16 := by
      rw [← BitVec.shiftLeft_add]
      apply BitVec.eq_of_toNat_eq
      rw [BitVec.toNat_shiftLeft, BitVec.toNat_ofNat, Nat.shiftLeft_eq]
      show b % 2 ^ 16 * 2 ^ 16 % 2 ^ 16 = 0
      omega
    rw [hz, BitVec.xor_zero] at this
    exact this
  | succ j ih =>
    intro k r hj hk h
    obtain ⟨k, rfl⟩ : ∃ q, k = q + 1 := ⟨k - 1, by omega⟩
    simp only [palletref02_Add16.l1]
    rw [show (((j + 1 : Nat) : Int) - 1) = (j : Int) from by omega, if_pos (by omega), if_pos (by omega), if_pos (by omega), if_pos (by omega), hy, w64_id (by omega) (by omega)]
    refine rs16_int r b j hb (by omega) (fun x => palletref02_Add16.l1 k ys x i ((j : Int) - 1)) R (ih k _ (by omega) (by omega) fun k hk => ?_)
    have := h k hk
    rw [it16, st_rs16, show 8 - (j + 1) = 7 - j from by omega, B_bit16 b j hb (by omega), ← BitVec.shiftLeft_add _ (7 - j) 1, show 7 - j + 1 = 8 - j from by omega] at this
    exact this
theorem ref16_all (ys : List Int) (hb : Bytes ys) (hl : (ys.length : Int) ≤ 140737488351232) : ∀ (d k : Nat) (s : BitVec 16), d ≤ ys.length → 12 * d < k →
    palletref02_Add16.l0 k ys (s.toNat : Int) ((ys.length - d : Nat) : Int) = some (((ys.drop (ys.length - d)).foldl by16 s).toNat : Int) := by
  intro d
  induction d with
  | zero =>
    intro k s hd hk
    obtain ⟨k, rfl⟩ : ∃ q, k = q + 1 := ⟨k - 1, by omega⟩
    simp only [palletref02_Add16.l0]
    rw [if_neg (by omega), Nat.sub_zero, List.drop_length]
    rfl
  | succ d ih =>
    intro k s hd hk
    obtain ⟨k, rfl⟩ : ∃ q, k = q + 1 := ⟨k - 1, by omega⟩
    obtain ⟨i, hi⟩ : ∃ i, i = ys.length - (d + 1) := ⟨_, rfl⟩
    have hlt : i < ys.length := by omega
    have hbi := hb.at i hlt
    obtain ⟨b, hbb⟩ := Int.eq_ofNat_of_zero_le hbi.1
    simp only [palletref02_Add16.l0]
    rw [← hi, if_pos (by omega)]
    rw [show (7 : Int) = (((8 : Nat) : Int) - 1) from rfl]
    refine ref16_bits ys i b (by omega) (by rw [rd_nat ys i hlt, hbb]) hlt (by omega) (12 * d) _ 8 k _ (by omega) (by omega) fun k hk => ?_
    rw [w64_id (by omega) (by omega), show ((i : Int) + 1) = ((ys.length - d : Nat) : Int) from by omega, ih k _ (by omega) (by omega), List.drop_eq_getElem_cons hlt, show i + 1 = ys.length - d from by omega]
    rw [List.foldl_cons, by16, hbb, Nat.sub_self, BitVec.shiftLeft_zero, Int.toNat_natCast]
theorem ref32_ok (l : List Int) (hb : Bytes l) (hl : (l.length : Int) ≤ 140737488351232) (s : BitVec 32) (k : Nat) (hk : 12 * l.length < k) : palletref02_Add32.f k (s.toNat : Int) l = some ((add32S s l).toNat : Int) := by
  unfold palletref02_Add32.f
  have := ref32_all l hb hl l.length k (~~~ s) (Nat.le_refl _) hk
  rw [Nat.sub_self] at this
  rw [show (4294967295 : Int) = ((BitVec.allOnes 32).toNat : Int) from rfl, xor32, BitVec.xor_allOnes]
  exact this
theorem ref16_ok (l : List Int) (hb : Bytes l) (hl : (l.length : Int) ≤ 140737488351232) (s : BitVec 16) (k : Nat) (hk : 12 * l.length < k) : palletref02_Add16.f k (s.toNat : Int) l = some ((add16S s l).toNat : Int) := by
  unfold palletref02_Add16.f
  have := ref16_all l hb hl l.length k s (Nat.le_refl _) hk
  rw [Nat.sub_self] at this
  exact this
theorem CrcSums : palletlaw02_CrcSums.Pure := by
  intro l s g _ hl hw hs hg
  have hb := bytes_of_wf hw
  obtain ⟨s, rfl⟩ := u32_val hs
  obtain ⟨g, rfl⟩ := u16_val hg
  have hk : 12 * l.length < 12 * l.length + 109 := by omega
  have r32 := ref32_ok l hb (by omega) 0#32 _ hk
  have r16 := ref16_ok l hb (by omega) 0#16 _ hk
  rw [show ((0#32 : BitVec 32).toNat : Int) = 0 from rfl] at r32
  rw [show ((0#16 : BitVec 16).toNat : Int) = 0 from rfl] at r16
  refine ⟨12 * l.length + 109, ?_⟩
  unfold palletlaw02_CrcSums.f palletref02_C32.f palletref02_C16.f
  rw [awake_ok _ (by omega), c32_ok l hb (by omega) _ hk, c16_ok l hb (by omega) _ hk, r32, r16, add32_ok l hb (by omega) s _ hk, ref32_ok l hb (by omega) s _ hk, add16_ok l hb (by omega) g _ hk, ref16_ok l hb (by omega) g _ hk]
  simp

end Go.Proofs.Ytobbffadnallcaa.Pure
