/- The sum of two pieces is that of the whole, both sums: of any two pieces that hold at most 1048576 values (the second form's condition). -/
import Derived.Test.YtobbffadnallcaaPCrcJoinsx1
import Derived.Laws.BitsAllLaws
set_option linter.unusedVariables false
set_option linter.unusedSimpArgs false
namespace Go.Proofs.Ytobbffadnallcaa.Pure
open Go.RowKit Go.Proofs.Ytobbffadnallcaa.PCrcJoins Go.Proofs.YtobbffadnallcaaW.PrintWords Go.Proofs.YtobbffadnallcaaW.PrintLast Go.Proofs.YtobbffadnallcaaW.PrintMore

theorem w64_id {n : Int} (h0 : -9223372036854775808 ≤ n) (h1 : n ≤ 9223372036854775807) : wrap64 n = n := by
  unfold wrap64
  omega
def Bytes (l : List Int) : Prop := ∀ x ∈ l, 0 ≤ x ∧ x ≤ 255
theorem bytes_of_wf {l : List Int} (h : ∀ x ∈ l, (Lit.int .u8 x).wf = true) : Bytes l := by
  intro x hx
  have := h x hx
  simp [Lit.wf, IntKind.min, IntKind.max, IntKind.signed, IntKind.bits] at this
  omega
theorem rd_nat (l : List Int) (i : Nat) (h : i < l.length) : rd l (i : Int) = l[i] := by
  simp [rd, h]
theorem Bytes.at {l : List Int} (hb : Bytes l) (i : Nat) (h : i < l.length) : 0 ≤ l[i] ∧ l[i] ≤ 255 := hb _ (List.getElem_mem h)
theorem u16_mod (n : Int) : IntKind.u16.wrap n = n % 65536 := by simp [IntKind.wrap, IntKind.bits, IntKind.signed]

/-- One step of the sum of 32 bits, the lowest bit first; j of them. -/
def st32 (s : BitVec 32) : BitVec 32 := if s.getLsbD 0 = true then (s >>> 1) ^^^ 2197175160#32 else s >>> 1
def it32 : Nat → BitVec 32 → BitVec 32
  | 0, s => s
  | j + 1, s => it32 j (st32 s)
def by32 (s : BitVec 32) (x : Int) : BitVec 32 := it32 8 (s ^^^ BitVec.ofNat 32 x.toNat)
def st16 (s : BitVec 16) : BitVec 16 := if s.getLsbD 15 = true then (s <<< 1) ^^^ 35767#16 else s <<< 1
def it16 : Nat → BitVec 16 → BitVec 16
  | 0, s => s
  | j + 1, s => it16 j (st16 s)
def by16 (s : BitVec 16) (x : Int) : BitVec 16 := it16 8 (s ^^^ (BitVec.ofNat 16 x.toNat <<< 8))

theorem xor32 (a b : BitVec 32) : Go.bits .xor .u32 (a.toNat : Int) (b.toNat : Int) = ((a ^^^ b).toNat : Int) := by
  rw [u32_xor_nat _ _ a.isLt b.isLt, BitVec.toNat_xor]
theorem xor16 (a b : BitVec 16) : Go.bits .xor .u16 (a.toNat : Int) (b.toNat : Int) = ((a ^^^ b).toNat : Int) := by
  rw [u16_xor_nat _ _ a.isLt b.isLt, BitVec.toNat_xor]
theorem shr32 (a : BitVec 32) : (a.toNat : Int) / (2 : Int) = ((a >>> 1).toNat : Int) := by
  rw [BitVec.toNat_ushiftRight, Nat.shiftRight_eq_div_pow]
  simp
theorem shl16 (a : BitVec 16) : IntKind.u16.wrap ((a.toNat : Int) * 2) = ((a <<< 1).toNat : Int) := by
  rw [u16_mod, BitVec.toNat_shiftLeft, Nat.shiftLeft_eq]
  simp
theorem low32 (a : BitVec 32) : (Go.bits .and .u32 (a.toNat : Int) 1 = 1) ↔ a.getLsbD 0 = true := by
  rw [show (1 : Int) = ((1 : Nat) : Int) from rfl, u32_and_nat _ _ a.isLt (by decide), Nat.and_one_is_mod]
  simp [BitVec.getLsbD, Nat.testBit_zero]
  omega
theorem high16 (a : BitVec 16) : ((a.toNat : Int) / 32768 = 1) ↔ a.getLsbD 15 = true := by
  have := a.isLt
  simp only [BitVec.getLsbD, Nat.testBit_eq_decide_div_mod_eq, decide_eq_true_eq]
  omega
theorem st32_int (s : BitVec 32) (f : Int → Option Int) (R : Option Int) (h : f ((st32 s).toNat : Int) = R) :
    (if Go.bits .and .u32 (s.toNat : Int) 1 = 1 then f (Go.bits .xor .u32 ((s.toNat : Int) / 2) 2197175160) else f ((s.toNat : Int) / 2)) = R := by
  unfold st32 at h
  by_cases hb : s.getLsbD 0 = true
  · rw [if_pos hb] at h
    rw [if_pos ((low32 s).mpr hb), shr32, show (2197175160 : Int) = ((2197175160#32 : BitVec 32).toNat : Int) from rfl, xor32]
    exact h
  · rw [if_neg hb] at h
    rw [if_neg (fun hh => hb ((low32 s).mp hh)), shr32]
    exact h
theorem st16_int (s : BitVec 16) (f : Int → Option Int) (R : Option Int) (h : f ((st16 s).toNat : Int) = R) :
    (if (s.toNat : Int) / 32768 = 1 then f (Go.bits .xor .u16 (IntKind.u16.wrap ((s.toNat : Int) * 2)) 35767) else f (IntKind.u16.wrap ((s.toNat : Int) * 2))) = R := by
  unfold st16 at h
  by_cases hb : s.getLsbD 15 = true
  · rw [if_pos hb] at h
    rw [if_pos ((high16 s).mpr hb), shl16, show (35767 : Int) = ((35767#16 : BitVec 16).toNat : Int) from rfl, xor16]
    exact h
  · rw [if_neg hb] at h
    rw [if_neg (fun hh => hb ((high16 s).mp hh)), shl16]
    exact h
theorem b32 {x : Int} (h : 0 ≤ x ∧ x ≤ 255) : x % 4294967296 = ((BitVec.ofNat 32 x.toNat).toNat : Int) := by
  rw [BitVec.toNat_ofNat]
  omega
theorem b16 {x : Int} (h : 0 ≤ x ∧ x ≤ 255) : IntKind.u16.wrap ((IntKind.u16.wrap x) * 256) = ((BitVec.ofNat 16 x.toNat <<< 8).toNat : Int) := by
  rw [u16_mod, u16_mod, BitVec.toNat_shiftLeft, BitVec.toNat_ofNat, Nat.shiftLeft_eq]
  omega
theorem add32_bits (ys : List Int) (n i : Int) (hi0 : 0 ≤ i) (hi : i ≤ 140737488351232) (M : Nat) (R : Option Int) : ∀ (j k : Nat) (s : BitVec 32), j ≤ 8 → M + j + 1 < k → (∀ k, M < k → crc_Add32.l0 k ((it32 j s).toNat : Int) ys n (wrap64 (i + 1)) = R) →
    crc_Add32.l1 k (s.toNat : Int) ys n i ((8 - j : Nat) : Int) = R := by
  intro j
  induction j with
  | zero =>
    intro k s hj hk h
    obtain ⟨k, rfl⟩ : ∃ q, k = q + 1 := ⟨k - 1, by omega⟩
    simp only [crc_Add32.l1]
    rw [if_neg (by omega)]
    exact h k (by omega)
  | succ j ih =>
    intro k s hj hk h
    obtain ⟨k, rfl⟩ : ∃ q, k = q + 1 := ⟨k - 1, by omega⟩
    simp only [crc_Add32.l1]
    rw [if_pos (by omega), w64_id (by omega) (by omega), show (((8 - (j + 1) : Nat) : Int) + 1) = ((8 - j : Nat) : Int) from by omega]
    exact st32_int s (fun x => crc_Add32.l1 k x ys n i ((8 - j : Nat) : Int)) R (ih k (st32 s) (by omega) (by omega) h)
theorem add16_bits (ys : List Int) (n i : Int) (hi0 : 0 ≤ i) (hi : i ≤ 140737488351232) (M : Nat) (R : Option Int) : ∀ (j k : Nat) (s : BitVec 16), j ≤ 8 → M + j + 1 < k → (∀ k, M < k → crc_Add16.l0 k ((it16 j s).toNat : Int) ys n (wrap64 (i + 1)) = R) →
    crc_Add16.l1 k (s.toNat : Int) ys n i ((8 - j : Nat) : Int) = R := by
  intro j
  induction j with
  | zero =>
    intro k s hj hk h
    obtain ⟨k, rfl⟩ : ∃ q, k = q + 1 := ⟨k - 1, by omega⟩
    simp only [crc_Add16.l1]
    rw [if_neg (by omega)]
    exact h k (by omega)
  | succ j ih =>
    intro k s hj hk h
    obtain ⟨k, rfl⟩ : ∃ q, k = q + 1 := ⟨k - 1, by omega⟩
    simp only [crc_Add16.l1]
    rw [if_pos (by omega), w64_id (by omega) (by omega), show (((8 - (j + 1) : Nat) : Int) + 1) = ((8 - j : Nat) : Int) from by omega]
    exact st16_int s (fun x => crc_Add16.l1 k x ys n i ((8 - j : Nat) : Int)) R (ih k (st16 s) (by omega) (by omega) h)
theorem not32 (s : BitVec 32) : Go.bits .xor .u32 4294967295 (s.toNat : Int) = ((~~~ s).toNat : Int) := by
  rw [show (4294967295 : Int) = ((4294967295#32 : BitVec 32).toNat : Int) from rfl, xor32, show 4294967295#32 = BitVec.allOnes 32 from rfl, BitVec.allOnes_xor]
theorem add32_all (ys : List Int) (hb : Bytes ys) (hl : (ys.length : Int) ≤ 140737488351232) : ∀ (d k : Nat) (s : BitVec 32), d ≤ ys.length → 12 * d < k →
    crc_Add32.l0 k (s.toNat : Int) ys ys.length ((ys.length - d : Nat) : Int) = some ((~~~ ((ys.drop (ys.length - d)).foldl by32 s)).toNat : Int) := by
  intro d
  induction d with
  | zero =>
    intro k s hd hk
    obtain ⟨k, rfl⟩ : ∃ q, k = q + 1 := ⟨k - 1, by omega⟩
    simp only [crc_Add32.l0]
    rw [if_neg (by omega), not32, Nat.sub_zero, List.drop_length]
    rfl
  | succ d ih =>
    intro k s hd hk
    obtain ⟨k, rfl⟩ : ∃ q, k = q + 1 := ⟨k - 1, by omega⟩
    obtain ⟨i, hi⟩ : ∃ i, i = ys.length - (d + 1) := ⟨_, rfl⟩
    have hlt : i < ys.length := by omega
    have hbi := hb.at i hlt
    simp only [crc_Add32.l0]
    rw [← hi, if_pos (by omega), if_pos (by omega), if_pos (by omega), rd_nat ys i hlt, b32 hbi, xor32]
    rw [show (0 : Int) = ((8 - 8 : Nat) : Int) from rfl]
    refine add32_bits ys ys.length i (by omega) (by omega) (12 * d) _ 8 k _ (by omega) (by omega) fun k hk => ?_
    rw [w64_id (by omega) (by omega), show ((i : Int) + 1) = ((ys.length - d : Nat) : Int) from by omega, ih k _ (by omega) (by omega), List.drop_eq_getElem_cons hlt, show i + 1 = ys.length - d from by omega]
    rfl
theorem add16_all (ys : List Int) (hb : Bytes ys) (hl : (ys.length : Int) ≤ 140737488351232) : ∀ (d k : Nat) (s : BitVec 16), d ≤ ys.length → 12 * d < k →
    crc_Add16.l0 k (s.toNat : Int) ys ys.length ((ys.length - d : Nat) : Int) = some (((ys.drop (ys.length - d)).foldl by16 s).toNat : Int) := by
  intro d
  induction d with
  | zero =>
    intro k s hd hk
    obtain ⟨k, rfl⟩ : ∃ q, k = q + 1 := ⟨k - 1, by omega⟩
    simp only [crc_Add16.l0]
    rw [if_neg (by omega), Nat.sub_zero, List.drop_length]
    rfl
  | succ d ih =>
    intro k s hd hk
    obtain ⟨k, rfl⟩ : ∃ q, k = q + 1 := ⟨k - 1, by omega⟩
    obtain ⟨i, hi⟩ : ∃ i, i = ys.length - (d + 1) := ⟨_, rfl⟩
    have hlt : i < ys.length := by omega
    have hbi := hb.at i hlt
    simp only [crc_Add16.l0]
    rw [← hi, if_pos (by omega), if_pos (by omega), if_pos (by omega), rd_nat ys i hlt, b16 hbi, xor16]
    rw [show (0 : Int) = ((8 - 8 : Nat) : Int) from rfl]
    refine add16_bits ys ys.length i (by omega) (by omega) (12 * d) _ 8 k _ (by omega) (by omega) fun k hk => ?_
    rw [w64_id (by omega) (by omega), show ((i : Int) + 1) = ((ys.length - d : Nat) : Int) from by omega, ih k _ (by omega) (by omega), List.drop_eq_getElem_cons hlt, show i + 1 = ys.length - d from by omega]
    rfl
def add32S (s : BitVec 32) (l : List Int) : BitVec 32 := ~~~ (l.foldl by32 (~~~ s))
def add16S (s : BitVec 16) (l : List Int) : BitVec 16 := l.foldl by16 s
theorem add32_ok (l : List Int) (hb : Bytes l) (hl : (l.length : Int) ≤ 140737488351232) (s : BitVec 32) (k : Nat) (hk : 12 * l.length < k) : crc_Add32.f k (s.toNat : Int) l = some ((add32S s l).toNat : Int) := by
  unfold crc_Add32.f
  have := add32_all l hb hl l.length k (~~~ s) (Nat.le_refl _) hk
  rw [Nat.sub_self] at this
  rw [not32]
  exact this
theorem add16_ok (l : List Int) (hb : Bytes l) (hl : (l.length : Int) ≤ 140737488351232) (s : BitVec 16) (k : Nat) (hk : 12 * l.length < k) : crc_Add16.f k (s.toNat : Int) l = some ((add16S s l).toNat : Int) := by
  unfold crc_Add16.f
  have := add16_all l hb hl l.length k s (Nat.le_refl _) hk
  rw [Nat.sub_self] at this
  exact this
theorem c32_ok (l : List Int) (hb : Bytes l) (hl : (l.length : Int) ≤ 140737488351232) (k : Nat) (hk : 12 * l.length < k) : crc_C32.f k l = some ((add32S 0#32 l).toNat : Int) := by
  unfold crc_C32.f
  have := add32_ok l hb hl 0#32 k hk
  rw [show ((0#32 : BitVec 32).toNat : Int) = 0 from rfl] at this
  rw [this]
  rfl
theorem c16_ok (l : List Int) (hb : Bytes l) (hl : (l.length : Int) ≤ 140737488351232) (k : Nat) (hk : 12 * l.length < k) : crc_C16.f k l = some ((add16S 0#16 l).toNat : Int) := by
  unfold crc_C16.f
  have := add16_ok l hb hl 0#16 k hk
  rw [show ((0#16 : BitVec 16).toNat : Int) = 0 from rfl] at this
  rw [this]
  rfl
theorem awake_ok (k : Nat) (hk : 108 < k) : palletlaw02_awake.f k = some true := by
  have hb : Bytes [49, 50, 51, 52, 53, 54, 55, 56, 57] := by intro x hx; simp at hx; omega
  have h1 := c32_ok _ hb (by decide) k hk
  have h2 := c16_ok _ hb (by decide) k hk
  rw [show ((add32S 0#32 [49, 50, 51, 52, 53, 54, 55, 56, 57]).toNat : Int) = 3808858755 from by decide +kernel] at h1
  rw [show ((add16S 0#16 [49, 50, 51, 52, 53, 54, 55, 56, 57]).toNat : Int) = 53467 from by decide +kernel] at h2
  unfold palletlaw02_awake.f
  simp only [Option.bind_some]
  rw [h1]
  simp only [Option.bind_some, if_true]
  rw [h2]
  rfl
theorem u32_val {x : Int} (h : (Lit.int .u32 x).wf = true) : ∃ s : BitVec 32, x = (s.toNat : Int) := by
  simp [Lit.wf, IntKind.min, IntKind.max, IntKind.signed, IntKind.bits] at h
  refine ⟨BitVec.ofNat 32 x.toNat, ?_⟩
  rw [BitVec.toNat_ofNat]
  omega
theorem u16_val {x : Int} (h : (Lit.int .u16 x).wf = true) : ∃ s : BitVec 16, x = (s.toNat : Int) := by
  simp [Lit.wf, IntKind.min, IntKind.max, IntKind.signed, IntKind.bits] at h
  refine ⟨BitVec.ofNat 16 x.toNat, ?_⟩
  rw [BitVec.toNat_ofNat]
  omega

theorem add32_join (p q : List Int) : add32S (add32S 0#32 p) q = add32S 0#32 (p ++ q) := by
  unfold add32S
  rw [BitVec.not_not, List.foldl_append]
theorem add16_join (p q : List Int) : add16S (add16S 0#16 p) q = add16S 0#16 (p ++ q) := by
  unfold add16S
  rw [List.foldl_append]
theorem CrcJoins : palletlaw02_CrcJoins.Pure := by
  intro p q hup _ hlp hwp huq _ hlq hwq
  have hp := bytes_of_wf hwp
  have hq := bytes_of_wf hwq
  have hpq : Bytes (p ++ q) := fun x hx => by
    rcases List.mem_append.mp hx with hx | hx
    · exact hp x hx
    · exact hq x hx
  have hl : (p ++ q).length = p.length + q.length := List.length_append
  refine ⟨12 * (p.length + q.length) + 109, ?_⟩
  unfold palletlaw02_CrcJoins.f
  rw [awake_ok _ (by omega)]
  simp only [Option.bind_some, if_true, List.nil_append, List.length_nil]
  rw [if_pos (by omega), if_pos (by omega), c32_ok p hp (by omega) _ (by omega)]
  simp only [Option.bind_some]
  rw [add32_ok q hq (by omega) _ _ (by omega), c32_ok _ hpq (by omega) _ (by omega), c16_ok p hp (by omega) _ (by omega)]
  simp only [Option.bind_some]
  rw [add16_ok q hq (by omega) _ _ (by omega), c16_ok _ hpq (by omega) _ (by omega), add32_join, add16_join]
  simp

end Go.Proofs.Ytobbffadnallcaa.Pure
