/- PiHonest: the plain facts, and the law. -/
import Derived.Test.YtbbdggmnjkkjkaaLH
import Derived.Laws.BitsAllLaws
set_option linter.unusedVariables false
set_option linter.unusedSimpArgs false
namespace Go.Proofs.Ytbbdggmnjkkjkaa.Abs
open Go Go.RowKit
theorem u8r {n : Int} (h : (Lit.int .u8 n).wf = true) : 0 ≤ n ∧ n < 256 := by
  simp [Lit.wf, IntKind.min, IntKind.max, IntKind.signed, IntKind.bits] at h
  omega
theorem u16r {n : Int} (h : (Lit.int .u16 n).wf = true) : 0 ≤ n ∧ n < 65536 := by
  simp [Lit.wf, IntKind.min, IntKind.max, IntKind.signed, IntKind.bits] at h
  omega
theorem u64r {n : Int} (h : (Lit.int .u64 n).wf = true) : 0 ≤ n ∧ n < 18446744073709551616 := by
  simp [Lit.wf, IntKind.min, IntKind.max, IntKind.signed, IntKind.bits] at h
  omega
theorem chk_of {k p lba a ref g crc : Int} (hk : 1 ≤ k ∧ k ≤ 3) (hp : 0 ≤ p ∧ p ≤ 4) (ha : a ≠ 65535) : chk k p lba g a ref crc = if p = 3 then 0 else if p ≠ 2 ∧ g ≠ crc then 4097 else if p ≠ 4 ∧ k ≠ 3 ∧ ref ≠ IntKind.u32.wrap lba then 4099 else 0 := by
  unfold chk
  by_cases h3 : p = 3
  · rw [if_pos (by simp [h3]), if_pos h3]
  · rw [if_neg (by simp [h3, ha]; omega), if_neg h3]
    simp only [Bool.and_eq_true, bne_iff_ne, ne_eq, and_assoc]
theorem piHonest_law {H : Hp} {xs : List Value} (hro : Ro H) (hd : datArgs Try.prog H 8 [5, 5, 22, 23, 24, 5, 5] xs) : ACalls Try.prog 4 xs H fun v _ => v = .bool true := by
  match xs, hd with
  | [x0, x1, x2, x3, x4, x5, x6], ⟨d0, d1, d2, d3, d4, d5, d6, _⟩ =>
  obtain ⟨kind, rfl, wk⟩ := int_of (k := .u8) (by kernel_rfl) d0
  obtain ⟨prot, rfl, wp⟩ := int_of (k := .u8) (by kernel_rfl) d1
  obtain ⟨lba, rfl, wl⟩ := int_of (k := .u64) (by kernel_rfl) d2
  obtain ⟨data, rfl, hn, hb⟩ := data_of d3
  obtain ⟨app, rfl, wa⟩ := int_of (k := .u16) (by kernel_rfl) d4
  obtain ⟨at_, rfl, wt⟩ := int_of (k := .u8) (by kernel_rfl) d5
  obtain ⟨bit, rfl, wb⟩ := int_of (k := .u8) (by kernel_rfl) d6
  have rk := u8r wk
  have rp := u8r wp
  have rl := u64r wl
  have ra := u16r wa
  have rt := u8r wt
  have rb := u8r wb
  have et : at_.tmod 16 = at_ % 16 := Int.tmod_eq_emod_of_nonneg rt.1
  have eb : bit.tmod 8 = bit % 8 := Int.tmod_eq_emod_of_nonneg rb.1
  have ek : kind.tmod 3 = kind % 3 := Int.tmod_eq_emod_of_nonneg rk.1
  have ep : prot.tmod 5 = prot % 5 := Int.tmod_eq_emod_of_nonneg rp.1
  have hk : 1 ≤ IntKind.u8.wrap (1 + kind.tmod 3) ∧ IntKind.u8.wrap (1 + kind.tmod 3) ≤ 3 := by rw [ek, IntKind.wrap_u8']; omega
  have hpk : pk kind = IntKind.u8.wrap (1 + kind.tmod 3) := rfl
  have hpa : pa app ≠ 65535 := by unfold pa; split <;> omega
  have hp : 0 ≤ prot.tmod 5 ∧ prot.tmod 5 ≤ 4 := by rw [ep]; omega
  have hi : (at_.tmod 16).toNat < data.length := by rw [et]; omega
  refine honest_call hn (by rw [et]; omega) (by rw [eb]; omega) ?_ ?_ ?_
  · rw [chk_of hk hp hpa]
    generalize IntKind.u8.wrap (1 + kind.tmod 3) = k at hk
    split
    · rfl
    · rw [if_neg (by simp), if_neg ?_]
      rintro ⟨h1, h2, h3⟩
      rw [if_pos (by omega)] at h3
      exact h3 rfl
  · rw [chk_of hk hp hpa]
    have hne : data.foldl c16y 0 ≠ (data.set (at_.tmod 16).toNat (bits .xor .u8 (data.getD (at_.tmod 16).toNat 0) (IntKind.u8.wrap (1 * 2 ^ min (bit.tmod 8).toNat IntKind.u8.bits)))).foldl c16y 0 := by
      intro he
      have hd0 : data.getD (at_.tmod 16).toNat 0 = data[(at_.tmod 16).toNat] := by simp [List.getD, List.getElem?_eq_getElem hi]
      obtain ⟨b0, b1⟩ := hb _ (List.getElem_mem hi)
      obtain ⟨A, hA⟩ := Int.eq_ofNat_of_zero_le b0
      have hm : ∃ M : Nat, IntKind.u8.wrap (1 * 2 ^ min (bit.tmod 8).toNat IntKind.u8.bits) = (M : Int) ∧ 0 < M ∧ M < 256 := by
        have hq : (bit.tmod 8).toNat < 8 := by rw [eb]; omega
        generalize (bit.tmod 8).toNat = q at hq
        have : q = 0 ∨ q = 1 ∨ q = 2 ∨ q = 3 ∨ q = 4 ∨ q = 5 ∨ q = 6 ∨ q = 7 := by omega
        rcases this with h | h | h | h | h | h | h | h <;> subst h
        · exact ⟨1, by decide, by decide, by decide⟩
        · exact ⟨2, by decide, by decide, by decide⟩
        · exact ⟨4, by decide, by decide, by decide⟩
        · exact ⟨8, by decide, by decide, by decide⟩
        · exact ⟨16, by decide, by decide, by decide⟩
        · exact ⟨32, by decide, by decide, by decide⟩
        · exact ⟨64, by decide, by decide, by decide⟩
        · exact ⟨128, by decide, by decide, by decide⟩
      obtain ⟨M, hM, m1, m2⟩ := hm
      have hx : bits .xor .u8 (data.getD (at_.tmod 16).toNat 0) (IntKind.u8.wrap (1 * 2 ^ min (bit.tmod 8).toNat IntKind.u8.bits)) = ((A ^^^ M : Nat) : Int) := by
        rw [hd0, hM, hA, u8_xor_nat _ _ (by omega) m2]
      rw [hx] at he
      have hlt : A ^^^ M < 2 ^ 8 := Nat.xor_lt_two_pow (by omega) (by omega)
      have := tells16 data hb _ hi _ ⟨by omega, by omega⟩ he.symm
      rw [hA] at this
      have h2 : A ^^^ M = A := by omega
      have h3 : (A ^^^ A) ^^^ M = A ^^^ A := by rw [Nat.xor_assoc, h2]
      rw [Nat.xor_self, Nat.zero_xor] at h3
      omega
    unfold want1
    generalize prot.tmod 5 = p at hp
    generalize IntKind.u8.wrap (1 + kind.tmod 3) = k at hk
    by_cases h3 : p = 3
    · rw [if_pos h3, if_pos (.inr h3)]
    · by_cases h2 : p = 2
      · rw [if_neg h3, if_neg (by simp [h2]), if_pos (c := p = 2 ∨ p = 3) (.inl h2), if_neg]
        rintro ⟨_, q2, q3⟩
        rw [if_pos (by omega)] at q3
        exact q3 rfl
      · rw [if_neg h3, if_pos ⟨h2, hne⟩, if_neg (by omega)]
  · rw [chk_of hk hp hpa]
    unfold want2
    rw [hpk]
    generalize prot.tmod 5 = p at hp
    generalize IntKind.u8.wrap (1 + kind.tmod 3) = k at hk
    by_cases h3 : p = 3
    · rw [if_pos h3, if_pos (.inl h3)]
    · rw [if_neg h3, if_neg (by simp)]
      by_cases h4 : p = 4
      · rw [if_neg (by simp [h4]), if_pos (.inr (.inl h4))]
      · by_cases h5 : k = 3
        · rw [if_neg (by simp [h5]), if_pos (.inr (.inr h5))]
        · rw [if_neg (c := p = 3 ∨ p = 4 ∨ k = 3) (by omega), if_pos]
          refine ⟨h4, h5, ?_⟩
          rw [if_pos (by omega), IntKind.wrap_u32', IntKind.wrap_u32']
          have : IntKind.u64.wrap (lba + 1) = (lba + 1) % 18446744073709551616 := by simp [IntKind.wrap, IntKind.bits, IntKind.signed]
          rw [this]
          omega
end Go.Proofs.Ytbbdggmnjkkjkaa.Abs
