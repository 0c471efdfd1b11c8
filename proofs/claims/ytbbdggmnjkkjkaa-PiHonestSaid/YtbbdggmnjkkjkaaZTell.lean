/- Data that differ in one byte alone have unlike guards. -/
import Derived.Test.YtbbdggmnjkkjkaaZCrc
set_option linter.unusedVariables false
set_option linter.unusedSimpArgs false
namespace Go.Proofs.Ytbbdggmnjkkjkaa.Abs
open Go Go.RowKit
theorem st16_inj (s t : BitVec 16) (h : st16 s = st16 t) : s = t := by
  have low : ∀ s : BitVec 16, (st16 s).getLsbD 0 = s.getLsbD 15 := fun s => by
    unfold st16
    by_cases hb : s.getLsbD 15 = true
    · rw [if_pos hb, BitVec.getLsbD_xor, BitVec.getLsbD_shiftLeft, hb]
      simp
    · rw [if_neg hb, BitVec.getLsbD_shiftLeft]
      simpa using hb
  have h0 : s.getLsbD 15 = t.getLsbD 15 := by rw [← low s, ← low t, h]
  have hs : s <<< 1 = t <<< 1 := by
    unfold st16 at h
    by_cases hb : s.getLsbD 15 = true
    · rw [if_pos hb, if_pos (h0 ▸ hb)] at h
      have := congrArg (· ^^^ 35767#16) h
      simpa [BitVec.xor_assoc] using this
    · rw [if_neg hb, if_neg (h0 ▸ hb)] at h
      exact h
  apply BitVec.eq_of_getLsbD_eq
  intro i hi
  by_cases h15 : i = 15
  · subst h15
    exact h0
  · have := congrArg (fun x : BitVec 16 => x.getLsbD (i + 1)) hs
    have hlt : i + 1 < 16 := by omega
    have hx : ∀ x : BitVec 16, (x <<< 1).getLsbD (i + 1) = x.getLsbD i := fun x => by
      rw [BitVec.getLsbD_shiftLeft]
      simp [hlt]
    exact (hx s).symm.trans (Eq.trans this (hx t))
theorem xor_cancel {n : Nat} {a b c : BitVec n} (h : a ^^^ c = b ^^^ c) : a = b := by
  have := congrArg (· ^^^ c) h
  simpa [BitVec.xor_assoc] using this
theorem xor_cancel_left {n : Nat} {a b c : BitVec n} (h : c ^^^ a = c ^^^ b) : a = b := by
  rw [BitVec.xor_comm c a, BitVec.xor_comm c b] at h
  exact xor_cancel h
theorem rep_inj : ∀ (j : Nat) (s t : BitVec 16), rep st16 j s = rep st16 j t → s = t
  | 0, _, _, h => h
  | j + 1, s, t, h => st16_inj s t (rep_inj j _ _ h)
theorem byte_inj {x y : Nat} (hx : x < 256) (hy : y < 256) (h : byteB x = byteB y) : x = y := by
  have := congrArg BitVec.toNat h
  simp only [byteB, BitVec.toNat_shiftLeft, BitVec.toNat_ofNat, Nat.shiftLeft_eq] at this
  omega
theorem fold16_inj : ∀ (l : List Int) (s t : BitVec 16), Bytes l → l.foldl c16y (s.toNat : Int) = l.foldl c16y (t.toNat : Int) → s = t
  | [], s, t, _, h => by
    simp only [List.foldl_nil] at h
    exact BitVec.eq_of_toNat_eq (by omega)
  | x :: l, s, t, hb, h => by
    obtain ⟨h0, h1⟩ := hb x (by simp)
    obtain ⟨b, rfl⟩ : ∃ b : Nat, x = (b : Int) := ⟨x.toNat, by omega⟩
    simp only [List.foldl_cons, c16y_eq (b := b) (by omega)] at h
    exact xor_cancel (rep_inj 8 _ _ (fold16_inj l _ _ (fun y hy => hb y (List.mem_cons_of_mem _ hy)) h))
/-- One byte turned turns the guard. -/
theorem tells16 (l : List Int) (hb : Bytes l) (i : Nat) (hi : i < l.length) (y : Int) (hy : 0 ≤ y ∧ y ≤ 255) (h : (l.set i y).foldl c16y 0 = l.foldl c16y 0) : y = l[i] := by
  have e1 : l = l.take i ++ l[i] :: l.drop (i + 1) := by simp
  have e2 : l.set i y = l.take i ++ y :: l.drop (i + 1) := by rw [List.set_eq_take_append_cons_drop, if_pos hi]
  have hx := hb l[i] (List.getElem_mem hi)
  have hbt : Bytes (l.take i) := fun z hz => hb z (List.mem_of_mem_take hz)
  have hbd : Bytes (l.drop (i + 1)) := fun z hz => hb z (List.mem_of_mem_drop hz)
  obtain ⟨r, hr⟩ := (fold16 (l.take i) 0#16 hbt).2
  rw [e2] at h
  conv at h => rhs; rw [e1]
  simp only [List.foldl_append, List.foldl_cons] at h
  have hr' : List.foldl c16y 0 (l.take i) = (r.toNat : Int) := hr
  rw [hr'] at h
  obtain ⟨a, ha⟩ : ∃ a : Nat, y = (a : Int) := ⟨y.toNat, by omega⟩
  obtain ⟨b, hbb⟩ : ∃ b : Nat, l[i] = (b : Int) := ⟨l[i].toNat, by omega⟩
  rw [ha, hbb, c16y_eq (b := a) (by omega), c16y_eq (b := b) (by omega)] at h
  have := rep_inj 8 _ _ (fold16_inj _ _ _ hbd h)
  have := byte_inj (by omega) (by omega) (xor_cancel_left this)
  omega
end Go.Proofs.Ytbbdggmnjkkjkaa.Abs
