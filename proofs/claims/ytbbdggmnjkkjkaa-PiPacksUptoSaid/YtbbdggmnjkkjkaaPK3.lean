/- Bytes as blocks. -/
import Derived.Test.YtbbdggmnjkkjkaaPK2
set_option linter.unusedVariables false
set_option linter.unusedSimpArgs false
namespace Go.Proofs.Ytbbdggmnjkkjkaa.Abs
open Go Go.RowKit
theorem or16 {a b : Int} (ha : 0 ≤ a ∧ a ≤ 255) (hb : 0 ≤ b ∧ b ≤ 255) : bits .or .u16 (IntKind.u16.wrap (IntKind.u16.wrap a * 2 ^ min (8 : Int).toNat IntKind.u16.bits)) (IntKind.u16.wrap b) = a * 256 + b := by
  rw [show (2 : Int) ^ min (8 : Int).toNat IntKind.u16.bits = 256 by decide, w16, w16, w16]
  rw [or_add 8 (.inr (.inl rfl)) (by omega) (by omega) (by rw [show (2 : Int) ^ 8 = 256 by decide]; omega) (by rw [show (2 : Int) ^ 8 = 256 by decide]; omega) (by rw [show (2 : Int) ^ IntKind.u16.bits = 65536 by decide]; omega)]
  omega
theorem or32 {a b c e : Int} (ha : 0 ≤ a ∧ a ≤ 255) (hb : 0 ≤ b ∧ b ≤ 255) (hc : 0 ≤ c ∧ c ≤ 255) (he : 0 ≤ e ∧ e ≤ 255) :
    bits .or .u32 (bits .or .u32 (bits .or .u32 (IntKind.u32.wrap (IntKind.u32.wrap a * 2 ^ min (24 : Int).toNat IntKind.u32.bits)) (IntKind.u32.wrap (IntKind.u32.wrap b * 2 ^ min (16 : Int).toNat IntKind.u32.bits))) (IntKind.u32.wrap (IntKind.u32.wrap c * 2 ^ min (8 : Int).toNat IntKind.u32.bits))) (IntKind.u32.wrap e) = ((a * 256 + b) * 256 + c) * 256 + e := by
  rw [show (2 : Int) ^ min (8 : Int).toNat IntKind.u32.bits = 256 by decide, show (2 : Int) ^ min (16 : Int).toNat IntKind.u32.bits = 65536 by decide, show (2 : Int) ^ min (24 : Int).toNat IntKind.u32.bits = 16777216 by decide]
  simp only [w32]
  have p8 : (2 : Int) ^ 8 = 256 := by decide
  have p16 : (2 : Int) ^ 16 = 65536 := by decide
  have p24 : (2 : Int) ^ 24 = 16777216 := by decide
  have p32 : (2 : Int) ^ IntKind.u32.bits = 4294967296 := by decide
  rw [or_add (a := a % 4294967296 * 16777216 % 4294967296) 24 (.inr (.inr (.inl rfl))) (by omega) (by omega) (by rw [p24]; omega) (by rw [p24]; omega) (by rw [p32]; omega)]
  rw [or_add (a := a % 4294967296 * 16777216 % 4294967296 + b % 4294967296 * 65536 % 4294967296) 16 (.inr (.inr (.inl rfl))) (by omega) (by omega) (by rw [p16]; omega) (by rw [p16]; omega) (by rw [p32]; omega)]
  rw [or_add 8 (.inr (.inr (.inl rfl))) (by omega) (by omega) (by rw [p8]; omega) (by rw [p8]; omega) (by rw [p32]; omega)]
  omega
/-- The block that bytes are. -/
def unB (w : Bool) (c : List Int) : Bk :=
  { d := c.take 16, g := if w = true then c.getD 16 0 * 256 + c.getD 17 0 else 0, a := if w = true then c.getD 18 0 * 256 + c.getD 19 0 else 0, r := if w = true then ((c.getD 20 0 * 256 + c.getD 21 0) * 256 + c.getD 22 0) * 256 + c.getD 23 0 else 0 }
def szB (w : Bool) : Nat := if w = true then 24 else 16
def unL (w : Bool) (xs : List Int) : List Bk := (List.range (xs.length / szB w)).map fun k => unB w (xs.drop (k * szB w))
def unR (w : Bool) (xs : List Int) : List Bk := if xs.length % szB w = 0 then unL w xs else []
theorem unL_len (w : Bool) (xs : List Int) : (unL w xs).length = xs.length / szB w := by simp [unL]
theorem unB_ok {w : Bool} {c : List Int} (hc : ByteL c) (h : 16 ≤ c.length) : (unB w c).ok := by
  have g := fun i => hc.getD i
  have h16 := g 16
  have h17 := g 17
  have h18 := g 18
  have h19 := g 19
  have h20 := g 20
  have h21 := g 21
  have h22 := g 22
  have h23 := g 23
  refine ⟨by simp [unB]; omega, hc.take 16, ?_, ?_, ?_⟩ <;> simp only [unB] <;> split <;> omega
theorem unL_ok {w : Bool} {xs : List Int} (h : ByteL xs) : BksOk (unL w xs) := by
  intro b hb
  obtain ⟨k, hk, rfl⟩ := List.mem_map.1 hb
  have hk := List.mem_range.1 hk
  refine unB_ok (h.drop _) ?_
  rw [List.length_drop]
  have : (k + 1) * szB w ≤ xs.length := Nat.le_trans (Nat.mul_le_mul_right _ hk) (Nat.div_mul_le_self _ _)
  rw [Nat.add_mul] at this
  have : 16 ≤ szB w := by unfold szB; split <;> omega
  omega
theorem unL_take {w : Bool} {xs : List Int} {j : Nat} (hj : j < xs.length / szB w) : encs ((unL w xs).take (j + 1)) = encs ((unL w xs).take j) ++ (unB w (xs.drop (j * szB w))).enc := by
  have hl : j < (unL w xs).length := by rw [unL_len]; exact hj
  rw [List.take_add_one, List.getElem?_eq_getElem hl]
  simp [encs, unL]
theorem putAll (c rest : List Value) (hr : rest.length = 3) (z : List Value) (hz : z.length = 16) (m : Nat) (hc : 16 ≤ m) : (z ++ rest).take (0 + 0 + 0 * 1) ++ c.take (min m (16 - 0) * 1) ++ (z ++ rest).drop (0 + 0 + 0 * 1 + min m (16 - 0) * 1) = c.take 16 ++ rest := by
  rw [show min m (16 - 0) * 1 = 16 by omega, show (0 + 0 + 0 * 1 : Nat) = 0 from rfl, List.take_zero, List.nil_append, Nat.zero_add, List.drop_left' hz]
theorem storeTail (A rest xs : List Value) (hA : A.length = 16) (hr : rest.length = 3) : (A ++ rest).take (0 + 16) ++ xs ++ (A ++ rest).drop (0 + 16 + 3) = A ++ xs := by
  rw [List.take_left' (by omega), List.drop_of_length_le (by simp [hA, hr]), List.append_nil]
end Go.Proofs.Ytbbdggmnjkkjkaa.Abs
