/- PduReads: the law. -/
import Derived.Test.YtfjlniemgmimnaaU7
set_option linter.unusedVariables false
set_option linter.unusedSimpArgs false
namespace Go.Proofs.Ytfjlniemgmimnaa.Abs
open Go Go.RowKit
theorem args3 {P : Program} {H : Hp} {B D : Nat} {a b c : TypeId} {xs : List Value} (h : datArgs P H B D [a, b, c] xs) : ∃ x0 x1 x2, xs = [x0, x1, x2] ∧ datV P H B D a x0 ∧ datV P H B D b x1 ∧ datV P H B D c x2 := by
  match xs, h with
  | [x0, x1, x2], ⟨d0, d1, d2, _⟩ => exact ⟨x0, x1, x2, rfl, d0, d1, d2⟩
theorem pduReads_law {H : Hp} {B : Nat} {xs : List Value} (hro : Ro H) (hd : datArgs Try.prog H B 8 [24, 4, 4] xs) : ACalls Try.prog 4 xs H fun v _ => v = .bool true := by
  obtain ⟨x0, x1, x2, rfl, d0, d1, d2⟩ := args3 hd
  obtain ⟨ps, hx, hw, hb, _⟩ := arg_ints (e := 5) (k := .u8) (by kernel_rfl) (by kernel_rfl) (by kernel_rfl) d0
  rw [show Try.prog.bytesOf 5 = 1 by kernel_rfl, Nat.mul_one] at hb
  obtain ⟨a, rfl⟩ := arg_bool (by kernel_rfl) d1
  obtain ⟨b, rfl⟩ := arg_bool (by kernel_rfl) d2
  exact reads_call hx (wf_bytes hw) hb
end Go.Proofs.Ytfjlniemgmimnaa.Abs
