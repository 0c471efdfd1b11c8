/- SenseReads, SenseBack, SenseSpoils: the laws. -/
import Derived.Test.YtloigiieoehimaaE16
import Derived.Test.YtloigiieoehimaaEL1
set_option linter.unusedVariables false
set_option linter.unusedSimpArgs false
namespace Go.Proofs.Ytloigiieoehimaa.Abs
open Go Go.RowKit
theorem senseReads_law {H : Hp} {B : Nat} {xs : List Value} (hro : Ro H) (hd : datArgs Try.prog H B 8 [27] xs) : ACalls Try.prog 5 xs H fun v _ => v = .bool true := by
  match xs, hd with
  | [x0], ⟨d0, _⟩ =>
  obtain ⟨ps, hx, hw, hb, _⟩ := arg_ints (e := 5) (k := .u8) (by kernel_rfl) (by kernel_rfl) (by kernel_rfl) d0
  rw [show Try.prog.bytesOf 5 = 1 by kernel_rfl, Nat.mul_one] at hb
  exact reads_call hx (wf_bytes hw) hb
theorem senseBack_law {H : Hp} {B : Nat} {xs : List Value} (hro : Ro H) (hd : datArgs Try.prog H B 8 [25] xs) : ACalls Try.prog 6 xs H fun v _ => v = .bool true := by
  match xs, hd with
  | [x0], ⟨d0, _⟩ =>
  obtain ⟨s, hs, rfl⟩ := sense_of d0
  exact back_call hs
theorem senseSpoils_law {H : Hp} {B : Nat} {xs : List Value} (hro : Ro H) (hd : datArgs Try.prog H B 8 [25, 5, 5, 4] xs) : ACalls Try.prog 7 xs H fun v _ => v = .bool true := by
  match xs, hd with
  | [x0, x1, x2, x3], ⟨d0, d1, d2, d3, _⟩ =>
  obtain ⟨s, hs, rfl⟩ := sense_of d0
  obtain ⟨n, rfl, wn⟩ := arg_int (k := .u8) (by kernel_rfl) d1
  obtain ⟨m, rfl, wm⟩ := arg_int (k := .u8) (by kernel_rfl) d2
  obtain ⟨b, rfl⟩ := arg_bool (by kernel_rfl) d3
  exact spoils_call hs (r8 wn) (r8 wm)
end Go.Proofs.Ytloigiieoehimaa.Abs
