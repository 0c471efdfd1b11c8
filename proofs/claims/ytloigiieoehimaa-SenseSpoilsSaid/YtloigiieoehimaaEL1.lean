/- SenseBytes, SenseNames: the laws. -/
import Derived.Test.YtloigiieoehimaaE8
set_option linter.unusedVariables false
set_option linter.unusedSimpArgs false
namespace Go.Proofs.Ytloigiieoehimaa.Abs
open Go Go.RowKit
theorem sense_of {H : Hp} {B : Nat} {x : Value} (h : datV Try.prog H B 8 25 x) : ∃ s : Sn, s.wf ∧ x = .agg #[.int .u8 s.key, .int .u16 s.code, .int .u64 s.info, .bool s.hi, .int .i64 s.fld, .int .i64 s.bit, .bool s.hf, .bool s.ic] := by
  obtain ⟨us, rfl, h1⟩ := datV_row (by kernel_rfl) h
  have hl : us.length = 8 := dat_len (by kernel_rfl) (by kernel_rfl) h1
  obtain ⟨n0, e0, w0⟩ := dat_int (k := .u8) (by kernel_rfl) (dat_field (ft := 5) 0 0 1 (by kernel_rfl) (by kernel_rfl) (by kernel_rfl) h1)
  obtain ⟨n1, e1, w1⟩ := dat_int (k := .u16) (by kernel_rfl) (dat_field (ft := 22) 1 1 1 (by kernel_rfl) (by kernel_rfl) (by kernel_rfl) h1)
  obtain ⟨n2, e2, w2⟩ := dat_int (k := .u64) (by kernel_rfl) (dat_field (ft := 23) 2 2 1 (by kernel_rfl) (by kernel_rfl) (by kernel_rfl) h1)
  obtain ⟨b3, e3⟩ := dat_bool (by kernel_rfl) (dat_field (ft := 4) 3 3 1 (by kernel_rfl) (by kernel_rfl) (by kernel_rfl) h1)
  obtain ⟨n4, e4, w4⟩ := dat_int (k := .i64) (by kernel_rfl) (dat_field (ft := 3) 4 4 1 (by kernel_rfl) (by kernel_rfl) (by kernel_rfl) h1)
  obtain ⟨n5, e5, w5⟩ := dat_int (k := .i64) (by kernel_rfl) (dat_field (ft := 3) 5 5 1 (by kernel_rfl) (by kernel_rfl) (by kernel_rfl) h1)
  obtain ⟨b6, e6⟩ := dat_bool (by kernel_rfl) (dat_field (ft := 4) 6 6 1 (by kernel_rfl) (by kernel_rfl) (by kernel_rfl) h1)
  obtain ⟨b7, e7⟩ := dat_bool (by kernel_rfl) (dat_field (ft := 4) 7 7 1 (by kernel_rfl) (by kernel_rfl) (by kernel_rfl) h1)
  refine ⟨⟨n0, n1, n2, b3, n4, n5, b6, b7⟩, ⟨r8 w0, r16 w1, r64 w2, ri64 w4, ri64 w5⟩, ?_⟩
  have q0 := one_of e0
  have q1 := one_of e1
  have q2 := one_of e2
  have q3 := one_of e3
  have q4 := one_of e4
  have q5 := one_of e5
  have q6 := one_of e6
  have q7 := one_of e7
  match us, hl with
  | [u0, u1, u2, u3, u4, u5, u6, u7], _ =>
    simp at q0 q1 q2 q3 q4 q5 q6 q7
    rw [q0, q1, q2, q3, q4, q5, q6, q7]
theorem senseBytes_law {H : Hp} {B : Nat} {xs : List Value} (hro : Ro H) (hd : datArgs Try.prog H B 8 [25] xs) : ACalls Try.prog 3 xs H fun v _ => v = .bool true := by
  match xs, hd with
  | [x0], ⟨d0, _⟩ =>
  obtain ⟨s, hs, rfl⟩ := sense_of d0
  exact bytes_call hs
theorem senseNames_law {H : Hp} {B : Nat} {xs : List Value} (hro : Ro H) (hd : datArgs Try.prog H B 8 [22] xs) : ACalls Try.prog 4 xs H fun v _ => v = .bool true := by
  match xs, hd with
  | [x0], ⟨d0, _⟩ =>
  obtain ⟨n, rfl, wn⟩ := arg_int (k := .u16) (by kernel_rfl) d0
  exact names_call
end Go.Proofs.Ytloigiieoehimaa.Abs
