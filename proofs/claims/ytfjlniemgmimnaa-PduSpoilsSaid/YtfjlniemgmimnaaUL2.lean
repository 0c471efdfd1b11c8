/- PduBytes, PduLengths, PduSpoils: the laws. -/
import Derived.Test.YtfjlniemgmimnaaU10
import Derived.Test.YtfjlniemgmimnaaUL1
set_option linter.unusedVariables false
set_option linter.unusedSimpArgs false
namespace Go.Proofs.Ytfjlniemgmimnaa.Abs
open Go Go.RowKit
theorem u32_wf {n : Int} (h : (Lit.int .u32 n).wf = true) : B32 n := r32 h
theorem pdu_of {H : Hp} {B : Nat} {v : Value} (h : datV Try.prog H B 8 26 v) : ∃ (p : Pd) (x : Value), p.wf ∧ Sl H 1 p.data.length (p.data.map (Value.int .u8)) x ∧ v = .agg #[.int .u8 p.op, .int .u8 p.fl, .int .u8 p.res, .int .u8 p.st, .int .u8 p.lun, .int .u32 p.tag, .int .u32 p.w0, .int .u32 p.w1, .int .u32 p.w2, .int .u32 p.w3, .int .u32 p.w4, .int .u32 p.w5, .int .u32 p.w6, x] := by
  obtain ⟨us, rfl, h1⟩ := datV_row (by kernel_rfl) h
  have hl : us.length = 14 := dat_len (by kernel_rfl) (by kernel_rfl) h1
  obtain ⟨n0, e0, w0⟩ := dat_int (k := .u8) (by kernel_rfl) (dat_field (ft := 5) 0 0 1 (by kernel_rfl) (by kernel_rfl) (by kernel_rfl) h1)
  obtain ⟨n1, e1, w1⟩ := dat_int (k := .u8) (by kernel_rfl) (dat_field (ft := 5) 1 1 1 (by kernel_rfl) (by kernel_rfl) (by kernel_rfl) h1)
  obtain ⟨n2, e2, w2⟩ := dat_int (k := .u8) (by kernel_rfl) (dat_field (ft := 5) 2 2 1 (by kernel_rfl) (by kernel_rfl) (by kernel_rfl) h1)
  obtain ⟨n3, e3, w3⟩ := dat_int (k := .u8) (by kernel_rfl) (dat_field (ft := 5) 3 3 1 (by kernel_rfl) (by kernel_rfl) (by kernel_rfl) h1)
  obtain ⟨n4, e4, w4⟩ := dat_int (k := .u8) (by kernel_rfl) (dat_field (ft := 5) 4 4 1 (by kernel_rfl) (by kernel_rfl) (by kernel_rfl) h1)
  obtain ⟨n5, e5, w5⟩ := dat_int (k := .u32) (by kernel_rfl) (dat_field (ft := 22) 5 5 1 (by kernel_rfl) (by kernel_rfl) (by kernel_rfl) h1)
  obtain ⟨ws, e6, l6, w6⟩ := dat_intArr (e := 22) (n := 7) (k := .u32) (by kernel_rfl) (by kernel_rfl) (by kernel_rfl) (by kernel_rfl) (dat_field (ft := 23) 6 6 7 (by kernel_rfl) (by kernel_rfl) (by kernel_rfl) h1)
  have h7 := dat_field (ft := 24) 7 13 1 (by kernel_rfl) (by kernel_rfl) (by kernel_rfl) h1
  match us, hl with
  | [u0, u1, u2, u3, u4, u5, u6, u7, u8, u9, u10, u11, u12, u13], _ =>
    simp only [List.drop_zero, List.drop_succ_cons, List.take_succ_cons, List.take_zero] at e0 e1 e2 e3 e4 e5 e6 h7
    obtain ⟨ps, hx, hw, hb, _⟩ := dat_ints (e := 5) (k := .u8) (by kernel_rfl) (by kernel_rfl) (by kernel_rfl) h7
    rw [show Try.prog.bytesOf 5 = 1 by kernel_rfl, Nat.mul_one] at hb
    match ws, l6 with
    | [a, b, c, d, e, f, g], _ =>
      simp only [List.map_cons, List.map_nil, List.cons.injEq, and_true] at e0 e1 e2 e3 e4 e5 e6
      obtain ⟨q0, q1, q2, q3, q4, q5, q6⟩ := e6
      refine ⟨⟨n0, n1, n2, n3, n4, n5, a, b, c, d, e, f, g, ps⟩, u13, ⟨⟨r8 w0, r8 w1, r8 w2, r8 w3, r8 w4⟩, u32_wf w5, fun w hw => u32_wf (w6 w hw), wf_bytes hw, hb⟩, hx, ?_⟩
      rw [e0, e1, e2, e3, e4, e5, q0, q1, q2, q3, q4, q5, q6]
theorem pduBytes_law {H : Hp} {B : Nat} {xs : List Value} (hro : Ro H) (hd : datArgs Try.prog H B 8 [26, 4, 4] xs) : ACalls Try.prog 3 xs H fun v _ => v = .bool true := by
  obtain ⟨x0, x1, x2, rfl, d0, d1, d2⟩ := args3 hd
  obtain ⟨p, x, hp, hx, rfl⟩ := pdu_of d0
  obtain ⟨a, rfl⟩ := arg_bool (by kernel_rfl) d1
  obtain ⟨b, rfl⟩ := arg_bool (by kernel_rfl) d2
  exact bytes_call hp hx
theorem pduLengths_law {H : Hp} {B : Nat} {xs : List Value} (hro : Ro H) (hd : datArgs Try.prog H B 8 [26, 4, 4] xs) : ACalls Try.prog 6 xs H fun v _ => v = .bool true := by
  obtain ⟨x0, x1, x2, rfl, d0, d1, d2⟩ := args3 hd
  obtain ⟨p, x, hp, hx, rfl⟩ := pdu_of d0
  obtain ⟨a, rfl⟩ := arg_bool (by kernel_rfl) d1
  obtain ⟨b, rfl⟩ := arg_bool (by kernel_rfl) d2
  exact lengths_call hp hx
theorem pduSpoils_law {H : Hp} {B : Nat} {xs : List Value} (hro : Ro H) (hd : datArgs Try.prog H B 8 [26, 40, 5] xs) : ACalls Try.prog 5 xs H fun v _ => v = .bool true := by
  obtain ⟨x0, x1, x2, rfl, d0, d1, d2⟩ := args3 hd
  obtain ⟨p, x, hp, hx, rfl⟩ := pdu_of d0
  obtain ⟨n, rfl, wn⟩ := arg_int (k := .u16) (by kernel_rfl) d1
  obtain ⟨m, rfl, wm⟩ := arg_int (k := .u8) (by kernel_rfl) d2
  exact spoils_call hp hx (r16 wn) (r8 wm)
end Go.Proofs.Ytfjlniemgmimnaa.Abs
