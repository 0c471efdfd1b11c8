/- PduCuts: the law. -/
import Derived.Test.YtfjlniemgmimnaaV4
set_option linter.unusedVariables false
set_option linter.unusedSimpArgs false
namespace Go.Proofs.Ytfjlniemgmimnaa.Abs
open Go Go.RowKit
theorem cargs5 {P : Program} {H : Hp} {B D : Nat} {a b c d e : TypeId} {xs : List Value} (h : datArgs P H B D [a, b, c, d, e] xs) : ∃ x0 x1 x2 x3 x4, xs = [x0, x1, x2, x3, x4] ∧ datV P H B D a x0 ∧ datV P H B D b x1 ∧ datV P H B D c x2 ∧ datV P H B D d x3 ∧ datV P H B D e x4 := by
  match xs, h with
  | [x0, x1, x2, x3, x4], ⟨d0, d1, d2, d3, d4, _⟩ => exact ⟨x0, x1, x2, x3, x4, rfl, d0, d1, d2, d3, d4⟩
def okV (H : Hp) (z : PV2) : Prop := z.1.wf ∧ Sl H 1 z.1.data.length (z.1.data.map (Value.int .u8)) z.2
theorem cpdu_of {H : Hp} {B : Nat} {us : List Value} (h1 : dat Try.prog H B 7 26 us) : ∃ z : PV2, okV H z ∧ us = pdV z := by
  have hl : us.length = 14 := dat_len (by kernel_rfl) (by kernel_rfl) h1
  obtain ⟨n0, e0, w0⟩ := dat_int (k := .u8) (by kernel_rfl) (dat_field (ft := 5) 0 0 1 (by kernel_rfl) (by kernel_rfl) (by kernel_rfl) h1)
  obtain ⟨n1, e1, w1⟩ := dat_int (k := .u8) (by kernel_rfl) (dat_field (ft := 5) 1 1 1 (by kernel_rfl) (by kernel_rfl) (by kernel_rfl) h1)
  obtain ⟨n2, e2, w2⟩ := dat_int (k := .u8) (by kernel_rfl) (dat_field (ft := 5) 2 2 1 (by kernel_rfl) (by kernel_rfl) (by kernel_rfl) h1)
  obtain ⟨n3, e3, w3⟩ := dat_int (k := .u8) (by kernel_rfl) (dat_field (ft := 5) 3 3 1 (by kernel_rfl) (by kernel_rfl) (by kernel_rfl) h1)
  obtain ⟨n4, e4, w4⟩ := dat_int (k := .u8) (by kernel_rfl) (dat_field (ft := 5) 4 4 1 (by kernel_rfl) (by kernel_rfl) (by kernel_rfl) h1)
  obtain ⟨n5, e5, w5⟩ := dat_int (k := .u32) (by kernel_rfl) (dat_field (ft := 22) 5 5 1 (by kernel_rfl) (by kernel_rfl) (by kernel_rfl) h1)
  obtain ⟨ws, e6, l6, w6⟩ := dat_intArr (e := 22) (n := 7) (k := .u32) (by kernel_rfl) (by kernel_rfl) (by kernel_rfl) (by kernel_rfl) (dat_field (ft := 23) 6 6 7 (by kernel_rfl) (by kernel_rfl) (by kernel_rfl) h1)
  have h7 := dat_field (ft := 24) 7 13 1 (by kernel_rfl) (by kernel_rfl) (by kernel_rfl) h1
  match us, hl with
  | [u0, u1, u2, u3, u4, u5, u6, u7, u8, u9, u10, u11, u12, u13], _ =>
    simp only [List.drop_zero, List.drop_succ_cons, List.take_succ_cons, List.take_zero] at e0 e1 e2 e3 e4 e5 e6 h7
    obtain ⟨ps, hx, hw, hb, _⟩ := dat_ints (e := 5) (k := .u8) (by kernel_rfl) (by kernel_rfl) (by kernel_rfl) h7
    rw [show Try.prog.bytesOf 5 = 1 by kernel_rfl, Nat.mul_one] at hb
    match ws, l6 with
    | [a, b, c, d, e, f, g], _ =>
      simp only [List.map_cons, List.map_nil, List.cons.injEq, and_true] at e0 e1 e2 e3 e4 e5 e6
      obtain ⟨q0, q1, q2, q3, q4, q5, q6⟩ := e6
      refine ⟨(⟨n0, n1, n2, n3, n4, n5, a, b, c, d, e, f, g, ps⟩, u13), ⟨⟨⟨r8 w0, r8 w1, r8 w2, r8 w3, r8 w4⟩, r32 w5, fun w hw => r32 (w6 w hw), wf_bytes hw, hb⟩, hx⟩, ?_⟩
      rw [e0, e1, e2, e3, e4, e5, q0, q1, q2, q3, q4, q5, q6]
      rfl
theorem pduCuts_law {H : Hp} {B : Nat} {xs : List Value} (hro : Ro H) (hd : datArgs Try.prog H B 8 [49, 24, 24, 4, 4] xs) : ACalls Try.prog 8 xs H fun v _ => v = .bool true := by
  obtain ⟨x0, x1, x2, x3, x4, rfl, d0, d1, d2, d3, d4⟩ := cargs5 hd
  obtain ⟨n, cs0, hs, hb, _, hdd⟩ := arg_slice (e := 26) (c := 14) (by kernel_rfl) (by kernel_rfl) d0
  obtain ⟨zs, rfl, rfl, hok⟩ := parts_of pdV (okV H) 14 (fun a _ => pdV_len a) n cs0 hs.1 fun i hi => by
    obtain ⟨a, ha, he⟩ := cpdu_of (hdd i hi)
    exact ⟨a, ha, he⟩
  obtain ⟨rs, hrs, wrs, lrs, _⟩ := arg_ints (e := 5) (k := .u8) (by kernel_rfl) (by kernel_rfl) (by kernel_rfl) d1
  obtain ⟨cs, hcs, wcs, lcs, _⟩ := arg_ints (e := 5) (k := .u8) (by kernel_rfl) (by kernel_rfl) (by kernel_rfl) d2
  rw [show Try.prog.bytesOf 5 = 1 by kernel_rfl, Nat.mul_one] at lrs lcs
  obtain ⟨a, rfl⟩ := arg_bool (by kernel_rfl) d3
  obtain ⟨b, rfl⟩ := arg_bool (by kernel_rfl) d4
  have : 1 ≤ Try.prog.bytesOf 26 := by
    rw [show Try.prog.bytesOf 26 = 64 by kernel_rfl]; decide
  exact cuts_call hs hok hrs (wf_bytes wrs) hcs (wf_bytes wcs) (Nat.le_trans (Nat.le_mul_of_pos_right _ this) hb) lrs lcs
end Go.Proofs.Ytfjlniemgmimnaa.Abs
