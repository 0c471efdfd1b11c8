/- The laws of who a unit is. -/
import Derived.Test.YtaboppkelafoaaaI13
set_option linter.unusedVariables false
set_option linter.unusedSimpArgs false
set_option maxRecDepth 100000
namespace Go.Proofs.Ytaboppkelafoaaa.Abs
open Go Go.RowKit
theorem inf_of {H : Hp} {B : Nat} {x : Value} (h : datV Try.prog H B 8 23 x) : ∃ i : Inf, i.wf ∧ x = .agg #[.string (ofInts i.v), .string (ofInts i.p), .string (ofInts i.r), .string (ofInts i.s), .int .u8 i.prot] := by
  obtain ⟨us, rfl, h1⟩ := datV_row (by kernel_rfl) h
  have hl : us.length = 5 := dat_len (by kernel_rfl) (by kernel_rfl) h1
  obtain ⟨v, e0, b0, l0, _⟩ := dat_text (by kernel_rfl) (dat_field (ft := 9) 0 0 1 (by kernel_rfl) (by kernel_rfl) (by kernel_rfl) h1)
  obtain ⟨p, e1, b1, l1, _⟩ := dat_text (by kernel_rfl) (dat_field (ft := 9) 1 1 1 (by kernel_rfl) (by kernel_rfl) (by kernel_rfl) h1)
  obtain ⟨r, e2, b2, l2, _⟩ := dat_text (by kernel_rfl) (dat_field (ft := 9) 2 2 1 (by kernel_rfl) (by kernel_rfl) (by kernel_rfl) h1)
  obtain ⟨s, e3, b3, l3, _⟩ := dat_text (by kernel_rfl) (dat_field (ft := 9) 3 3 1 (by kernel_rfl) (by kernel_rfl) (by kernel_rfl) h1)
  obtain ⟨n, e4, w4⟩ := dat_int (k := .u8) (by kernel_rfl) (dat_field (ft := 5) 4 4 1 (by kernel_rfl) (by kernel_rfl) (by kernel_rfl) h1)
  refine ⟨⟨v, p, r, s, n⟩, ⟨⟨b0, l0⟩, ⟨b1, l1⟩, ⟨b2, l2⟩, ⟨b3, l3⟩, r8 w4⟩, ?_⟩
  have q0 := one_of e0
  have q1 := one_of e1
  have q2 := one_of e2
  have q3 := one_of e3
  have q4 := one_of e4
  match us, hl with
  | [u0, u1, u2, u3, u4], _ =>
    simp at q0 q1 q2 q3 q4
    rw [q0, q1, q2, q3, q4]
theorem inqPages_law {H : Hp} {B : Nat} {xs : List Value} (hro : Ro H) (hd : datArgs Try.prog H B 8 [23, 5] xs) : ACalls Try.prog 5 xs H fun v _ => v = .bool true := by
  match xs, hd with
  | [x0, x1], ⟨d0, d1, _⟩ =>
  obtain ⟨i, hs, rfl⟩ := inf_of d0
  obtain ⟨n, rfl, wn⟩ := arg_int (k := .u8) (by kernel_rfl) d1
  exact pages_call hs (r8 wn)
theorem inqKeeps_law {H : Hp} {B : Nat} {xs : List Value} (hro : Ro H) (hd : datArgs Try.prog H B 8 [23, 5] xs) : ACalls Try.prog 3 xs H fun v _ => v = .bool true := by
  match xs, hd with
  | [x0, x1], ⟨d0, d1, _⟩ =>
  obtain ⟨i, hs, rfl⟩ := inf_of d0
  obtain ⟨n, rfl, wn⟩ := arg_int (k := .u8) (by kernel_rfl) d1
  exact keeps_call hs
theorem inqSupports_law {H : Hp} {B : Nat} {xs : List Value} (hro : Ro H) (hd : datArgs Try.prog H B 8 [23] xs) : ACalls Try.prog 6 xs H fun v _ => v = .bool true := by
  match xs, hd with
  | [x0], ⟨d0, _⟩ =>
  obtain ⟨i, hs, rfl⟩ := inf_of d0
  exact supports_call hs
theorem args3 {P : Program} {H : Hp} {B D : Nat} {a b c : TypeId} {xs : List Value} (h : datArgs P H B D [a, b, c] xs) : ∃ x0 x1 x2, xs = [x0, x1, x2] ∧ datV P H B D a x0 ∧ datV P H B D b x1 ∧ datV P H B D c x2 := by
  match xs, h with
  | [x0, x1, x2], ⟨d0, d1, d2, _⟩ => exact ⟨x0, x1, x2, rfl, d0, d1, d2⟩
theorem inqLists_aux {H : Hp} {B : Nat} {x0 x1 x2 : Value} (hB : B ≤ 1048576) (d0 : datV Try.prog H B 8 30 x0) (d1 : datV Try.prog H B 8 25 x1) (d2 : datV Try.prog H B 8 3 x2) : ACalls Try.prog 4 [x0, x1, x2] H fun v _ => v = .bool true := by
  obtain ⟨ls, hx, _, _, hl⟩ := arg_ints (e := 3) (k := .i64) (by kernel_rfl) (by kernel_rfl) (by kernel_rfl) d0
  obtain ⟨ps, hy, _, _, hl2⟩ := arg_ints (e := 5) (k := .u8) (by kernel_rfl) (by kernel_rfl) (by kernel_rfl) d1
  obtain ⟨n, hn, wn⟩ := arg_int (k := .i64) (by kernel_rfl) d2
  rw [hn]
  have h1 : ls.length ≤ 1048576 := Nat.le_trans hl hB
  have h2 : ps.length ≤ 140737488351232 := by omega
  exact lists_call hx h1 hy h2
theorem inqLists_law {H : Hp} {xs : List Value} (hro : Ro H) (hd : datArgs Try.prog H 1048576 8 [30, 25, 3] xs) : ACalls Try.prog 4 xs H fun v _ => v = .bool true := by
  obtain ⟨x0, x1, x2, rfl, d0, d1, d2⟩ := args3 hd
  exact inqLists_aux (Nat.le_refl _) d0 d1 d2
end Go.Proofs.Ytaboppkelafoaaa.Abs
