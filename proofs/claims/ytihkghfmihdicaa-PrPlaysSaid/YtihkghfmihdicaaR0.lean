/- Reservations: what a law is handed. -/
import Derived.Test.YtihkghfmihdicaaT9
import Derived.Test.YtihkghfmihdicaaT8
set_option linter.unusedVariables false
set_option linter.unusedSimpArgs false
set_option maxRecDepth 100000
namespace Go.Proofs.Ytihkghfmihdicaa.Abs
open Go Go.RowKit
theorem ne_int {tk : Nat} {k : IntKind} {n : Int} : aBin tk .neq (.int k n) (.int k n) = some (.bool false) := by simp [aBin, isShift, aInt]
theorem eq_int {tk : Nat} {k : IntKind} {n : Int} : aBin tk .eql (.int k n) (.int k n) = some (.bool true) := by simp [aBin, isShift, aInt]
theorem ne_str {tk : Nat} {s : ByteArray} : aBin tk .neq (.string s) (.string s) = some (.bool false) := by simp [aBin, aStr]
theorem ne_bool {b : Bool} : aBin 1 .neq (.bool b) (.bool b) = some (.bool false) := by cases b <;> rfl
theorem remN {a n : Nat} (hn : 0 < n) (ha : a < 256) : aBin 5 .rem (.int .i64 (IntKind.i64.wrap (a : Int))) (.int .i64 (n : Int)) = some (.int .i64 ((a % n : Nat) : Int)) := by
  have h0 : (n : Int) ≠ 0 := by omega
  rw [wi _ (by omega)]
  simp only [aBin, isShift, aInt, if_neg h0]
  rw [Int.tmod_eq_emod_of_nonneg (by omega)]
  simp
theorem r8n {n : Int} (h : (Lit.int .u8 n).wf = true) : ∃ k : Nat, n = (k : Int) ∧ k < 256 := by
  obtain ⟨h1, h2⟩ := r8 h
  obtain ⟨k, rfl⟩ := Int.eq_ofNat_of_zero_le h1
  exact ⟨k, rfl, by omega⟩
theorem WFT.keys {P : PT} (h : WFT P) : ∀ r ∈ P.regs, 0 ≤ r.2 ∧ r.2 < 18446744073709551616 := fun r hr => by
  have := h.rng r hr
  omega
theorem keepsB {P : PT} {n : Int} {o : POut} (h : (doM P n o).st ≠ 0) : ((doM P n o).st == 2) = ((doM P n o).code != 0) := by
  have := (doM_keeps.2 h).2.2
  rw [Bool.eq_iff_iff, beq_iff_eq, bne_iff_ne]
  exact this
theorem args1 {P : Program} {H : Hp} {B D : Nat} {a : TypeId} {xs : List Value} (h : datArgs P H B D [a] xs) : ∃ x0, xs = [x0] ∧ datV P H B D a x0 := by
  match xs, h with
  | [x0], ⟨d0, _⟩ => exact ⟨x0, rfl, d0⟩
theorem args2 {P : Program} {H : Hp} {B D : Nat} {a b : TypeId} {xs : List Value} (h : datArgs P H B D [a, b] xs) : ∃ x0 x1, xs = [x0, x1] ∧ datV P H B D a x0 ∧ datV P H B D b x1 := by
  match xs, h with
  | [x0, x1], ⟨d0, d1, _⟩ => exact ⟨x0, x1, rfl, d0, d1⟩
theorem args3 {P : Program} {H : Hp} {B D : Nat} {a b c : TypeId} {xs : List Value} (h : datArgs P H B D [a, b, c] xs) : ∃ x0 x1 x2, xs = [x0, x1, x2] ∧ datV P H B D a x0 ∧ datV P H B D b x1 ∧ datV P H B D c x2 := by
  match xs, h with
  | [x0, x1, x2], ⟨d0, d1, d2, _⟩ => exact ⟨x0, x1, x2, rfl, d0, d1, d2⟩
theorem args5 {P : Program} {H : Hp} {B D : Nat} {a b c d e : TypeId} {xs : List Value} (h : datArgs P H B D [a, b, c, d, e] xs) : ∃ x0 x1 x2 x3 x4, xs = [x0, x1, x2, x3, x4] ∧ datV P H B D a x0 ∧ datV P H B D b x1 ∧ datV P H B D c x2 ∧ datV P H B D d x3 ∧ datV P H B D e x4 := by
  match xs, h with
  | [x0, x1, x2, x3, x4], ⟨d0, d1, d2, d3, d4, _⟩ => exact ⟨x0, x1, x2, x3, x4, rfl, d0, d1, d2, d3, d4⟩
def PAct.ok (a : PAct) : Prop := (0 ≤ a.o.sv ∧ a.o.sv < 256) ∧ (0 ≤ a.o.ty ∧ a.o.ty < 256) ∧ (0 ≤ a.o.key ∧ a.o.key < 18446744073709551616) ∧ (0 ≤ a.o.act ∧ a.o.act < 18446744073709551616) ∧ (-9223372036854775808 ≤ a.n ∧ a.n < 9223372036854775808)
theorem act_of {H : Hp} {B D : Nat} {us : List Value} (h : dat Try.prog H B (D + 3) 55 us) : ∃ a : PAct, a.ok ∧ us = actE a := by
  have hl : us.length = 7 := dat_len (by kernel_rfl) (by kernel_rfl) h
  obtain ⟨n, e0, w0⟩ := dat_int (k := .i64) (by kernel_rfl) (dat_field (ft := 3) 0 0 1 (by kernel_rfl) (by kernel_rfl) (by kernel_rfl) h)
  have ho := dat_field (ft := 39) 1 1 5 (by kernel_rfl) (by kernel_rfl) (by kernel_rfl) h
  obtain ⟨sv, e1, w1⟩ := dat_int (k := .u8) (by kernel_rfl) (dat_field (ft := 5) 0 0 1 (by kernel_rfl) (by kernel_rfl) (by kernel_rfl) ho)
  obtain ⟨ty, e2, w2⟩ := dat_int (k := .u8) (by kernel_rfl) (dat_field (ft := 5) 1 1 1 (by kernel_rfl) (by kernel_rfl) (by kernel_rfl) ho)
  obtain ⟨key, e3, w3⟩ := dat_int (k := .u64) (by kernel_rfl) (dat_field (ft := 28) 2 2 1 (by kernel_rfl) (by kernel_rfl) (by kernel_rfl) ho)
  obtain ⟨act, e4, w4⟩ := dat_int (k := .u64) (by kernel_rfl) (dat_field (ft := 28) 3 3 1 (by kernel_rfl) (by kernel_rfl) (by kernel_rfl) ho)
  obtain ⟨ap, e5⟩ := dat_bool (by kernel_rfl) (dat_field (ft := 4) 4 4 1 (by kernel_rfl) (by kernel_rfl) (by kernel_rfl) ho)
  obtain ⟨ag, e6⟩ := dat_bool (by kernel_rfl) (dat_field (ft := 4) 2 6 1 (by kernel_rfl) (by kernel_rfl) (by kernel_rfl) h)
  refine ⟨⟨n, ⟨sv, ty, key, act, ap⟩, ag⟩, ⟨r8 w1, r8 w2, r64 w3, r64 w4, ri64 w0⟩, ?_⟩
  match us, hl with
  | [u0, u1, u2, u3, u4, u5, u6], _ =>
    simp at e0 e1 e2 e3 e4 e5 e6
    rw [e0, e1, e2, e3, e4, e5, e6]
    rfl
theorem acts_of {H : Hp} {B D : Nat} {x : Value} (h : datV Try.prog H B (D + 4) 22 x) : ∃ xs : List PAct, Sl H 7 xs.length (xs.flatMap actE) x ∧ xs.length ≤ 140737488351232 ∧ ∀ a ∈ xs, a.ok := by
  obtain ⟨n, cs, hs, hb, _, hd⟩ := arg_slice (e := 55) (c := 7) (by kernel_rfl) (by kernel_rfl) h
  obtain ⟨xs, rfl, rfl, hok⟩ := parts_of actE PAct.ok 7 (fun a _ => actE_len a) n cs hs.1 fun i hi => by
    obtain ⟨a, ha, he⟩ := act_of (hd i hi)
    exact ⟨a, ha, he⟩
  refine ⟨xs, hs, ?_, hok⟩
  have : 1 ≤ Try.prog.bytesOf 55 := by
    rw [show Try.prog.bytesOf 55 = 48 by kernel_rfl]; decide
  exact Nat.le_trans (Nat.le_mul_of_pos_right _ this) hb

end Go.Proofs.Ytihkghfmihdicaa.Abs
