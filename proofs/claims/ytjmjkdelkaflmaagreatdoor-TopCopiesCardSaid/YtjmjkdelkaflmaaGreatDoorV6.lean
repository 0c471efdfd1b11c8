/- TopCopies: the law. -/
import Derived.Test.YtjmjkdelkaflmaaGreatDoorXI
import Derived.Test.YtjmjkdelkaflmaaGreatDoorV5
set_option linter.unusedVariables false
set_option linter.unusedSimpArgs false
set_option maxRecDepth 100000
namespace Go.Proofs.YtjmjkdelkaflmaaGreatDoor.Abs
open Go Go.RowKit
theorem args1 {P : Program} {H : Hp} {B D : Nat} {a : TypeId} {xs : List Value} (h : datArgs P H B D [a] xs) : ∃ x0, xs = [x0] ∧ datV P H B D a x0 := by
  match xs, h with
  | [x0], ⟨d0, _⟩ => exact ⟨x0, rfl, d0⟩
theorem r8n {n : Int} (h : (Lit.int .u8 n).wf = true) : ∃ k : Nat, n = (k : Int) ∧ k < 256 := by
  simp [Lit.wf, IntKind.min, IntKind.max, IntKind.signed, IntKind.bits] at h
  obtain ⟨k, rfl⟩ := Int.eq_ofNat_of_zero_le (show 0 ≤ n by omega)
  exact ⟨k, rfl, by omega⟩
theorem mv_of {H : Hp} {B D : Nat} {us : List Value} (h : dat Tryz.prog H B (D + 3) 56 us) : ∃ a : Mv, a.ok ∧ us = mvE a := by
  have hl : us.length = 6 := dat_len (by kernel_rfl) (by kernel_rfl) h
  obtain ⟨z0, e0, w0⟩ := dat_int (k := .u8) (by kernel_rfl) (dat_field (ft := 5) 0 0 1 (by kernel_rfl) (by kernel_rfl) (by kernel_rfl) h)
  obtain ⟨b1, e1⟩ := dat_bool (by kernel_rfl) (dat_field (ft := 4) 1 1 1 (by kernel_rfl) (by kernel_rfl) (by kernel_rfl) h)
  obtain ⟨z2, e2, w2⟩ := dat_int (k := .u8) (by kernel_rfl) (dat_field (ft := 5) 2 2 1 (by kernel_rfl) (by kernel_rfl) (by kernel_rfl) h)
  obtain ⟨z3, e3, w3⟩ := dat_int (k := .u8) (by kernel_rfl) (dat_field (ft := 5) 3 3 1 (by kernel_rfl) (by kernel_rfl) (by kernel_rfl) h)
  obtain ⟨z4, e4, w4⟩ := dat_int (k := .u8) (by kernel_rfl) (dat_field (ft := 5) 4 4 1 (by kernel_rfl) (by kernel_rfl) (by kernel_rfl) h)
  obtain ⟨z5, e5, w5⟩ := dat_int (k := .u8) (by kernel_rfl) (dat_field (ft := 5) 5 5 1 (by kernel_rfl) (by kernel_rfl) (by kernel_rfl) h)
  obtain ⟨n0, rfl, q0⟩ := r8n w0
  obtain ⟨n2, rfl, q2⟩ := r8n w2
  obtain ⟨n3, rfl, q3⟩ := r8n w3
  obtain ⟨n4, rfl, q4⟩ := r8n w4
  obtain ⟨n5, rfl, q5⟩ := r8n w5
  refine ⟨⟨n0, b1, n2, n3, n4, n5⟩, ⟨q0, q2, q3, q4, q5⟩, ?_⟩
  match us, hl with
  | [u0, u1, u2, u3, u4, u5], _ =>
    simp at e0 e1 e2 e3 e4 e5
    rw [e0, e1, e2, e3, e4, e5]
    rfl
theorem mvs_of {H : Hp} {B D : Nat} {x : Value} (h : datV Tryz.prog H B (D + 4) 50 x) : ∃ xs : List Mv, Sl H 6 xs.length (xs.flatMap mvE) x ∧ xs.length ≤ 140737488351232 ∧ ∀ a ∈ xs, a.ok := by
  obtain ⟨n, cs, hs, hb, _, hd⟩ := arg_slice (e := 56) (c := 6) (by kernel_rfl) (by kernel_rfl) h
  obtain ⟨xs, rfl, rfl, hok⟩ := parts_of mvE Mv.ok 6 (fun a _ => mvE_len a) n cs hs.1 fun i hi => by
    obtain ⟨a, ha, he⟩ := mv_of (hd i hi)
    exact ⟨a, ha, he⟩
  refine ⟨xs, hs, ?_, hok⟩
  have : 1 ≤ Tryz.prog.bytesOf 56 := by
    rw [show Tryz.prog.bytesOf 56 = 6 by kernel_rfl]; decide
  exact Nat.le_trans (Nat.le_mul_of_pos_right _ this) hb
theorem topCopies_law {H : Hp} {B : Nat} {xs : List Value} (hro : Ro H) (hd : datArgs Tryz.prog H B 8 [50] xs) : ACalls Tryz.prog 4 xs H fun v _ => v = .bool true := by
  obtain ⟨x0, rfl, d0⟩ := args1 hd
  obtain ⟨zs, hz, hl, hok⟩ := mvs_of d0
  exact copies_call hz hok (by omega)

end Go.Proofs.YtjmjkdelkaflmaaGreatDoor.Abs
