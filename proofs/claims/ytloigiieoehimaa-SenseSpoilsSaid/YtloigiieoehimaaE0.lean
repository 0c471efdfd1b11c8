/- Sense data: what is told, in plain words. -/
import Derived.Test.YtloigiieoehimaaS4
set_option linter.unusedVariables false
set_option linter.unusedSimpArgs false
namespace Go.Proofs.Ytloigiieoehimaa.Abs
open Go Go.RowKit
structure Sn where
  key : Int
  code : Int
  info : Int
  hi : Bool
  fld : Int
  bit : Int
  hf : Bool
  ic : Bool
def Sn.wf (s : Sn) : Prop := (0 ≤ s.key ∧ s.key < 256) ∧ (0 ≤ s.code ∧ s.code < 65536) ∧ (0 ≤ s.info ∧ s.info < 18446744073709551616) ∧ (-9223372036854775808 ≤ s.fld ∧ s.fld < 9223372036854775808) ∧ (-9223372036854775808 ≤ s.bit ∧ s.bit < 9223372036854775808)
def formS (s : Sn) : Bool := if s.key > 15 ∨ (s.hi = false ∧ s.info ≠ 0) then false else if s.hf = false then decide (s.fld = 0 ∧ s.bit = 0 ∧ s.ic = false) else decide (0 ≤ s.fld ∧ s.fld ≤ 65535 ∧ -1 ≤ s.bit ∧ s.bit ≤ 7)
/-- The three bytes of a field at fault. -/
def keyB (s : Sn) : List Int := [128 + (if s.ic = true then 64 else 0) + (if 0 ≤ s.bit then 8 + s.bit else 0), s.fld / 256, s.fld % 256]
def fixedB (s : Sn) : List Int := [if s.hi = true then 240 else 112, 0, s.key] ++ beB 4 s.info ++ [10, 0, 0, 0, 0] ++ beB 2 s.code ++ [0] ++ (if s.hf = true then keyB s else [0, 0, 0])
def descB (s : Sn) : List Int := [114, s.key] ++ beB 2 s.code ++ [0, 0, 0, (if s.hi = true then 12 else 0) + (if s.hf = true then 8 else 0)] ++ (if s.hi = true then [0, 10, 128, 0] ++ beB 8 s.info else []) ++ (if s.hf = true then [2, 6, 0, 0] ++ keyB s ++ [0] else [])
def fixE (s : Sn) : Int := if formS s = false then 3 else if s.info > 4294967295 then 4 else 0
def fixR (s : Sn) : List Int := if fixE s = 0 then fixedB s else []
def descE (s : Sn) : Int := if formS s = false then 3 else 0
def descR (s : Sn) : List Int := if descE s = 0 then descB s else []
theorem form_key {s : Sn} (h : formS s = true) (hf : s.hf = true) : 0 ≤ s.fld ∧ s.fld ≤ 65535 ∧ -1 ≤ s.bit ∧ s.bit ≤ 7 := by
  unfold formS at h
  split at h
  · cases h
  · rw [if_neg (by simp [hf])] at h
    exact of_decide_eq_true h
theorem form_noinfo {s : Sn} (h : formS s = true) (hi : s.hi = false) : s.info = 0 := by
  unfold formS at h
  split at h
  · cases h
  · rename_i hc
    by_cases h0 : s.info = 0
    · exact h0
    · exact absurd (.inr ⟨hi, h0⟩) hc
theorem key_or {b : Int} (h : 0 ≤ b ∧ b ≤ 7) : bits .or .u8 128 (bits .or .u8 8 (IntKind.u8.wrap (bits .and .i64 b 7))) = 136 + b ∧ bits .or .u8 192 (bits .or .u8 8 (IntKind.u8.wrap (bits .and .i64 b 7))) = 200 + b := by
  have : b = 0 ∨ b = 1 ∨ b = 2 ∨ b = 3 ∨ b = 4 ∨ b = 5 ∨ b = 6 ∨ b = 7 := by omega
  rcases this with h | h | h | h | h | h | h | h <;> subst h <;> decide
theorem fldB {f : Int} (h : 0 ≤ f ∧ f ≤ 65535) : IntKind.u8.wrap (f.fdiv (2 ^ min (8 : Int).toNat IntKind.i64.bits)) = f / 256 := by
  rw [shr_eq, w8, show (2 : Int) ^ min (8 : Int).toNat IntKind.i64.bits = 256 by decide]
  omega
end Go.Proofs.Ytloigiieoehimaa.Abs
