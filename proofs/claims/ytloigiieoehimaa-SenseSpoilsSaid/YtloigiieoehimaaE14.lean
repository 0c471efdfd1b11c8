/- Sense data, read: what the laws say of them. -/
import Derived.Test.YtloigiieoehimaaE13
set_option linter.unusedVariables false
set_option linter.unusedSimpArgs false
set_option maxRecDepth 100000
namespace Go.Proofs.Ytloigiieoehimaa.Abs
open Go Go.RowKit
deriving instance DecidableEq for Sn
theorem sn_iff (s t : Sn) : s = t ↔ s.key = t.key ∧ s.code = t.code ∧ s.info = t.info ∧ s.hi = t.hi ∧ s.fld = t.fld ∧ s.bit = t.bit ∧ s.hf = t.hf ∧ s.ic = t.ic := by
  cases s; cases t; simp
theorem sn_eqL (s t : Sn) : eqL [5, 5, 5, 1, 5, 5, 1, 1] [.int .u8 s.key, .int .u16 s.code, .int .u64 s.info, .bool s.hi, .int .i64 s.fld, .int .i64 s.bit, .bool s.hf, .bool s.ic] [.int .u8 t.key, .int .u16 t.code, .int .u64 t.info, .bool t.hi, .int .i64 t.fld, .int .i64 t.bit, .bool t.hf, .bool t.ic] = some (decide (s = t)) := by
  have h : eqL [5, 5, 5, 1, 5, 5, 1, 1] [.int .u8 s.key, .int .u16 s.code, .int .u64 s.info, .bool s.hi, .int .i64 s.fld, .int .i64 s.bit, .bool s.hf, .bool s.ic] [.int .u8 t.key, .int .u16 t.code, .int .u64 t.info, .bool t.hi, .int .i64 t.fld, .int .i64 t.bit, .bool t.hf, .bool t.ic] = some ((s.key == t.key) && ((s.code == t.code) && ((s.info == t.info) && ((s.hi == t.hi) && ((s.fld == t.fld) && ((s.bit == t.bit) && ((s.hf == t.hf) && ((s.ic == t.ic) && true)))))))) := rfl
  rw [h]
  congr 1
  rw [Bool.eq_iff_iff, decide_eq_true_iff, sn_iff]
  simp [Bool.and_eq_true]
theorem fixR_len (s : Sn) : (fixR s).length ≤ 18 := by
  unfold fixR; split
  · rw [fixedB_len]; omega
  · simp
theorem descR_len (s : Sn) : (descR s).length ≤ 28 := by
  unfold descR; split
  · rw [descB_len]; split <;> split <;> omega
  · simp
theorem enc_len {s : Sn} {xs : List Int} (h : Enc s xs) : xs.length = 8 ∨ xs.length = 16 ∨ xs.length = 18 ∨ xs.length = 20 ∨ xs.length = 28 := by
  by_cases hl : xs.length = 18
  · omega
  · obtain ⟨e, _⟩ := enc_desc h hl
    split at e <;> split at e <;> omega
theorem enc_first {s : Sn} {xs : List Int} (h : Enc s xs) : (xs.length = 18 → xs.getD 0 0 = 112 ∨ xs.getD 0 0 = 240) ∧ (xs.length ≠ 18 → xs.getD 0 0 = 114 ∧ xs.getD 7 0 = (xs.length : Int) - 8) := by
  refine ⟨fun hl => ?_, fun hl => ?_⟩
  · obtain ⟨e, _⟩ := enc_fix h hl
    rw [e]; split <;> omega
  · have h2 := enc_desc h hl
    refine ⟨h2.2.1, ?_⟩
    rw [h2.1, h2.2.2.2.2.2.2.2]
    obtain ⟨a, b, e2, _⟩ := be2 h.1.2.1
    unfold descB
    rw [e2]
    cases s.hi <;> cases s.hf <;> rfl
/-- Bytes tell one sense alone. -/
theorem enc_same {s t : Sn} {xs : List Int} {o : Option Sn} (ho : DecOk xs o) (h : Enc s xs) : o = some s := (ho s).1 h
/-- Cut bytes are no sense's. -/
theorem enc_cut {s t : Sn} {xs : List Int} {i : Nat} (h : Enc s xs) (hi : i < xs.length) (k : Enc t (xs.take i)) : False := by
  have hl : (xs.take i).length = i := by rw [List.length_take]; omega
  have k1 := enc_len k
  obtain ⟨h1, h2⟩ := enc_first h
  obtain ⟨k2, k3⟩ := enc_first k
  rw [hl] at k1 k2 k3
  have g0 : (xs.take i).getD 0 0 = xs.getD 0 0 := by simp [List.getD, List.getElem?_take, show 0 < i by omega]
  have g7 : (xs.take i).getD 7 0 = xs.getD 7 0 := by simp [List.getD, List.getElem?_take, show 7 < i by omega]
  rw [g0] at k2 k3
  rw [g7] at k3
  by_cases a : xs.length = 18
  · have := h1 a
    have := (k3 (by omega)).1
    omega
  · obtain ⟨q1, q2⟩ := h2 a
    by_cases b : i = 18
    · have := k2 b; omega
    · have := (k3 b).2; omega
/-- Turned bytes tell something else. -/
theorem enc_turned {s : Sn} {xs ys : List Int} (h : Enc s xs) (hl : ys.length = xs.length) (hne : ys ≠ xs) : ¬ Enc s ys := by
  intro k
  by_cases a : xs.length = 18
  · exact hne ((enc_fix k (by omega)).2.2.2.2.2.2.1.trans (enc_fix h a).2.2.2.2.2.2.1.symm)
  · exact hne ((enc_desc k (by omega)).2.2.2.2.2.2.2.trans (enc_desc h a).2.2.2.2.2.2.2.symm)
theorem enc_more {s t : Sn} {xs ys : List Int} (h : Enc s xs) (hl : ys.length = xs.length + 1) : ¬ Enc t ys := by
  intro k
  have := enc_len h
  have := enc_len k
  omega
theorem okS {s : Sn} (hw : s.wf) (hf : formS s = true) : descE s = 0 ∧ descR s = descB s ∧ Enc s (descB s) := by
  have he : descE s = 0 := by unfold descE; rw [if_neg (by simp [hf])]
  exact ⟨he, by unfold descR; rw [if_pos he], hw, hf, .inr rfl⟩
theorem okF {s : Sn} (hw : s.wf) (he : fixE s = 0) : fixR s = fixedB s ∧ Enc s (fixedB s) := by
  have e : fixR s = fixedB s := by unfold fixR; rw [if_pos he]
  exact ⟨e, fix_enc hw he e⟩
theorem set_ne {xs : List Int} {i : Nat} {v : Int} (hi : i < xs.length) (hv : v ≠ xs.getD i 0) : xs.set i v ≠ xs := by
  intro h
  have h2 : (xs.set i v).getD i 0 = xs.getD i 0 := by rw [h]
  simp only [List.getD, List.getElem?_set, if_pos hi] at h2
  exact hv (by simpa using h2)
end Go.Proofs.Ytloigiieoehimaa.Abs
