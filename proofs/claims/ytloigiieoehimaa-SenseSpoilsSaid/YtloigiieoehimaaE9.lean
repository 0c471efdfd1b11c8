/- Sense data, read: what bytes tell. -/
import Derived.Test.YtloigiieoehimaaE8
import Derived.Test.YtloigiieoehimaaP1
set_option linter.unusedVariables false
set_option linter.unusedSimpArgs false
set_option maxRecDepth 100000
namespace Go.Proofs.Ytloigiieoehimaa.Abs
open Go Go.RowKit
/-- A sense whose bytes these are. -/
def Enc (s : Sn) (xs : List Int) : Prop := s.wf ∧ formS s = true ∧ ((xs = fixedB s ∧ s.info ≤ 4294967295) ∨ xs = descB s)
def DecOk (xs : List Int) (o : Option Sn) : Prop := ∀ s, Enc s xs ↔ o = some s
def snV (s : Sn) : Value := .agg #[.int .u8 s.key, .int .u16 s.code, .int .u64 s.info, .bool s.hi, .int .i64 s.fld, .int .i64 s.bit, .bool s.hf, .bool s.ic]
def snO (o : Option Sn) : Sn := o.getD ⟨0, 0, 0, false, 0, 0, false, false⟩
theorem DecOk.uniq {xs : List Int} {o p : Option Sn} (h : DecOk xs o) (k : DecOk xs p) : o = p := by
  cases o with
  | some s => exact ((k s).1 ((h s).2 rfl)).symm
  | none => cases p with
    | none => rfl
    | some s => cases (h s).1 ((k s).2 rfl)
theorem fixedB_len (s : Sn) : (fixedB s).length = 18 := by
  unfold fixedB
  cases s.hf <;> simp [keyB, beB_len]
theorem descB_len (s : Sn) : (descB s).length = 8 + (if s.hi = true then 12 else 0) + (if s.hf = true then 8 else 0) := by
  unfold descB
  cases s.hf <;> cases s.hi <;> simp [keyB, beB_len]
def fldB3 (s : Sn) : List Int := if s.hf = true then keyB s else [0, 0, 0]
def fldD (s : Sn) : List Int := if s.hf = true then [2, 6, 0, 0] ++ keyB s ++ [0] else []
theorem be2 {n : Int} (h : 0 ≤ n ∧ n < 65536) : ∃ a b, beB 2 n = [a, b] ∧ a * 256 + b = n := ⟨n / 256 % 256, n % 256, by simp [beB], by omega⟩
theorem beN_info4 {n : Int} (h : 0 ≤ n ∧ n ≤ 4294967295) : beN (beB 4 n) = n := by
  rw [beN_beB, show (256 : Int) ^ 4 = 4294967296 by decide]; omega
theorem beN_info8 {n : Int} (h : 0 ≤ n ∧ n < 18446744073709551616) : beN (beB 8 n) = n := by
  rw [beN_beB, show (256 : Int) ^ 8 = 18446744073709551616 by decide]; omega
theorem enc_fix {s : Sn} {xs : List Int} (h : Enc s xs) (hl : xs.length = 18) : xs.getD 0 0 = (if s.hi = true then 240 else 112) ∧ xs.getD 2 0 = s.key ∧ xs.getD 12 0 * 256 + xs.getD 13 0 = s.code ∧ beN ((xs.drop 3).take 4) = s.info ∧ beN ((xs.drop 12).take 2) = s.code ∧ xs.drop 15 = fldB3 s ∧ xs = fixedB s ∧ s.info ≤ 4294967295 := by
  obtain ⟨hw, hf, ⟨rfl, hi⟩ | rfl⟩ := h
  · have h3 : ((fixedB s).drop 3).take 4 = beB 4 s.info := by
      unfold fixedB
      rw [List.append_assoc, List.append_assoc, List.append_assoc, List.append_assoc, List.drop_append_of_le_length (by simp)]
      simp [beB_len, List.take_append, List.take_of_length_le]
    obtain ⟨a, b, e2, e3⟩ := be2 hw.2.1
    have e4 : ∃ i3 i2 i1 i0, beB 4 s.info = [i3, i2, i1, i0] := ⟨_, _, _, _, rfl⟩
    obtain ⟨i3, i2, i1, i0, e4⟩ := e4
    have e : fixedB s = [if s.hi = true then 240 else 112, 0, s.key, i3, i2, i1, i0, 10, 0, 0, 0, 0, a, b, 0] ++ fldB3 s := by
      unfold fixedB fldB3
      rw [e2, e4]; rfl
    refine ⟨by rw [e]; rfl, by rw [e]; rfl, by rw [e]; exact e3, by rw [h3, beN_info4 ⟨hw.2.2.1.1, hi⟩], ?_, by rw [e]; rfl, rfl, hi⟩
    have : ((fixedB s).drop 12).take 2 = beB 2 s.code := by rw [e, e2]; rfl
    rw [this, beN_beB, show (256 : Int) ^ 2 = 65536 by decide]; have := hw.2.1; omega
  · rw [descB_len] at hl
    split at hl <;> split at hl <;> omega
theorem enc_desc {s : Sn} {xs : List Int} (h : Enc s xs) (hl : xs.length ≠ 18) : xs.length = 8 + (if s.hi = true then 12 else 0) + (if s.hf = true then 8 else 0) ∧ xs.getD 0 0 = 114 ∧ xs.getD 1 0 = s.key ∧ xs.getD 2 0 * 256 + xs.getD 3 0 = s.code ∧ beN ((xs.drop 2).take 2) = s.code ∧ (s.hi = true → (xs.drop 8).getD 0 0 = 0 ∧ beN (((xs.drop 8).drop 4).take 8) = s.info ∧ beN ((xs.drop 12).take 8) = s.info ∧ xs.drop 20 = fldD s) ∧ (s.hi = false → xs.drop 8 = fldD s) ∧ xs = descB s := by
  obtain ⟨hw, hf, ⟨rfl, hi⟩ | rfl⟩ := h
  · exact absurd (fixedB_len s) hl
  · obtain ⟨a, b, e2, e3⟩ := be2 hw.2.1
    have e4 : ∃ i7 i6 i5 i4 i3 i2 i1 i0, beB 8 s.info = [i7, i6, i5, i4, i3, i2, i1, i0] := ⟨_, _, _, _, _, _, _, _, rfl⟩
    obtain ⟨i7, i6, i5, i4, i3, i2, i1, i0, e4⟩ := e4
    have e : descB s = [114, s.key, a, b, 0, 0, 0, (if s.hi = true then 12 else 0) + (if s.hf = true then 8 else 0)] ++ ((if s.hi = true then [0, 10, 128, 0] ++ beB 8 s.info else []) ++ fldD s) := by
      unfold descB fldD
      rw [e2, List.append_assoc, List.append_assoc, List.append_assoc]; rfl
    have e8 : (descB s).drop 8 = (if s.hi = true then [0, 10, 128, 0] ++ beB 8 s.info else []) ++ fldD s := by rw [e]; rfl
    refine ⟨descB_len s, by rw [e]; rfl, by rw [e]; rfl, by rw [e]; exact e3, ?_, fun h1 => ?_, fun h1 => ?_, rfl⟩
    · have : ((descB s).drop 2).take 2 = beB 2 s.code := by rw [e, e2]; rfl
      rw [this, beN_beB, show (256 : Int) ^ 2 = 65536 by decide]; have := hw.2.1; omega
    · rw [if_pos h1] at e8
      have e12 : (descB s).drop 12 = beB 8 s.info ++ fldD s := by
        rw [show (descB s).drop 12 = ((descB s).drop 8).drop 4 by rw [List.drop_drop], e8]; rfl
      have e20 : (descB s).drop 20 = fldD s := by
        rw [show (descB s).drop 20 = ((descB s).drop 12).drop 8 by rw [List.drop_drop], e12, e4]; rfl
      have et : ((descB s).drop 12).take 8 = beB 8 s.info := by rw [e12, e4]; rfl
      refine ⟨by rw [e8]; rfl, ?_, ?_, e20⟩
      · rw [List.drop_drop, et, beN_info8 hw.2.2.1]
      · rw [et, beN_info8 hw.2.2.1]
    · rw [e8, if_neg (by simp [h1])]; rfl
/-! the three bytes of a field at fault -/
def unk (a : Int) : Bool := !(bits .and .u8 a 128 == 0 || (bits .and .u8 a 48 != 0 || (bits .and .u8 a 8 == 0 && bits .and .u8 a 7 != 0)))
def unkS (g : Sn) (xs : List Int) : Sn := { g with hf := true, ic := bits .and .u8 (xs.getD 0 0) 64 != 0, bit := if (bits .and .u8 (xs.getD 0 0) 8 != 0) = true then IntKind.i64.wrap (bits .and .u8 (xs.getD 0 0) 7) else -1, fld := xs.getD 1 0 * 256 + xs.getD 2 0 }
theorem key_bits {s : Sn} (hk : 0 ≤ s.fld ∧ s.fld ≤ 65535 ∧ -1 ≤ s.bit ∧ s.bit ≤ 7) : ∀ a, (keyB s).getD 0 0 = a → unk a = true ∧ (bits .and .u8 a 64 != 0) = s.ic ∧ (if (bits .and .u8 a 8 != 0) = true then IntKind.i64.wrap (bits .and .u8 a 7) else -1) = s.bit ∧ a ≥ 128 ∧ (if (bits .and .u8 a 8 != 0) = true then IntKind.i64.wrap (a.tmod 8) else -1) = s.bit := by
  have key : ∀ (ic : Bool) (b : Int), (b = -1 ∨ b = 0 ∨ b = 1 ∨ b = 2 ∨ b = 3 ∨ b = 4 ∨ b = 5 ∨ b = 6 ∨ b = 7) → unk (128 + (if ic = true then 64 else 0) + (if 0 ≤ b then 8 + b else 0)) = true ∧ (bits .and .u8 (128 + (if ic = true then 64 else 0) + (if 0 ≤ b then 8 + b else 0)) 64 != 0) = ic ∧ (if (bits .and .u8 (128 + (if ic = true then 64 else 0) + (if 0 ≤ b then 8 + b else 0)) 8 != 0) = true then IntKind.i64.wrap (bits .and .u8 (128 + (if ic = true then 64 else 0) + (if 0 ≤ b then 8 + b else 0)) 7) else -1) = b ∧ (128 + (if ic = true then 64 else 0) + (if 0 ≤ b then 8 + b else 0)) ≥ 128 ∧ (if (bits .and .u8 (128 + (if ic = true then 64 else 0) + (if 0 ≤ b then 8 + b else 0)) 8 != 0) = true then IntKind.i64.wrap ((128 + (if ic = true then 64 else 0) + (if 0 ≤ b then 8 + b else 0) : Int).tmod 8) else -1) = b := by
    intro ic b hb
    rcases hb with h | h | h | h | h | h | h | h | h <;> subst h <;> cases ic <;> decide
  intro a ha
  subst ha
  exact key s.ic s.bit (by omega)
theorem unkS_key {s g : Sn} {xs : List Int} (hk : 0 ≤ s.fld ∧ s.fld ≤ 65535 ∧ -1 ≤ s.bit ∧ s.bit ≤ 7) (h : xs.take 3 = keyB s) : unk (xs.getD 0 0) = true ∧ unkS g xs = { g with hf := true, ic := s.ic, bit := s.bit, fld := s.fld } := by
  have g0 : xs.getD 0 0 = (keyB s).getD 0 0 := by rw [← h]; simp [List.getD, List.getElem?_take]
  have g1 : xs.getD 1 0 = s.fld / 256 := by
    rw [show s.fld / 256 = (keyB s).getD 1 0 from rfl, ← h]; simp [List.getD, List.getElem?_take]
  have g2 : xs.getD 2 0 = s.fld % 256 := by
    rw [show s.fld % 256 = (keyB s).getD 2 0 from rfl, ← h]; simp [List.getD, List.getElem?_take]
  obtain ⟨q1, q2, q3, _⟩ := key_bits hk _ g0.symm
  refine ⟨q1, ?_⟩
  unfold unkS
  rw [q2, q3, g1, g2]
  congr 1
  omega
theorem unkS_wf {g : Sn} {xs : List Int} (hg : g.wf) (hb : ByteL xs) : (unkS g xs).wf := by
  obtain ⟨h1, h2, h3, h4, h5⟩ := hg
  have b1 := hb.getD 1
  have b2 := hb.getD 2
  refine ⟨h1, h2, h3, ⟨?_, ?_⟩, ?_⟩
  · show -9223372036854775808 ≤ xs.getD 1 0 * 256 + xs.getD 2 0; omega
  · show xs.getD 1 0 * 256 + xs.getD 2 0 < 9223372036854775808; omega
  · show -9223372036854775808 ≤ (if _ then _ else _) ∧ (if _ then _ else (-1 : Int)) < 9223372036854775808
    split
    · rw [IntKind.wrap_i64]; omega
    · omega
theorem form_nofield {s : Sn} (h : formS s = true) (hf : s.hf = false) : s.fld = 0 ∧ s.bit = 0 ∧ s.ic = false := by
  unfold formS at h
  split at h
  · cases h
  · first | exact of_decide_eq_true h | (rw [if_pos hf] at h; exact of_decide_eq_true h)
theorem form_le {s : Sn} (h : formS s = true) : s.key ≤ 15 := by
  unfold formS at h
  split at h
  · cases h
  · rename_i hc
    by_cases h0 : s.key ≤ 15
    · exact h0
    · exact absurd (.inl (by omega)) hc
theorem keyB_bytes {s : Sn} (hk : 0 ≤ s.fld ∧ s.fld ≤ 65535 ∧ -1 ≤ s.bit ∧ s.bit ≤ 7) : ByteL (keyB s) := by
  unfold keyB
  simp only [byteL_cons, byteL_nil, and_true]
  refine ⟨?_, by omega, by omega⟩
  split <;> split <;> omega
theorem fixedB_bytes {s : Sn} (hw : s.wf) (hf : formS s = true) : ByteL (fixedB s) := by
  have hk := form_le hf
  have h0 := hw.1
  unfold fixedB
  refine ((((((?_ : ByteL _).app (beB_bytes _ _)).app ?_).app (beB_bytes _ _)).app ?_).app ?_)
  · simp only [byteL_cons, byteL_nil, and_true]; refine ⟨?_, by omega, by omega⟩; split <;> omega
  · simp only [byteL_cons, byteL_nil, and_true]; omega
  · simp only [byteL_cons, byteL_nil, and_true]; omega
  · split
    · rename_i h; exact keyB_bytes (form_key hf h)
    · simp only [byteL_cons, byteL_nil, and_true]; omega
theorem descB_bytes {s : Sn} (hw : s.wf) (hf : formS s = true) : ByteL (descB s) := by
  have hk := form_le hf
  have h0 := hw.1
  unfold descB
  refine (((((?_ : ByteL _).app (beB_bytes _ _)).app ?_).app ?_).app ?_)
  · simp only [byteL_cons, byteL_nil, and_true]; omega
  · simp only [byteL_cons, byteL_nil, and_true]; refine ⟨by omega, by omega, by omega, ?_⟩; split <;> split <;> omega
  · split
    · exact ByteL.app (by simp only [byteL_cons, byteL_nil, and_true]; omega) (beB_bytes _ _)
    · exact ByteL.nil
  · split
    · rename_i h
      exact ((by simp only [byteL_cons, byteL_nil, and_true]; omega : ByteL [2, 6, 0, 0]).app (keyB_bytes (form_key hf h))).app (by simp only [byteL_cons, byteL_nil, and_true]; omega)
    · exact ByteL.nil
theorem fixR_bytes {s : Sn} (hw : s.wf) : ByteL (fixR s) := by
  unfold fixR
  split
  · rename_i h
    refine fixedB_bytes hw ?_
    unfold fixE at h
    cases hf : formS s
    · rw [if_pos hf] at h; exact absurd h (by decide)
    · rfl
  · exact ByteL.nil
theorem descR_bytes {s : Sn} (hw : s.wf) : ByteL (descR s) := by
  unfold descR
  split
  · rename_i h
    refine descB_bytes hw ?_
    unfold descE at h
    cases hf : formS s
    · rw [if_pos hf] at h; exact absurd h (by decide)
    · rfl
  · exact ByteL.nil
theorem fix_enc {s : Sn} {xs : List Int} (hw : s.wf) (he : fixE s = 0) (hr : fixR s = xs) : Enc s xs := by
  unfold fixR at hr
  rw [if_pos he] at hr
  unfold fixE at he
  cases hf : formS s
  · rw [if_pos hf] at he; exact absurd he (by decide)
  · rw [if_neg (by simp [hf])] at he
    by_cases h : s.info > 4294967295
    · rw [if_pos h] at he; exact absurd he (by decide)
    · exact ⟨hw, hf, .inl ⟨hr.symm, by omega⟩⟩
theorem desc_enc {s : Sn} {xs : List Int} (hw : s.wf) (he : descE s = 0) (hr : descR s = xs) : Enc s xs := by
  unfold descR at hr
  rw [if_pos he] at hr
  unfold descE at he
  cases hf : formS s
  · rw [if_pos hf] at he; exact absurd he (by decide)
  · exact ⟨hw, hf, .inr hr.symm⟩
theorem enc_fixR {s : Sn} {xs : List Int} (h : Enc s xs) (hl : xs.length = 18) : fixE s = 0 ∧ fixR s = xs := by
  obtain ⟨_, _, _, _, _, _, e, hi⟩ := enc_fix h hl
  have he : fixE s = 0 := by unfold fixE; rw [if_neg (by simp [h.2.1]), if_neg (by omega)]
  exact ⟨he, by unfold fixR; rw [if_pos he]; exact e.symm⟩
theorem enc_descR {s : Sn} {xs : List Int} (h : Enc s xs) (hl : xs.length ≠ 18) : descE s = 0 ∧ descR s = xs := by
  obtain ⟨_, _, _, _, _, _, _, e⟩ := enc_desc h hl
  have he : descE s = 0 := by unfold descE; rw [if_neg (by simp [h.2.1])]
  exact ⟨he, by unfold descR; rw [if_pos he]; exact e.symm⟩
theorem DecOk.no {xs : List Int} (h : ∀ s, ¬ Enc s xs) : DecOk xs none := fun s => ⟨fun k => absurd k (h s), fun k => by cases k⟩
theorem DecOk.yes {xs : List Int} {g : Sn} (h : Enc g xs) (k : ∀ s, Enc s xs → s = g) : DecOk xs (some g) := fun s => ⟨fun e => by rw [k s e], fun e => by injection e with e; exact e ▸ h⟩
end Go.Proofs.Ytloigiieoehimaa.Abs
