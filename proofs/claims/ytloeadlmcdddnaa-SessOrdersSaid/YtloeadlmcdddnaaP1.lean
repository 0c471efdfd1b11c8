/- Functions that write what a pointer of the caller's shows to. -/
import Derived.Test.YtloeadlmcdddnaaN2
set_option linter.unusedVariables false
set_option linter.unusedSimpArgs false
namespace Go.Proofs.Ytloeadlmcdddnaa.Abs
open Go Go.RowKit
/-- A slice's bytes are none of the block b. -/
def Apart (b : Nat) (u : Value) : Prop := ∀ c o n m, u = .slice (some ⟨c, o, none⟩) n m → 0 < n → c ≠ b
theorem get_lt {H : Hp} {b o n : Nat} {cs : List Value} (hw : Wf H) (h : H.get b o n = some cs) : b < H.nx := by
  unfold Hp.get at h
  rcases hk : H.m b with _ | k
  · rw [hk] at h; cases h
  · exact hw b _ hk
theorem Stt.slcX {H0 H : Hp} {L : List Ent} {b sz n : Nat} {cs : List Value} {u : Value} (st : Stt [b] H0 H L) (h : Sl H0 sz n cs u) (ha : Apart b u) : Sl H sz n cs u := by
  obtain ⟨hl, h | ⟨hn, c, o, m, e, hg⟩⟩ := h
  · exact ⟨hl, .inl h⟩
  · refine ⟨hl, .inr ⟨hn, c, o, m, e, ?_⟩⟩
    have hlt := get_lt st.wf0 hg
    have hne := ha c o n m e hn
    have he := st.frm c hlt (by simpa using hne)
    unfold Hp.get at hg ⊢
    rw [he]; exact hg
theorem Stt.apart {H0 H : Hp} {L : List Ent} {b j sz n : Nat} {k : Blk} {cs : List Value} {u : Value} (st : Stt [] H0 H L) (hi : L[j]? = some ⟨some b, true, k⟩) (h : Sl H0 sz n cs u) : Apart b u := by
  intro c o n' m e hn
  obtain ⟨hl, ⟨h0, e1 | ⟨c', o', m', e1⟩⟩ | ⟨hn', c', o', m', e1, hg⟩⟩ := h
  · rw [e] at e1; cases e1
  · rw [e] at e1; injection e1 with e1 e2; omega
  · rw [e] at e1
    injection e1 with e1 e2 e3
    injection e1 with e1
    injection e1 with e1
    subst e1
    have h1 := get_lt st.wf0 hg
    rcases (st.own _ (List.mem_of_getElem? hi) rfl).2 b rfl with h2 | h2
    · omega
    · cases h2
theorem AW_into {P : Program} {a b : AC} {Q : Exit → Tm → Hp → Prop} {t : Tm} {H : Hp} (h : AW P a (xThen (AW P b Q) Q) t H) : AW P (.seq a b) Q t H := h
theorem i64_or_nat (a b : Nat) (ha : a < 9223372036854775808) (hb : b < 9223372036854775808) : bits .or .i64 (a : Int) (b : Int) = ((a ||| b : Nat) : Int) := by
  have hx : a ||| b < 2 ^ 63 := Nat.or_lt_two_pow (by omega) (by omega)
  show IntKind.i64.wrap ((BitVec.ofInt 64 (a : Int) ||| BitVec.ofInt 64 (b : Int)).toNat : Int) = _
  rw [BitVec.toNat_or, ofInt_u64 a (by omega), ofInt_u64 b (by omega), wi _ (by omega)]
/-- Two bytes as a number. -/
theorem or_16 {a b : Int} (ha : 0 ≤ a ∧ a ≤ 255) (hb : 0 ≤ b ∧ b ≤ 255) : bits .or .u16 (IntKind.u16.wrap (IntKind.u16.wrap a * 2 ^ min (8 : Int).toNat IntKind.u16.bits)) (IntKind.u16.wrap b) = a * 256 + b := by
  rw [show (2 : Int) ^ min (8 : Int).toNat IntKind.u16.bits = 256 by decide, w16, w16, w16]
  rw [or_add 8 (.inr (.inl rfl)) (by omega) (by omega) (by rw [show (2 : Int) ^ 8 = 256 by decide]; omega) (by rw [show (2 : Int) ^ 8 = 256 by decide]; omega) (by rw [show (2 : Int) ^ IntKind.u16.bits = 65536 by decide]; omega)]
  omega
theorem or_i64 {a b : Int} (ha : 0 ≤ a ∧ a ≤ 255) (hb : 0 ≤ b ∧ b ≤ 255) : bits .or .i64 (IntKind.i64.wrap (IntKind.i64.wrap a * 2 ^ min (8 : Int).toNat IntKind.i64.bits)) (IntKind.i64.wrap b) = a * 256 + b := by
  obtain ⟨A, rfl⟩ := Int.eq_ofNat_of_zero_le ha.1
  obtain ⟨B, rfl⟩ := Int.eq_ofNat_of_zero_le hb.1
  rw [show (2 : Int) ^ min (8 : Int).toNat IntKind.i64.bits = 256 by decide, wi (A : Int) (by omega), wi (B : Int) (by omega), wi _ (by omega)]
  rw [show (A : Int) * 256 = ((A * 256 : Nat) : Int) by omega, i64_or_nat _ _ (by omega) (by omega), nat_join 8 (A * 256) B (by omega) (by omega)]
  omega
end Go.Proofs.Ytloeadlmcdddnaa.Abs
