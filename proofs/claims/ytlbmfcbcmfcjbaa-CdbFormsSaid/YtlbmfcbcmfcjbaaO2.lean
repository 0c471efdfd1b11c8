/- Commands: the first bit that is not allowed. -/
import Derived.Test.YtlbmfcbcmfcjbaaO1
import Derived.Test.YtlbmfcbcmfcjbaaDX
set_option linter.unusedVariables false
set_option linter.unusedSimpArgs false
set_option maxRecDepth 100000
namespace Go.Proofs.Ytlbmfcbcmfcjbaa.Abs
open Go Go.RowKit
theorem testB {w : Int} (h : 0 ≤ w ∧ w ≤ 255) {k : Nat} (hk : k < 8) : (bits .and .u8 (w.fdiv (2 ^ min ((k : Int)).toNat IntKind.u8.bits)) 1 == 1) = w.toNat.testBit k := by
  obtain ⟨W, rfl⟩ := Int.eq_ofNat_of_zero_le h.1
  have hm : min ((k : Int)).toNat IntKind.u8.bits = k := by simp [IntKind.bits]; omega
  have hd : W / 2 ^ k < 256 := Nat.lt_of_le_of_lt (Nat.div_le_self _ _) (by omega)
  rw [hm, Int.fdiv_eq_ediv_of_nonneg _ (Int.le_of_lt (Int.pow_pos (by decide))), show ((W : Int) / 2 ^ k) = ((W / 2 ^ k : Nat) : Int) by simp, show (1 : Int) = ((1 : Nat) : Int) from rfl, u8_and_nat _ _ hd (by decide), Nat.and_one_is_mod, Bool.eq_iff_iff, beq_iff_eq]
  show _ ↔ (W.testBit k = true)
  rw [Nat.testBit_eq_decide_div_mod_eq, decide_eq_true_iff]
  omega
theorem andNotT {a m : Int} (ha : 0 ≤ a ∧ a ≤ 255) (hm : 0 ≤ m ∧ m ≤ 255) : (0 ≤ bits .andNot .u8 a m ∧ bits .andNot .u8 a m ≤ 255) ∧ ∀ l, l < 8 → (bits .andNot .u8 a m).toNat.testBit l = (a.toNat.testBit l && !m.toNat.testBit l) := by
  rw [u8_andNot _ _ ha.1 (by omega) hm.1 (by omega)]
  have h1 : a.toNat &&& (255 - m.toNat) < 2 ^ 8 := Nat.and_lt_two_pow _ (by omega)
  refine ⟨by omega, fun l hl => ?_⟩
  have hm' : m.toNat < 2 ^ 8 := by omega
  rw [show ((a.toNat &&& (255 - m.toNat) : Nat) : Int).toNat = a.toNat &&& (255 - m.toNat) from rfl, Nat.testBit_and, show 255 - m.toNat = 2 ^ 8 - (m.toNat + 1) by omega, Nat.testBit_two_pow_sub_succ hm']
  simp [hl]
theorem getD_out {xs : List Int} {i : Nat} (h : ¬ i < xs.length) : xs.getD i 0 = 0 := by simp [List.getD, List.getElem?_eq_none (Nat.le_of_not_lt h)]
theorem odd_in {xs ms : List Int} (hb : ByteL xs) (hbm : ByteL ms) (i : Nat) : (0 ≤ bits .andNot .u8 (xs.getD i 0) (ms.getD i 0) ∧ bits .andNot .u8 (xs.getD i 0) (ms.getD i 0) ≤ 255) ∧ ∀ l, l < 8 → (bits .andNot .u8 (xs.getD i 0) (ms.getD i 0)).toNat.testBit l = oddB xs ms i l := andNotT (hb.getD i) (hbm.getD i)
theorem odd_out {xs ms : List Int} (hb : ByteL xs) {i : Nat} (h : ¬ i < ms.length) : (0 ≤ xs.getD i 0 ∧ xs.getD i 0 ≤ 255) ∧ ∀ l, l < 8 → (xs.getD i 0).toNat.testBit l = oddB xs ms i l := ⟨hb.getD i, fun l _ => by unfold oddB; rw [getD_out h]; simp⟩
theorem odd_call {H : Hp} {xs ms : List Int} {x y : Value} (hx : Sl H 1 xs.length (xs.map (Value.int .u8)) x) (hm : Sl H 1 ms.length (ms.map (Value.int .u8)) y) (hb : ByteL xs) (hbm : ByteL ms) (hl : xs.length ≤ 140737488351232) (hlm : ms.length ≤ 140737488351232) :
    ACalls Try.prog 17 [x, y] H (fun v H' => ∃ f b : Int, v = .tuple #[.int .i64 f, .int .i64 b] ∧ Stt [] H H' [] ∧ OddAt xs ms f b) := by
  refine acallsW Try.func17 f17_ok (Nat.le_of_ble_eq_true rfl) fun hw => ?_
  have st : Stt [] H H [] := Stt.start hw
  unfold f17c
  show AWl _ _ _ _ _
  refine aN rfl rfl (by constructor) ?_
  refine aN rfl rfl (by constructor) ?_
  refine sE ?_
  show AWl _ _ _ _ _
  refine aMovV x rfl ?_
  refine aLen (st.slc hx) rfl ?_
  refine aN rfl rfl (by constructor) ?_
  refine sE ?_
  show AW _ (.loop _) _ _ _
  refine AW_loopN (fun m t1 H1 => ∃ (i : Nat), m = xs.length - i ∧ (i ≤ xs.length) ∧ (∀ j, j < i → ∀ k, k < 8 → oddB xs ms j k = false) ∧ t1 11 = .int .i64 (i : Int) ∧ Stt [] H H1 []) (xs.length - 0) ⟨0, rfl, by omega, fun j hj => by omega, rfl, (st.sel [] (by decide))⟩ [4, 5, 6, 7, 8, 11, 12, 13, 14, 15, 16, 17, 18, 19, 20, 21, 22, 23, 24, 25, 26, 27, 28, 29, 30, 31, 32, 33, 34, 35, 36, 37] (by decide) ?_
  rintro m t1 H1 hk hI
  obtain ⟨i, rfl, hi, hno, ht11, st⟩ := hI
  obtain ⟨u, rfl⟩ : ∃ u, t1 = (upd (mix [4, 5, 6, 7, 8, 11, 12, 13, 14, 15, 16, 17, 18, 19, 20, 21, 22, 23, 24, 25, 26, 27, 28, 29, 30, 31, 32, 33, 34, 35, 36, 37] _ u) (some 11) _) := ⟨t1, by rw [← hk, upd_self ht11]⟩
  clear hk ht11
  show AWl _ _ _ _ _
  refine aN rfl rfl (by constructor) ?_
  refine sE ?_
  show AW _ (.cond _ _ _) _ _ _
  refine cC' rfl (fun h1 => ?_) (fun h1 => ?_)
  · have hlt : i < xs.length := by have := of_decide_eq_true h1; omega
    show AWl _ _ _ _ _
    refine aN rfl rfl (by constructor) ?_
    refine aIxB (st.slc hx) rfl rfl (by first | decide | omega) fun b14 o14 g14 => ?_
    refine aLdG rfl g14 ?_
    refine aN rfl rfl (by constructor) ?_
    refine aN rfl rfl (by constructor) ?_
    refine sE ?_
    show AWl _ _ _ _ _
    refine aN rfl rfl (by constructor) ?_
    refine aMovV y rfl ?_
    refine aLen (st.slc hm) rfl ?_
    refine aN rfl rfl (by constructor) ?_
    refine sE ?_
    show AW _ (.cond _ _ _) _ _ _
    refine cC' rfl (fun h2 => ?_) (fun h2 => ?_)
    · have hin : (i < ms.length) := by have := of_decide_eq_true h2; omega
      obtain ⟨hW, hT⟩ := odd_in hb hbm i
      show AWl _ _ _ _ _
      refine aN rfl rfl (by constructor) ?_
      refine aMovV y rfl ?_
      refine aN rfl rfl (by constructor) ?_
      refine aIxB (st.slc hm) rfl rfl (by first | decide | omega) fun b23 o23 g23 => ?_
      refine aLdG rfl g23 ?_
      refine aN rfl rfl (by constructor) ?_
      refine aN rfl rfl (by constructor) ?_
      refine sE ?_
      show AWl _ _ _ _ _
      refine aN rfl rfl (by constructor) ?_
      refine sE ?_
      show AW _ (.loop _) _ _ _
      refine AW_loopN (fun m t1 H1 => ∃ (k : Nat), m = 2 * k ∧ (k ≤ 8) ∧ (∀ l, k ≤ l → l < 8 → oddB xs ms i l = false) ∧ t1 8 = .int .i64 ((k : Int) - 1) ∧ Stt [] H H1 []) (2 * 8) ⟨8, rfl, by omega, fun l h1 h2 => by omega, rfl, (st.sel [] (by decide))⟩ [4, 5, 8, 26, 27, 28, 29, 30, 31, 32, 33, 34, 35, 36] (by decide) ?_
      rintro m t1 H1 hk hI
      obtain ⟨k, rfl, hk8, hk2, ht8, st⟩ := hI
      obtain ⟨u, rfl⟩ : ∃ u, t1 = (upd (mix [4, 5, 8, 26, 27, 28, 29, 30, 31, 32, 33, 34, 35, 36] _ u) (some 8) _) := ⟨t1, by rw [← hk, upd_self ht8]⟩
      clear hk ht8
      show AWl _ _ _ _ _
      refine aN rfl rfl (by constructor) ?_
      refine aN rfl rfl (by constructor) ?_
      refine sE ?_
      show AW _ (.cond _ _ _) _ _ _
      refine cC' rfl (fun h3 => ?_) (fun h3 => ?_)
      · obtain ⟨m, rfl⟩ : ∃ m, k = m + 1 := ⟨k - 1, by have := of_decide_eq_true h3; omega⟩
        have e1 : ((m + 1 : Nat) : Int) - 1 = (m : Int) := by omega
        show AWl _ _ _ _ _
        refine aN rfl rfl (by constructor) ?_
        refine aN rfl rfl (by constructor) ?_
        refine aN rfl (e_shr rfl rfl (by omega)) (by constructor) ?_
        refine aN rfl rfl (by constructor) ?_
        refine aN rfl rfl (by constructor) ?_
        refine sE ?_
        show AW _ (.cond _ _ _) _ _ _
        refine cC' rfl (fun h4 => ?_) (fun h4 => ?_)
        · have hbit := h4
          rw [e1] at hbit
          replace hbit := (testB hW (k := m) (by omega)).symm.trans hbit
          replace hbit := (hT m (by omega)).symm.trans hbit
          show AWl _ _ _ _ _
          refine aN rfl rfl (by constructor) ?_
          refine aN rfl rfl (by constructor) ?_
          refine aN rfl rfl (by constructor) ?_
          refine aN rfl rfl (by constructor) ?_
          refine sE ?_
          refine ⟨_, out2 (r_tmp rfl (by constructor)) (r_tmp rfl (by constructor)) ⟨rfl, rfl⟩, ?_⟩
          exact ⟨_, _, rfl, st.drop, .inr ⟨i, m, rfl, e1, hlt, by omega, hbit, hno, fun l h1 h2 => hk2 l h1 h2⟩⟩
        · have hbit := h4
          rw [e1] at hbit
          replace hbit := (testB hW (k := m) (by omega)).symm.trans hbit
          replace hbit := (hT m (by omega)).symm.trans hbit
          show AWl _ _ _ _ _
          refine aN rfl rfl (by constructor) ?_
          refine aN rfl rfl (by constructor) ?_
          refine aN rfl rfl (by constructor) ?_
          refine sE ?_
          exact ⟨_, by omega, m, rfl, by omega, fun l h1 h2 => by { rcases Nat.eq_or_lt_of_le h1 with h | h; subst h; exact hbit; exact hk2 l h h2 }, congrArg (Value.int .i64) (by rw [wi _ (by omega)]; omega), (st.sel [] (by decide))⟩
      · obtain rfl : k = 0 := by have := of_decide_eq_false h3; omega
        show AWl _ _ _ _ _
        refine aN rfl rfl (by constructor) ?_
        refine aN rfl rfl (by constructor) ?_
        refine sE ?_
        exact ⟨_, by omega, i + 1, rfl, by omega, fun j hj l hl8 => by { rcases Nat.lt_succ_iff_lt_or_eq.1 hj with h | h; exact hno j h l hl8; subst h; exact hk2 l (Nat.zero_le _) hl8 }, congrArg (Value.int .i64) (wi _ (by omega)), (st.sel [] (by decide))⟩
    · have hin : ¬ (i < ms.length) := by have := of_decide_eq_false h2; omega
      obtain ⟨hW, hT⟩ := odd_out (ms := ms) hb hin
      show AWl _ _ _ _ _
      refine aN rfl rfl (by constructor) ?_
      refine sE ?_
      show AW _ (.loop _) _ _ _
      refine AW_loopN (fun m t1 H1 => ∃ (k : Nat), m = 2 * k ∧ (k ≤ 8) ∧ (∀ l, k ≤ l → l < 8 → oddB xs ms i l = false) ∧ t1 8 = .int .i64 ((k : Int) - 1) ∧ Stt [] H H1 []) (2 * 8) ⟨8, rfl, by omega, fun l h1 h2 => by omega, rfl, (st.sel [] (by decide))⟩ [4, 5, 8, 26, 27, 28, 29, 30, 31, 32, 33, 34, 35, 36] (by decide) ?_
      rintro m t1 H1 hk hI
      obtain ⟨k, rfl, hk8, hk2, ht8, st⟩ := hI
      obtain ⟨u, rfl⟩ : ∃ u, t1 = (upd (mix [4, 5, 8, 26, 27, 28, 29, 30, 31, 32, 33, 34, 35, 36] _ u) (some 8) _) := ⟨t1, by rw [← hk, upd_self ht8]⟩
      clear hk ht8
      show AWl _ _ _ _ _
      refine aN rfl rfl (by constructor) ?_
      refine aN rfl rfl (by constructor) ?_
      refine sE ?_
      show AW _ (.cond _ _ _) _ _ _
      refine cC' rfl (fun h5 => ?_) (fun h5 => ?_)
      · obtain ⟨m, rfl⟩ : ∃ m, k = m + 1 := ⟨k - 1, by have := of_decide_eq_true h5; omega⟩
        have e1 : ((m + 1 : Nat) : Int) - 1 = (m : Int) := by omega
        show AWl _ _ _ _ _
        refine aN rfl rfl (by constructor) ?_
        refine aN rfl rfl (by constructor) ?_
        refine aN rfl (e_shr rfl rfl (by omega)) (by constructor) ?_
        refine aN rfl rfl (by constructor) ?_
        refine aN rfl rfl (by constructor) ?_
        refine sE ?_
        show AW _ (.cond _ _ _) _ _ _
        refine cC' rfl (fun h6 => ?_) (fun h6 => ?_)
        · have hbit := h6
          rw [e1] at hbit
          replace hbit := (testB hW (k := m) (by omega)).symm.trans hbit
          replace hbit := (hT m (by omega)).symm.trans hbit
          show AWl _ _ _ _ _
          refine aN rfl rfl (by constructor) ?_
          refine aN rfl rfl (by constructor) ?_
          refine aN rfl rfl (by constructor) ?_
          refine aN rfl rfl (by constructor) ?_
          refine sE ?_
          refine ⟨_, out2 (r_tmp rfl (by constructor)) (r_tmp rfl (by constructor)) ⟨rfl, rfl⟩, ?_⟩
          exact ⟨_, _, rfl, st.drop, .inr ⟨i, m, rfl, e1, hlt, by omega, hbit, hno, fun l h1 h2 => hk2 l h1 h2⟩⟩
        · have hbit := h6
          rw [e1] at hbit
          replace hbit := (testB hW (k := m) (by omega)).symm.trans hbit
          replace hbit := (hT m (by omega)).symm.trans hbit
          show AWl _ _ _ _ _
          refine aN rfl rfl (by constructor) ?_
          refine aN rfl rfl (by constructor) ?_
          refine aN rfl rfl (by constructor) ?_
          refine sE ?_
          exact ⟨_, by omega, m, rfl, by omega, fun l h1 h2 => by { rcases Nat.eq_or_lt_of_le h1 with h | h; subst h; exact hbit; exact hk2 l h h2 }, congrArg (Value.int .i64) (by rw [wi _ (by omega)]; omega), (st.sel [] (by decide))⟩
      · obtain rfl : k = 0 := by have := of_decide_eq_false h5; omega
        show AWl _ _ _ _ _
        refine aN rfl rfl (by constructor) ?_
        refine aN rfl rfl (by constructor) ?_
        refine sE ?_
        exact ⟨_, by omega, i + 1, rfl, by omega, fun j hj l hl8 => by { rcases Nat.lt_succ_iff_lt_or_eq.1 hj with h | h; exact hno j h l hl8; subst h; exact hk2 l (Nat.zero_le _) hl8 }, congrArg (Value.int .i64) (wi _ (by omega)), (st.sel [] (by decide))⟩
  · have hge : i = xs.length := by have := of_decide_eq_false h1; omega
    subst hge
    show AWl _ _ _ _ _
    refine aN rfl rfl (by constructor) ?_
    refine aN rfl rfl (by constructor) ?_
    refine sE ?_
    refine ⟨_, out2 (r_tmp rfl (by constructor)) (r_tmp rfl (by constructor)) ⟨rfl, rfl⟩, ?_⟩
    exact ⟨-1, -1, rfl, st.drop, .inl ⟨rfl, rfl, hno⟩⟩
end Go.Proofs.Ytlbmfcbcmfcjbaa.Abs
