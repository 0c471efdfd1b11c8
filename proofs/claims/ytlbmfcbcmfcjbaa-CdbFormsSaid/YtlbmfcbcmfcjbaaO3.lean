/- Commands: the first bit that is not allowed, as the document has it. -/
import Derived.Test.YtlbmfcbcmfcjbaaO2
set_option linter.unusedVariables false
set_option linter.unusedSimpArgs false
set_option maxRecDepth 100000
namespace Go.Proofs.Ytlbmfcbcmfcjbaa.Abs
open Go Go.RowKit
theorem bitOne {a : Int} (ha : 0 ≤ a ∧ a ≤ 255) {m : Nat} (hm : m < 8) : bits .and .u8 a (IntKind.u8.wrap (1 * 2 ^ min ((m : Int)).toNat IntKind.u8.bits)) = if a.toNat.testBit m = true then 2 ^ m else 0 := by
  have hmin : min ((m : Int)).toNat IntKind.u8.bits = m := by simp [IntKind.bits]; omega
  have h2 : (2 : Nat) ^ m ≤ 2 ^ 7 := Nat.pow_le_pow_right (by decide) (by omega)
  have e : (1 : Int) * 2 ^ m = ((2 ^ m : Nat) : Int) := by simp
  obtain ⟨A, rfl⟩ := Int.eq_ofNat_of_zero_le ha.1
  have e2 : A &&& 2 ^ m = if A.testBit m = true then 2 ^ m else 0 := by
    apply Nat.eq_of_testBit_eq
    intro j
    rw [Nat.testBit_and, Nat.testBit_two_pow]
    by_cases hj : m = j
    · subst hj
      rcases hA : A.testBit m with _ | _ <;> simp
    · rcases hA : A.testBit m with _ | _ <;> simp [hj, Nat.testBit_two_pow]
  have e3 : (((if A.testBit m = true then 2 ^ m else 0 : Nat)) : Int) = if A.testBit m = true then 2 ^ m else 0 := by
    rcases A.testBit m with _ | _ <;> simp
  rw [hmin, w8, e, show ((A : Int)).toNat = A from rfl, ← e3, ← e2]
  generalize 2 ^ m = P at h2 ⊢
  rw [show ((P : Nat) : Int) % 256 = ((P : Nat) : Int) by omega]
  exact u8_and_nat _ _ (by omega) (by omega)
theorem r_f1 {xs ms : List Int} {i m : Nat} (hA : 0 ≤ xs.getD i 0 ∧ xs.getD i 0 ≤ 255) (hm : m < 8) (h : (bits .and .u8 (xs.getD i 0) (IntKind.u8.wrap (1 * 2 ^ min ((m : Int)).toNat IntKind.u8.bits)) != 0) = false) : oddB xs ms i m = false := by
  rw [bitOne hA hm] at h
  unfold oddB
  rcases hb : (xs.getD i 0).toNat.testBit m with _ | _
  · rfl
  · rw [hb, if_pos rfl] at h
    have h2 : (2 : Int) ^ m ≠ 0 := Int.ne_of_gt (Int.pow_pos (by decide))
    simp [h2] at h
theorem r_W {W : Int} (hW : 0 ≤ W ∧ W ≤ 255) {m : Nat} (hm : m < 8) {b : Bool} (h : (bits .and .u8 W (IntKind.u8.wrap (1 * 2 ^ min ((m : Int)).toNat IntKind.u8.bits)) == 0) = b) : W.toNat.testBit m = !b := by
  rw [bitOne hW hm] at h
  have h2 : (2 : Int) ^ m ≠ 0 := Int.ne_of_gt (Int.pow_pos (by decide))
  rcases hb : W.toNat.testBit m with _ | _ <;> rw [hb] at h <;> simp [h2] at h <;> subst h <;> simp [h2]
theorem r_f2 {xs ms : List Int} {i m : Nat} {W : Int} (hW : 0 ≤ W ∧ W ≤ 255) (hd : W = ms.getD i 0) (hm : m < 8) (h : (bits .and .u8 W (IntKind.u8.wrap (1 * 2 ^ min ((m : Int)).toNat IntKind.u8.bits)) == 0) = false) : oddB xs ms i m = false := by
  have := r_W hW hm h
  unfold oddB
  rw [← hd, this]
  simp
theorem r_t {xs ms : List Int} {i m : Nat} {W : Int} (hA : 0 ≤ xs.getD i 0 ∧ xs.getD i 0 ≤ 255) (hW : 0 ≤ W ∧ W ≤ 255) (hd : W = ms.getD i 0) (hm : m < 8) (h1 : (bits .and .u8 (xs.getD i 0) (IntKind.u8.wrap (1 * 2 ^ min ((m : Int)).toNat IntKind.u8.bits)) != 0) = true) (h : (bits .and .u8 W (IntKind.u8.wrap (1 * 2 ^ min ((m : Int)).toNat IntKind.u8.bits)) == 0) = true) : oddB xs ms i m = true := by
  have := r_W hW hm h
  rw [bitOne hA hm] at h1
  unfold oddB
  rw [← hd, this]
  rcases hb : (xs.getD i 0).toNat.testBit m with _ | _
  · rw [hb] at h1; simp at h1
  · rfl
theorem rodd_call {H : Hp} {xs ms : List Int} {x y : Value} (hx : Sl H 1 xs.length (xs.map (Value.int .u8)) x) (hm : Sl H 1 ms.length (ms.map (Value.int .u8)) y) (hb : ByteL xs) (hbm : ByteL ms) (hl : xs.length ≤ 140737488351232) (hlm : ms.length ≤ 140737488351232) :
    ACalls Try.prog 21 [x, y] H (fun v H' => ∃ f b : Int, v = .tuple #[.int .i64 f, .int .i64 b] ∧ Stt [] H H' [] ∧ OddAt xs ms f b) := by
  refine acallsW Try.func21 f21_ok (Nat.le_of_ble_eq_true rfl) fun hw => ?_
  have st : Stt [] H H [] := Stt.start hw
  unfold f21c
  show AWl _ _ _ _ _
  refine aN rfl rfl (by constructor) ?_
  refine aN rfl rfl (by constructor) ?_
  refine sE ?_
  show AWl _ _ _ _ _
  refine aN rfl rfl (by constructor) ?_
  refine sE ?_
  show AW _ (.loop _) _ _ _
  refine AW_loopN (fun m t1 H1 => ∃ (i : Nat), m = xs.length - i ∧ (i ≤ xs.length) ∧ (∀ j, j < i → ∀ k, k < 8 → oddB xs ms j k = false) ∧ t1 6 = .int .i64 (i : Int) ∧ Stt [] H H1 []) (xs.length - 0) ⟨0, rfl, by omega, fun j hj => by omega, rfl, (st.sel [] (by decide))⟩ [4, 5, 6, 7, 8, 9, 10, 11, 12, 13, 14, 15, 16, 17, 18, 19, 20, 21, 22, 23, 24, 25, 26, 27, 28, 29, 30, 31, 32, 33, 34, 35, 36, 37, 38, 39, 40, 41, 42, 43, 44] (by decide) ?_
  rintro m t1 H1 hk hI
  obtain ⟨i, rfl, hi, hno, ht6, st⟩ := hI
  obtain ⟨u, rfl⟩ : ∃ u, t1 = (upd (mix [4, 5, 6, 7, 8, 9, 10, 11, 12, 13, 14, 15, 16, 17, 18, 19, 20, 21, 22, 23, 24, 25, 26, 27, 28, 29, 30, 31, 32, 33, 34, 35, 36, 37, 38, 39, 40, 41, 42, 43, 44] _ u) (some 6) _) := ⟨t1, by rw [← hk, upd_self ht6]⟩
  clear hk ht6
  show AWl _ _ _ _ _
  refine aN rfl rfl (by constructor) ?_
  refine aMovV x rfl ?_
  refine aLen (st.slc hx) rfl ?_
  refine aN rfl rfl (by constructor) ?_
  refine sE ?_
  show AW _ (.cond _ _ _) _ _ _
  refine cC' rfl (fun h1 => ?_) (fun h1 => ?_)
  · have hlt : i < xs.length := by have := of_decide_eq_true h1; omega
    have hA := hb.getD i
    show AWl _ _ _ _ _
    refine aN rfl rfl (by constructor) ?_
    refine sE ?_
    show AWl _ _ _ _ _
    refine aN rfl rfl (by constructor) ?_
    refine aMovV y rfl ?_
    refine aLen (st.slc hm) rfl ?_
    refine aN rfl rfl (by constructor) ?_
    refine sE ?_
    show AW _ (.cond _ _ _) _ _ _
    refine cC' rfl (fun h2 => ?_) (fun h2 => ?_)
    · have hin : (i < ms.length) := by have := of_decide_eq_true h2; omega
      have hW := hbm.getD i
      have hWd : ms.getD i 0 = ms.getD i 0 := rfl
      show AWl _ _ _ _ _
      refine aMovV y rfl ?_
      refine aN rfl rfl (by constructor) ?_
      refine aIxB (st.slc hm) rfl rfl (by first | decide | omega) fun b22 o22 g22 => ?_
      refine aLdG rfl g22 ?_
      refine aN rfl rfl (by constructor) ?_
      refine sE ?_
      show AWl _ _ _ _ _
      refine aN rfl rfl (by constructor) ?_
      refine sE ?_
      show AW _ (.loop _) _ _ _
      refine AW_loopN (fun m t1 H1 => ∃ (k : Nat), m = 2 * k ∧ (k ≤ 8) ∧ (∀ l, k ≤ l → l < 8 → oddB xs ms i l = false) ∧ t1 8 = .int .i64 ((k : Int) - 1) ∧ Stt [] H H1 []) (2 * 8) ⟨8, rfl, by omega, fun l h1 h2 => by omega, rfl, (st.sel [] (by decide))⟩ [4, 5, 8, 9, 24, 25, 26, 27, 28, 29, 30, 31, 32, 33, 34, 35, 36, 37, 38, 39, 40, 41, 42, 43, 44] (by decide) ?_
      rintro m t1 H1 hk hI
      obtain ⟨k, rfl, hk8, hk2, ht8, st⟩ := hI
      obtain ⟨u, rfl⟩ : ∃ u, t1 = (upd (mix [4, 5, 8, 9, 24, 25, 26, 27, 28, 29, 30, 31, 32, 33, 34, 35, 36, 37, 38, 39, 40, 41, 42, 43, 44] _ u) (some 8) _) := ⟨t1, by rw [← hk, upd_self ht8]⟩
      clear hk ht8
      show AWl _ _ _ _ _
      refine aN rfl rfl (by constructor) ?_
      refine aN rfl rfl (by constructor) ?_
      refine sE ?_
      show AW _ (.cond _ _ _) _ _ _
      refine cC' rfl (fun h3 => ?_) (fun h3 => ?_)
      · obtain ⟨m, rfl⟩ : ∃ m, k = m + 1 := ⟨k - 1, by have := of_decide_eq_true h3; omega⟩
        have e1 : ((m + 1 : Nat) : Int) - 1 = (m : Int) := by omega
        rw [e1]
        show AWl _ _ _ _ _
        refine aN rfl rfl (by constructor) ?_
        refine aN rfl rfl (by constructor) ?_
        refine aN rfl rfl (by constructor) ?_
        refine sE ?_
        show AWl _ _ _ _ _
        refine aMovV x rfl ?_
        refine aN rfl rfl (by constructor) ?_
        refine aIxB (st.slc hx) rfl rfl (by omega) fun b32 o32 g32 => ?_
        refine aLdG rfl g32 ?_
        refine aN rfl rfl (by constructor) ?_
        refine aN rfl rfl (by constructor) ?_
        refine aN rfl rfl (by constructor) ?_
        refine aN rfl rfl (by constructor) ?_
        refine gCase 37 rfl (fun h4 => ?_) (fun h4 => ?_)
        · refine gT rfl ?_
          refine aN rfl rfl (by constructor) ?_
          refine gT rfl ?_
          refine aN rfl rfl (by constructor) ?_
          refine gT rfl ?_
          refine aN rfl rfl (by constructor) ?_
          refine gT rfl ?_
          refine aN rfl rfl (by constructor) ?_
          refine aN rfl rfl (by constructor) ?_
          refine sE ?_
          show AW _ (.cond _ _ _) _ _ _
          refine cC' rfl (fun h5 => ?_) (fun h5 => ?_)
          · show AWl _ _ _ _ _
            refine aN rfl rfl (by constructor) ?_
            refine aN rfl rfl (by constructor) ?_
            refine aN rfl rfl (by constructor) ?_
            refine aN rfl rfl (by constructor) ?_
            refine sE ?_
            refine ⟨_, out2 (r_tmp rfl (by constructor)) (r_tmp rfl (by constructor)) ⟨rfl, rfl⟩, ?_⟩
            exact ⟨_, _, rfl, st.drop, .inr ⟨i, m, rfl, rfl, hlt, by omega, r_t hA hW hWd (by omega) h4 h5, hno, fun l h1 h2 => hk2 l h1 h2⟩⟩
          · show AWl _ _ _ _ _
            refine aN rfl rfl (by constructor) ?_
            refine aN rfl rfl (by constructor) ?_
            refine aN rfl rfl (by constructor) ?_
            refine sE ?_
            have hbit : oddB xs ms i m = false := r_f2 hW hWd (by omega) h5
            exact ⟨_, by omega, m, rfl, by omega, fun l h1 h2 => by { rcases Nat.eq_or_lt_of_le h1 with h | h; subst h; exact hbit; exact hk2 l h h2 }, congrArg (Value.int .i64) (wi _ (by omega)), (st.sel [] (by decide))⟩
        · refine gF rfl (by decide) ?_
          refine gF rfl (by decide) ?_
          refine gF rfl (by decide) ?_
          refine gF rfl (by decide) ?_
          refine aN rfl rfl (by constructor) ?_
          refine sE ?_
          show AW _ (.cond _ _ _) _ _ _
          refine cF' rfl ?_
          show AWl _ _ _ _ _
          refine aN rfl rfl (by constructor) ?_
          refine aN rfl rfl (by constructor) ?_
          refine aN rfl rfl (by constructor) ?_
          refine sE ?_
          have hbit : oddB xs ms i m = false := r_f1 hA (by omega) h4
          exact ⟨_, by omega, m, rfl, by omega, fun l h1 h2 => by { rcases Nat.eq_or_lt_of_le h1 with h | h; subst h; exact hbit; exact hk2 l h h2 }, congrArg (Value.int .i64) (wi _ (by omega)), (st.sel [] (by decide))⟩
      · obtain rfl : k = 0 := by have := of_decide_eq_false h3; omega
        show AWl _ _ _ _ _
        refine aN rfl rfl (by constructor) ?_
        refine aN rfl rfl (by constructor) ?_
        refine aN rfl rfl (by constructor) ?_
        refine sE ?_
        exact ⟨_, by omega, i + 1, rfl, by omega, fun j hj l hl8 => by { rcases Nat.lt_succ_iff_lt_or_eq.1 hj with h | h; exact hno j h l hl8; subst h; exact hk2 l (Nat.zero_le _) hl8 }, congrArg (Value.int .i64) (wi _ (by omega)), (st.sel [] (by decide))⟩
    · have hin : ¬ (i < ms.length) := by have := of_decide_eq_false h2; omega
      have hW : (0 : Int) ≤ 0 ∧ (0 : Int) ≤ 255 := by omega
      have hWd : (0 : Int) = ms.getD i 0 := (getD_out hin).symm
      show AWl _ _ _ _ _
      refine aN rfl rfl (by constructor) ?_
      refine sE ?_
      show AW _ (.loop _) _ _ _
      refine AW_loopN (fun m t1 H1 => ∃ (k : Nat), m = 2 * k ∧ (k ≤ 8) ∧ (∀ l, k ≤ l → l < 8 → oddB xs ms i l = false) ∧ t1 8 = .int .i64 ((k : Int) - 1) ∧ Stt [] H H1 []) (2 * 8) ⟨8, rfl, by omega, fun l h1 h2 => by omega, rfl, (st.sel [] (by decide))⟩ [4, 5, 8, 9, 24, 25, 26, 27, 28, 29, 30, 31, 32, 33, 34, 35, 36, 37, 38, 39, 40, 41, 42, 43, 44] (by decide) ?_
      rintro m t1 H1 hk hI
      obtain ⟨k, rfl, hk8, hk2, ht8, st⟩ := hI
      obtain ⟨u, rfl⟩ : ∃ u, t1 = (upd (mix [4, 5, 8, 9, 24, 25, 26, 27, 28, 29, 30, 31, 32, 33, 34, 35, 36, 37, 38, 39, 40, 41, 42, 43, 44] _ u) (some 8) _) := ⟨t1, by rw [← hk, upd_self ht8]⟩
      clear hk ht8
      show AWl _ _ _ _ _
      refine aN rfl rfl (by constructor) ?_
      refine aN rfl rfl (by constructor) ?_
      refine sE ?_
      show AW _ (.cond _ _ _) _ _ _
      refine cC' rfl (fun h6 => ?_) (fun h6 => ?_)
      · obtain ⟨m, rfl⟩ : ∃ m, k = m + 1 := ⟨k - 1, by have := of_decide_eq_true h6; omega⟩
        have e1 : ((m + 1 : Nat) : Int) - 1 = (m : Int) := by omega
        rw [e1]
        show AWl _ _ _ _ _
        refine aN rfl rfl (by constructor) ?_
        refine aN rfl rfl (by constructor) ?_
        refine aN rfl rfl (by constructor) ?_
        refine sE ?_
        show AWl _ _ _ _ _
        refine aMovV x rfl ?_
        refine aN rfl rfl (by constructor) ?_
        refine aIxB (st.slc hx) rfl rfl (by omega) fun b32 o32 g32 => ?_
        refine aLdG rfl g32 ?_
        refine aN rfl rfl (by constructor) ?_
        refine aN rfl rfl (by constructor) ?_
        refine aN rfl rfl (by constructor) ?_
        refine aN rfl rfl (by constructor) ?_
        refine gCase 37 rfl (fun h7 => ?_) (fun h7 => ?_)
        · refine gT rfl ?_
          refine aN rfl rfl (by constructor) ?_
          refine gT rfl ?_
          refine aN rfl rfl (by constructor) ?_
          refine gT rfl ?_
          refine aN rfl rfl (by constructor) ?_
          refine gT rfl ?_
          refine aN rfl rfl (by constructor) ?_
          refine aN rfl rfl (by constructor) ?_
          refine sE ?_
          show AW _ (.cond _ _ _) _ _ _
          refine cC' rfl (fun h8 => ?_) (fun h8 => ?_)
          · show AWl _ _ _ _ _
            refine aN rfl rfl (by constructor) ?_
            refine aN rfl rfl (by constructor) ?_
            refine aN rfl rfl (by constructor) ?_
            refine aN rfl rfl (by constructor) ?_
            refine sE ?_
            refine ⟨_, out2 (r_tmp rfl (by constructor)) (r_tmp rfl (by constructor)) ⟨rfl, rfl⟩, ?_⟩
            exact ⟨_, _, rfl, st.drop, .inr ⟨i, m, rfl, rfl, hlt, by omega, r_t hA hW hWd (by omega) h7 h8, hno, fun l h1 h2 => hk2 l h1 h2⟩⟩
          · show AWl _ _ _ _ _
            refine aN rfl rfl (by constructor) ?_
            refine aN rfl rfl (by constructor) ?_
            refine aN rfl rfl (by constructor) ?_
            refine sE ?_
            have hbit : oddB xs ms i m = false := r_f2 hW hWd (by omega) h8
            exact ⟨_, by omega, m, rfl, by omega, fun l h1 h2 => by { rcases Nat.eq_or_lt_of_le h1 with h | h; subst h; exact hbit; exact hk2 l h h2 }, congrArg (Value.int .i64) (wi _ (by omega)), (st.sel [] (by decide))⟩
        · refine gF rfl (by decide) ?_
          refine gF rfl (by decide) ?_
          refine gF rfl (by decide) ?_
          refine gF rfl (by decide) ?_
          refine aN rfl rfl (by constructor) ?_
          refine sE ?_
          show AW _ (.cond _ _ _) _ _ _
          refine cF' rfl ?_
          show AWl _ _ _ _ _
          refine aN rfl rfl (by constructor) ?_
          refine aN rfl rfl (by constructor) ?_
          refine aN rfl rfl (by constructor) ?_
          refine sE ?_
          have hbit : oddB xs ms i m = false := r_f1 hA (by omega) h7
          exact ⟨_, by omega, m, rfl, by omega, fun l h1 h2 => by { rcases Nat.eq_or_lt_of_le h1 with h | h; subst h; exact hbit; exact hk2 l h h2 }, congrArg (Value.int .i64) (wi _ (by omega)), (st.sel [] (by decide))⟩
      · obtain rfl : k = 0 := by have := of_decide_eq_false h6; omega
        show AWl _ _ _ _ _
        refine aN rfl rfl (by constructor) ?_
        refine aN rfl rfl (by constructor) ?_
        refine aN rfl rfl (by constructor) ?_
        refine sE ?_
        exact ⟨_, by omega, i + 1, rfl, by omega, fun j hj l hl8 => by { rcases Nat.lt_succ_iff_lt_or_eq.1 hj with h | h; exact hno j h l hl8; subst h; exact hk2 l (Nat.zero_le _) hl8 }, congrArg (Value.int .i64) (wi _ (by omega)), (st.sel [] (by decide))⟩
  · have hge : i = xs.length := by have := of_decide_eq_false h1; omega
    subst hge
    show AWl _ _ _ _ _
    refine aN rfl rfl (by constructor) ?_
    refine aN rfl rfl (by constructor) ?_
    refine sE ?_
    refine ⟨_, out2 (r_tmp rfl (by constructor)) (r_tmp rfl (by constructor)) ⟨rfl, rfl⟩, ?_⟩
    exact ⟨-1, -1, rfl, st.drop, .inl ⟨rfl, rfl, hno⟩⟩
end Go.Proofs.Ytlbmfcbcmfcjbaa.Abs
