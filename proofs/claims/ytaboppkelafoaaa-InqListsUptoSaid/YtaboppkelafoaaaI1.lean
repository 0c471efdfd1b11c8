/- Inq: texts. -/
import Derived.Test.YtaboppkelafoaaaI0
set_option linter.unusedVariables false
set_option linter.unusedSimpArgs false
set_option maxRecDepth 100000
namespace Go.Proofs.Ytaboppkelafoaaa.Abs
open Go Go.RowKit
theorem text_call {H : Hp} {xs : List Int} {l m : Int} (hx : TxB xs) :
    ACalls Try.prog 23 [.string (ofInts xs), .int .i64 l, .int .i64 m] H (fun v H' => v = .bool (textOk xs l m) ∧ Stt [] H H' []) := by
  refine acallsW Try.func23 f23_ok (Nat.le_of_ble_eq_true rfl) fun hw => ?_
  have st : Stt [] H H [] := Stt.start hw
  have hl := hx.2
  unfold f23c
  show AWl _ _ _ _ _
  refine aN rfl rfl (by constructor) ?_
  refine sE ?_
  show AWl _ _ _ _ _
  refine aN rfl rfl (by constructor) ?_
  refine aLenS (xs := xs) rfl ?_
  refine aN rfl rfl (by constructor) ?_
  refine sE ?_
  show AW _ (.loop _) _ _ _
  refine AW_loopN (fun m t1 H1 => ∃ (j : Nat), m = xs.length - j ∧ (j ≤ xs.length) ∧ ((xs.take j).all printed = true) ∧ t1 10 = .int .i64 (j : Int) ∧ Stt [] H H1 []) (xs.length - 0) ⟨0, rfl, by omega, rfl, rfl, (st.sel [] (by decide))⟩ [6, 7, 10, 11, 12, 13, 14, 15, 16, 17, 18, 19, 20, 21, 22, 23] (by decide) ?_
  rintro m t1 H1 hk hI
  obtain ⟨j, rfl, hj, ha, ht10, st⟩ := hI
  obtain ⟨u, rfl⟩ : ∃ u, t1 = (upd (mix [6, 7, 10, 11, 12, 13, 14, 15, 16, 17, 18, 19, 20, 21, 22, 23] _ u) (some 10) _) := ⟨t1, by rw [← hk, upd_self ht10]⟩
  clear hk ht10
  show AWl _ _ _ _ _
  refine aN rfl rfl (by constructor) ?_
  refine sE ?_
  show AW _ (.cond _ _ _) _ _ _
  refine cC' rfl (fun h1 => ?_) (fun h1 => ?_)
  · have hlt : j < xs.length := by have := of_decide_eq_true h1; omega
    show AWl _ _ _ _ _
    refine aN rfl rfl (by constructor) ?_
    refine aN rfl rfl (by constructor) ?_
    refine sE ?_
    show AWl _ _ _ _ _
    refine aN rfl rfl (by constructor) ?_
    refine aN rfl rfl (by constructor) ?_
    refine aIdxS (xs := xs) hx.1 rfl rfl (by first | decide | omega) ?_
    refine aN rfl rfl (by constructor) ?_
    refine aN rfl rfl (by constructor) ?_
    refine gCase 17 rfl (fun h2 => ?_) (fun h2 => ?_)
    · refine gF rfl (by decide) ?_
      refine gF rfl (by decide) ?_
      refine gF rfl (by decide) ?_
      refine gF rfl (by decide) ?_
      refine aN rfl rfl (by constructor) ?_
      refine sE ?_
      show AW _ (.cond _ _ _) _ _ _
      refine cT rfl ?_
      show AWl _ _ _ _ _
      refine aN rfl rfl (by constructor) ?_
      refine sE ?_
      refine ⟨_, out1 (r_tmp rfl (by constructor)), ?_⟩
      have hp : printed (xs.getD j 0) = false := by have hq := of_decide_eq_true h2; unfold printed; exact decide_eq_false (by simp only [show ((j : Int)).toNat = j from rfl] at hq; omega)
      exact ⟨by unfold textOk; rw [all_no hlt hp]; rfl, st.drop⟩
    · refine gT rfl ?_
      refine aN rfl rfl (by constructor) ?_
      refine gT rfl ?_
      refine aN rfl rfl (by constructor) ?_
      refine gT rfl ?_
      refine aIdxS (xs := xs) hx.1 rfl rfl (by first | decide | omega) ?_
      refine gT rfl ?_
      refine aN rfl rfl (by constructor) ?_
      refine aN rfl rfl (by constructor) ?_
      refine sE ?_
      show AW _ (.cond _ _ _) _ _ _
      refine cC' rfl (fun h3 => ?_) (fun h3 => ?_)
      · show AWl _ _ _ _ _
        refine aN rfl rfl (by constructor) ?_
        refine sE ?_
        refine ⟨_, out1 (r_tmp rfl (by constructor)), ?_⟩
        have hp : printed (xs.getD j 0) = false := by have hq := of_decide_eq_true h3; unfold printed; exact decide_eq_false (by simp only [show ((j : Int)).toNat = j from rfl] at hq; omega)
        exact ⟨by unfold textOk; rw [all_no hlt hp]; rfl, st.drop⟩
      · show AWl _ _ _ _ _
        refine aN rfl rfl (by constructor) ?_
        refine aN rfl rfl (by constructor) ?_
        refine sE ?_
        exact ⟨_, by omega, j + 1, rfl, by omega, (by rw [all_take hlt, ha]; have h2q := of_decide_eq_false h2; have h3q := of_decide_eq_false h3; exact decide_eq_true ⟨by simpa using h2q, by simpa using h3q⟩), congrArg (Value.int .i64) (wi _ (by omega)), (st.sel [] (by decide))⟩
  · have hge : j = xs.length := by have := of_decide_eq_false h1; omega
    subst hge
    show AWl _ _ _ _ _
    refine aN rfl rfl (by constructor) ?_
    refine aLenS (xs := xs) rfl ?_
    refine aN rfl rfl (by constructor) ?_
    refine aN rfl rfl (by constructor) ?_
    refine aN rfl rfl (by constructor) ?_
    refine gCase 28 rfl (fun h4 => ?_) (fun h4 => ?_)
    · refine gT rfl ?_
      refine aN rfl rfl (by constructor) ?_
      refine gT rfl ?_
      refine aLenS (xs := xs) rfl ?_
      refine gT rfl ?_
      refine aN rfl rfl (by constructor) ?_
      refine gT rfl ?_
      refine aN rfl rfl (by constructor) ?_
      refine aN rfl rfl (by constructor) ?_
      refine aN rfl rfl (by constructor) ?_
      refine sE ?_
      refine ⟨_, out1 (r_tmp rfl (by constructor)), ?_⟩
      rw [List.take_length] at ha
      have hq := of_decide_eq_true h4
      refine ⟨congrArg Value.bool ?_, st.drop⟩
      unfold textOk; rw [ha]
      rw [decide_eq_true (show l ≤ (xs.length : Int) from hq)]; rfl
    · refine gF rfl (by decide) ?_
      refine gF rfl (by decide) ?_
      refine gF rfl (by decide) ?_
      refine gF rfl (by decide) ?_
      refine aN rfl rfl (by constructor) ?_
      refine aN rfl rfl (by constructor) ?_
      refine sE ?_
      refine ⟨_, out1 (r_tmp rfl (by constructor)), ?_⟩
      rw [List.take_length] at ha
      have hq := of_decide_eq_false h4
      refine ⟨congrArg Value.bool ?_, st.drop⟩
      unfold textOk; rw [ha]
      rw [decide_eq_false (show ¬ l ≤ (xs.length : Int) from hq)]; rfl
theorem fits_call {H : Hp} {xs : List Int} {l m : Int} (hx : TxB xs) :
    ACalls Try.prog 24 [.string (ofInts xs), .int .i64 l, .int .i64 m] H (fun v H' => v = .bool (textOk xs l m) ∧ Stt [] H H' []) := by
  refine acallsW Try.func24 f24_ok (Nat.le_of_ble_eq_true rfl) fun hw => ?_
  have st : Stt [] H H [] := Stt.start hw
  have hl := hx.2
  unfold f24c
  show AWl _ _ _ _ _
  refine aN rfl rfl (by constructor) ?_
  refine sE ?_
  show AWl _ _ _ _ _
  refine aN rfl rfl (by constructor) ?_
  refine sE ?_
  show AW _ (.loop _) _ _ _
  refine AW_loopN (fun m t1 H1 => ∃ (j : Nat), m = xs.length - j ∧ (j ≤ xs.length) ∧ ((xs.take j).all printed = true) ∧ t1 7 = .int .i64 (j : Int) ∧ Stt [] H H1 []) (xs.length - 0) ⟨0, rfl, by omega, rfl, rfl, (st.sel [] (by decide))⟩ [6, 7, 8, 9, 10, 11, 12, 13, 14, 15, 16, 17, 18, 19, 20, 21, 22, 23] (by decide) ?_
  rintro m t1 H1 hk hI
  obtain ⟨j, rfl, hj, ha, ht7, st⟩ := hI
  obtain ⟨u, rfl⟩ : ∃ u, t1 = (upd (mix [6, 7, 8, 9, 10, 11, 12, 13, 14, 15, 16, 17, 18, 19, 20, 21, 22, 23] _ u) (some 7) _) := ⟨t1, by rw [← hk, upd_self ht7]⟩
  clear hk ht7
  show AWl _ _ _ _ _
  refine aN rfl rfl (by constructor) ?_
  refine aN rfl rfl (by constructor) ?_
  refine aLenS (xs := xs) rfl ?_
  refine aN rfl rfl (by constructor) ?_
  refine sE ?_
  show AW _ (.cond _ _ _) _ _ _
  refine cC' rfl (fun h1 => ?_) (fun h1 => ?_)
  · have hlt : j < xs.length := by have := of_decide_eq_true h1; omega
    show AWl _ _ _ _ _
    refine aN rfl rfl (by constructor) ?_
    refine aN rfl rfl (by constructor) ?_
    refine aIdxS (xs := xs) hx.1 rfl rfl (by first | decide | omega) ?_
    refine aN rfl rfl (by constructor) ?_
    refine aN rfl rfl (by constructor) ?_
    refine gCase 18 rfl (fun h2 => ?_) (fun h2 => ?_)
    · refine gF rfl (by decide) ?_
      refine gF rfl (by decide) ?_
      refine gF rfl (by decide) ?_
      refine gF rfl (by decide) ?_
      refine aN rfl rfl (by constructor) ?_
      refine sE ?_
      show AW _ (.cond _ _ _) _ _ _
      refine cT rfl ?_
      show AWl _ _ _ _ _
      refine aN rfl rfl (by constructor) ?_
      refine sE ?_
      refine ⟨_, out1 (r_tmp rfl (by constructor)), ?_⟩
      have hp : printed (xs.getD j 0) = false := by have hq := of_decide_eq_true h2; unfold printed; exact decide_eq_false (by simp only [show ((j : Int)).toNat = j from rfl] at hq; omega)
      exact ⟨by unfold textOk; rw [all_no hlt hp]; rfl, st.drop⟩
    · refine gT rfl ?_
      refine aN rfl rfl (by constructor) ?_
      refine gT rfl ?_
      refine aN rfl rfl (by constructor) ?_
      refine gT rfl ?_
      refine aIdxS (xs := xs) hx.1 rfl rfl (by first | decide | omega) ?_
      refine gT rfl ?_
      refine aN rfl rfl (by constructor) ?_
      refine aN rfl rfl (by constructor) ?_
      refine sE ?_
      show AW _ (.cond _ _ _) _ _ _
      refine cC' rfl (fun h3 => ?_) (fun h3 => ?_)
      · show AWl _ _ _ _ _
        refine aN rfl rfl (by constructor) ?_
        refine sE ?_
        refine ⟨_, out1 (r_tmp rfl (by constructor)), ?_⟩
        have hp : printed (xs.getD j 0) = false := by have hq := of_decide_eq_true h3; unfold printed; exact decide_eq_false (by simp only [show ((j : Int)).toNat = j from rfl] at hq; omega)
        exact ⟨by unfold textOk; rw [all_no hlt hp]; rfl, st.drop⟩
      · show AWl _ _ _ _ _
        refine aN rfl rfl (by constructor) ?_
        refine aN rfl rfl (by constructor) ?_
        refine aN rfl rfl (by constructor) ?_
        refine sE ?_
        exact ⟨_, by omega, j + 1, rfl, by omega, (by rw [all_take hlt, ha]; have h2q := of_decide_eq_false h2; have h3q := of_decide_eq_false h3; exact decide_eq_true ⟨by simpa using h2q, by simpa using h3q⟩), congrArg (Value.int .i64) (wi _ (by omega)), (st.sel [] (by decide))⟩
  · have hge : j = xs.length := by have := of_decide_eq_false h1; omega
    subst hge
    show AWl _ _ _ _ _
    refine aN rfl rfl (by constructor) ?_
    refine aLenS (xs := xs) rfl ?_
    refine aN rfl rfl (by constructor) ?_
    refine aN rfl rfl (by constructor) ?_
    refine aN rfl rfl (by constructor) ?_
    refine gCase 28 rfl (fun h4 => ?_) (fun h4 => ?_)
    · refine gT rfl ?_
      refine aN rfl rfl (by constructor) ?_
      refine gT rfl ?_
      refine aLenS (xs := xs) rfl ?_
      refine gT rfl ?_
      refine aN rfl rfl (by constructor) ?_
      refine gT rfl ?_
      refine aN rfl rfl (by constructor) ?_
      refine aN rfl rfl (by constructor) ?_
      refine aN rfl rfl (by constructor) ?_
      refine sE ?_
      refine ⟨_, out1 (r_tmp rfl (by constructor)), ?_⟩
      rw [List.take_length] at ha
      have hq := of_decide_eq_true h4
      refine ⟨congrArg Value.bool ?_, st.drop⟩
      unfold textOk; rw [ha]
      rw [decide_eq_true (show l ≤ (xs.length : Int) from hq)]; rfl
    · refine gF rfl (by decide) ?_
      refine gF rfl (by decide) ?_
      refine gF rfl (by decide) ?_
      refine gF rfl (by decide) ?_
      refine aN rfl rfl (by constructor) ?_
      refine aN rfl rfl (by constructor) ?_
      refine sE ?_
      refine ⟨_, out1 (r_tmp rfl (by constructor)), ?_⟩
      rw [List.take_length] at ha
      have hq := of_decide_eq_false h4
      refine ⟨congrArg Value.bool ?_, st.drop⟩
      unfold textOk; rw [ha]
      rw [decide_eq_false (show ¬ l ≤ (xs.length : Int) from hq)]; rfl
end Go.Proofs.Ytaboppkelafoaaa.Abs
