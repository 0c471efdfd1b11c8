/- Inq: texts with blanks. -/
import Derived.Test.YtaboppkelafoaaaI2
set_option linter.unusedVariables false
set_option linter.unusedSimpArgs false
set_option maxRecDepth 100000
namespace Go.Proofs.Ytaboppkelafoaaa.Abs
open Go Go.RowKit
theorem wide_call {H : Hp} {xs : List Int} {n : Nat} (hx : TxB xs) (hn : n ≤ 1000) :
    ACalls Try.prog 19 [.string (ofInts xs), .int .i64 (n : Int)] H (fun v H' => ∃ b, v = .slice (some ⟨b, 0, none⟩) (wideL xs n).length 1 ∧ Stt [] H H' [⟨some b, true, ⟨true, 5, (wideL xs n).map (Value.int .u8)⟩⟩]) := by
  refine acallsW Try.func19 f19_ok (Nat.le_of_ble_eq_true rfl) fun hw => ?_
  have st : Stt [] H H [] := Stt.start hw
  have hl := hx.2
  unfold f19c
  show AWl _ _ _ _ _
  refine aN rfl rfl (by constructor) ?_
  refine sE ?_
  show AWl _ _ _ _ _
  refine aN rfl rfl (by constructor) ?_
  refine aBytesS (xs := xs) st hx.1 rfl (by omega) fun b7 H1 st => ?_
  refine aN rfl rfl (by constructor) ?_
  refine sE ?_
  show AW _ (.loop _) _ _ _
  refine AW_loopN (fun m t1 H1 => ∃ (j : Nat) (b : Nat), m = n - (xs.length + j) ∧ (xs.length + j ≤ n ∨ j = 0) ∧ t1 5 = .slice (some ⟨b, 0, none⟩) (xs.length + j) 1 ∧ Stt [] H H1 [⟨some b, true, ⟨true, 5, (xs ++ List.replicate j (32 : Int)).map (Value.int .u8)⟩⟩]) (n - (xs.length + 0)) ⟨0, b7, rfl, by omega, rfl, (by simpa using (st.sel [0] (by decide)))⟩ [5, 8, 9, 10, 11, 12, 13, 14] (by decide) ?_
  rintro m t1 H1 hk hI
  obtain ⟨j, b, rfl, hj, ht5, st⟩ := hI
  obtain ⟨u, rfl⟩ : ∃ u, t1 = (upd (mix [5, 8, 9, 10, 11, 12, 13, 14] _ u) (some 5) _) := ⟨t1, by rw [← hk, upd_self ht5]⟩
  clear hk ht5
  show AWl _ _ _ _ _
  refine aN rfl rfl (by constructor) ?_
  refine aN rfl rfl (by constructor) ?_
  refine aN rfl rfl (by constructor) ?_
  refine aN rfl rfl (by constructor) ?_
  refine sE ?_
  show AW _ (.cond _ _ _) _ _ _
  refine cC' rfl (fun h2 => ?_) (fun h2 => ?_)
  · have hlt : xs.length + j < n := by have := of_decide_eq_true h2; omega
    show AWl _ _ _ _ _
    refine aN rfl rfl (by constructor) ?_
    refine aLit st rfl (by repeat constructor) fun b13 H3 st => ?_
    refine aAppP st 1 (ob := some b) rfl rfl rfl (by decide) (by simp) (st.rowAll 0 rfl (by first | rfl | (simp [beB_len, *]; done) | (simp [beB_len, *]; omega))).src (rfl) (by omega) (by omega) (by omega) (NfL.any _) fun b14 H4 st => ?_
    refine aN rfl rfl (by constructor) ?_
    refine sE ?_
    exact ⟨_, by omega, j + 1, b14, rfl, by omega, rfl, (by have st2 := (st.sel [1] (by decide)); rw [List.replicate_succ', ← List.append_assoc, List.map_append]; exact st2)⟩
  · have hge : n - xs.length = j := by have := of_decide_eq_false h2; omega
    show AWl _ _ _ _ _
    refine aN rfl rfl (by constructor) ?_
    refine aN rfl rfl (by constructor) ?_
    refine sE ?_
    refine ⟨_, out1 (r_tmp rfl (by constructor)), ?_⟩
    exact ⟨b, by unfold wideL; rw [hge]; simp, by unfold wideL; rw [hge]; exact st.pick 0 rfl⟩
theorem as_call {H : Hp} {xs : List Int} {n : Nat} (hx : TxB xs) (hn : n ≤ 1000) :
    ACalls Try.prog 22 [.string (ofInts xs), .int .i64 (n : Int)] H (fun v H' => v = .string (ofInts (wideL xs n)) ∧ Stt [] H H' []) := by
  refine acallsW Try.func22 f22_ok (Nat.le_of_ble_eq_true rfl) fun hw => ?_
  have st : Stt [] H H [] := Stt.start hw
  have hl := hx.2
  unfold f22c
  show AWl _ _ _ _ _
  refine aN rfl rfl (by constructor) ?_
  refine sE ?_
  show AW _ (.loop _) _ _ _
  refine AW_loopN (fun m t1 H1 => ∃ (j : Nat), m = n - (xs.length + j) ∧ (xs.length + j ≤ n ∨ j = 0) ∧ t1 0 = .string (ofInts (xs ++ List.replicate j (32 : Int))) ∧ Stt [] H H1 []) (n - (xs.length + 0)) ⟨0, rfl, by omega, congrArg (fun z => Value.string (ofInts z)) (by simp), (st.sel [] (by decide))⟩ [0, 5, 6, 7, 8, 9, 10] (by decide) ?_
  rintro m t1 H1 hk hI
  obtain ⟨j, rfl, hj, ht0, st⟩ := hI
  obtain ⟨u, rfl⟩ : ∃ u, t1 = (upd (mix [0, 5, 6, 7, 8, 9, 10] _ u) (some 0) _) := ⟨t1, by rw [← hk, upd_self ht0]⟩
  clear hk ht0
  show AWl _ _ _ _ _
  refine aN rfl rfl (by constructor) ?_
  refine aLenS (xs := (xs ++ List.replicate j (32 : Int))) rfl ?_
  refine aN rfl rfl (by constructor) ?_
  refine aN rfl rfl (by constructor) ?_
  refine sE ?_
  show AW _ (.cond _ _ _) _ _ _
  refine cC' rfl (fun h1 => ?_) (fun h1 => ?_)
  · have hlt : xs.length + j < n := by have := of_decide_eq_true h1; simp at this; omega
    show AWl _ _ _ _ _
    refine aN rfl rfl (by constructor) ?_
    refine aCatS (xs := (xs ++ List.replicate j (32 : Int))) (ys := [32]) rfl rfl (by simp; omega) ?_
    refine aN rfl rfl (by constructor) ?_
    refine sE ?_
    exact ⟨_, by omega, j + 1, rfl, by omega, congrArg (fun z => Value.string (ofInts z)) (by rw [List.replicate_succ', List.append_assoc]), (st.sel [] (by decide))⟩
  · have hge : n - xs.length = j := by have := of_decide_eq_false h1; simp at this; omega
    show AWl _ _ _ _ _
    refine aN rfl rfl (by constructor) ?_
    refine aN rfl rfl (by constructor) ?_
    refine sE ?_
    refine ⟨_, out1 (r_tmp rfl (by constructor)), ?_⟩
    exact ⟨by unfold wideL; rw [hge], st.drop⟩
end Go.Proofs.Ytaboppkelafoaaa.Abs
