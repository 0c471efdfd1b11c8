/- Shared functions. -/
import Derived.Test.YtfjlniemgmimnaaN2
import Derived.Test.YtfjlniemgmimnaaC1
set_option linter.unusedVariables false
set_option linter.unusedSimpArgs false
set_option maxRecDepth 100000
namespace Go.Proofs.Ytfjlniemgmimnaa.Abs
open Go Go.RowKit
theorem mk0 (n : Nat) : mkCells [Value.int .u8 0] n = (List.replicate n (0 : Int)).map (Value.int .u8) := by
  apply List.ext_getElem
  · simp [mkCells]
  · intro i h1 h2
    simp [mkCells, Nat.mod_one]
theorem bigStep (n j : Nat) (v : Int) (hj : j < n) : ((List.replicate (n - j) 0 ++ beB j v).map (Value.int .u8)).set (0 + ((n : Int) - 1 - j).toNat * 1) (.int .u8 (IntKind.u8.wrap (v / 256 ^ j))) = (List.replicate (n - (j + 1)) 0 ++ beB (j + 1) v).map (Value.int .u8) := by
  rw [show 0 + ((n : Int) - 1 - j).toNat * 1 = n - (j + 1) by omega, show n - j = n - (j + 1) + 1 by omega, List.replicate_succ', List.append_assoc, List.map_append, List.set_append_right _ _ (by simp)]
  simp [beB_cons, w8]
theorem bigNext (v : Int) (j : Nat) : (v / 256 ^ j).fdiv (2 ^ min (8 : Int).toNat IntKind.u64.bits) = v / 256 ^ (j + 1) := by
  rw [shr_eq, show (2 : Int) ^ min (8 : Int).toNat IntKind.u64.bits = 256 by decide, Int.pow_succ, Int.ediv_ediv_of_nonneg (Int.le_of_lt (Int.pow_pos (by decide)))]
theorem big_call {H : Hp} {n : Nat} {v : Int} (hn : n ≤ 1000000) :
  ACalls Try.prog 24 [.int .u64 v, .int .i64 (n : Int)] H (fun v' H' => ∃ b, v' = .slice (some ⟨b, 0, none⟩) n 1 ∧ Stt [] H H' [⟨some b, true, ⟨true, 5, (beB n v).map (Value.int .u8)⟩⟩]) := by
 refine acallsW Try.func24 f24_ok (Nat.le_of_ble_eq_true rfl) fun hw => ?_
 have st : Stt [] H H [] := Stt.start hw
 unfold f24c
 show AWl _ _ _ _ _
 refine aN rfl rfl (by constructor) ?_
 refine sE ?_
 show AWl _ _ _ _ _
 refine aN rfl rfl (by constructor) ?_
 refine aMake (m := n) st rfl rfl rfl (by omega) (by omega) (by omega) fun b8 H1 st => ?_
 rw [show mkCells [Value.int .u8 0] n = (List.replicate n (0 : Int)).map (Value.int .u8) from mk0 n] at st
 rw [show (List.replicate n (0 : Int)) = List.replicate (n - 0) 0 ++ beB 0 v by simp [beB]] at st
 refine aN rfl rfl (by constructor) ?_
 refine sE ?_
 show AWl _ _ _ _ _
 iterate 3 refine aN rfl rfl (by constructor) ?_
 refine sE ?_
 show AW _ (.loop _) _ _ _
 refine AW_loopN (fun m t1 H1 => ∃ (j : Nat), m = n - j ∧ (j ≤ n) ∧ t1 0 = .int .u64 (v / 256 ^ j) ∧ t1 6 = .int .i64 ((n : Int) - 1 - j) ∧ Stt [] H H1 [⟨some b8, true, ⟨true, 5, (List.replicate (n - j) (0 : Int) ++ beB j v).map (Value.int .u8)⟩⟩]) (n - 0) ⟨0, rfl, by omega, congrArg (Value.int .u64) (by simp), congrArg (Value.int .i64) (by rw [wi _ (by omega)]; omega), (st.sel [0] (by decide))⟩ [0, 6, 11, 12, 13, 14, 15, 16, 17, 18, 19, 20, 21] (by decide) ?_
 rintro m t1 H1 hk hI
 obtain ⟨j, rfl, hf0, ht0, ht6, st⟩ := hI
 obtain ⟨u, rfl⟩ : ∃ u, t1 = (upd (upd (mix [0, 6, 11, 12, 13, 14, 15, 16, 17, 18, 19, 20, 21] _ u) (some 0) _) (some 6) _) := ⟨t1, by rw [← hk, upd_self ht0, upd_self ht6]⟩
 clear hk ht0 ht6
 show AWl _ _ _ _ _
 iterate 2 refine aN rfl rfl (by constructor) ?_
 refine sE ?_
 show AW _ (.cond _ _ _) _ _ _
 refine cC' rfl (fun h2 => ?_) (fun h2 => ?_)
 ·have h_in := h2
  replace h_in := of_decide_eq_true h_in
  replace h_in : (0 : Int) ≤ (n : Int) - 1 - j := h_in
  show AWl _ _ _ _ _
  iterate 4 refine aN rfl rfl (by constructor) ?_
  refine aN (v := .pointer (some ⟨b8, 0 + ((n : Int) - 1 - j).toNat * 1, none⟩)) (H' := H1) rfl (e_iadr rfl rfl (by omega)) (by constructor) ?_
  refine aStAt st 0 rfl rfl rfl rfl rfl (by simp [beB_len]; omega) (bigStep n j v (by omega)) fun H3 st => ?_
  refine sE ?_
  show AWl _ _ _ _ _
  iterate 3 refine aN rfl rfl (by constructor) ?_
  refine sE ?_
  show AWl _ _ _ _ _
  iterate 3 refine aN rfl rfl (by constructor) ?_
  refine sE ?_
  exact ⟨_, by omega, j + 1, rfl, by omega, congrArg (Value.int .u64) (bigNext v j), congrArg (Value.int .i64) (by rw [wi _ (by omega)]; omega), (st.sel [0] (by decide))⟩
 ·have h_out : ¬ ((0 : Int) ≤ (n : Int) - 1 - j) := of_decide_eq_false h2
  obtain rfl : j = n := by omega
  show AWl _ _ _ _ _
  iterate 2 refine aN rfl rfl (by constructor) ?_
  refine sE ?_
  refine ⟨_, out1 (r_tmp rfl (by constructor)), ?_⟩
  exact ⟨b8, rfl, by simpa using st.pick 0 rfl⟩
end Go.Proofs.Ytfjlniemgmimnaa.Abs
