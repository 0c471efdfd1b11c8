/- Shared functions. -/
import Derived.Test.YtloeadlmcdddnaaN2
import Derived.Test.YtloeadlmcdddnaaC1
set_option linter.unusedVariables false
set_option linter.unusedSimpArgs false
set_option maxRecDepth 100000
namespace Go.Proofs.Ytloeadlmcdddnaa.Abs
open Go Go.RowKit
def rfieldE (len : Nat) (at_ n : Int) : Int := if n < 1 ∨ n > 8 then 1 else if at_ < 0 ∨ at_ ≥ len ∨ n > len - at_ then 4 else 0
theorem bigNext (v : Int) (j : Nat) : (v / 256 ^ j).fdiv (2 ^ min (8 : Int).toNat IntKind.u64.bits) = v / 256 ^ (j + 1) := by
  rw [shr_eq, show (2 : Int) ^ min (8 : Int).toNat IntKind.u64.bits = 256 by decide, Int.pow_succ, Int.ediv_ediv_of_nonneg (Int.le_of_lt (Int.pow_pos (by decide)))]
theorem field_call {H : Hp} {xs : List Int} {x : Value} {at_ n : Int} (hx : Sl H 1 xs.length (xs.map (Value.int .u8)) x) (hl : xs.length ≤ 1000000000000000) (hn : -9000000000000000000 ≤ n ∧ n ≤ 9000000000000000000) :
  ACalls Try.prog 40 [x, .int .i64 at_, .int .i64 n] H (fun v H' => v = .int .i64 (rfieldE xs.length at_ n) ∧ Stt [] H H' []) := by
 refine acallsW Try.func40 f40_ok (Nat.le_of_ble_eq_true rfl) fun hw => ?_
 have st : Stt [] H H [] := Stt.start hw
 unfold f40c
 show AWl _ _ _ _ _
 refine aN rfl rfl (by constructor) ?_
 refine sE ?_
 show AWl _ _ _ _ _
 iterate 3 refine aN rfl rfl (by constructor) ?_
 refine gCase 10 rfl (fun h1 => ?_) (fun h1 => ?_)
 ·refine gF rfl (by decide) ?_
  refine gF rfl (by decide) ?_
  iterate 2 refine aN rfl rfl (by constructor) ?_
  refine sE ?_
  show AW _ (.cond _ _ _) _ _ _
  refine cT rfl ?_
  show AWl _ _ _ _ _
  refine aN rfl rfl (by constructor) ?_
  refine sE ?_
  refine ⟨_, out1 (r_tmp rfl (by constructor)), ?_⟩
  simp only [decide_eq_true_eq, decide_eq_false_iff_not, beq_iff_eq, beq_eq_false_iff_ne, bne_iff_ne, bne_eq_false_iff_eq, ne_eq, Decidable.not_not, Bool.not_eq_true, Bool.not_eq_false, gt_iff_lt, ge_iff_le, Int.not_lt, Int.not_le] at h1
  refine ⟨congrArg (Value.int .i64) ?_, st.drop⟩
  unfold rfieldE
  repeat' split
  all_goals first | rfl | omega
 ·refine gT rfl ?_
  refine aN rfl rfl (by constructor) ?_
  refine gT rfl ?_
  iterate 3 refine aN rfl rfl (by constructor) ?_
  refine sE ?_
  show AW _ (.cond _ _ _) _ _ _
  refine cC' rfl (fun h2 => ?_) (fun h2 => ?_)
  ·show AWl _ _ _ _ _
   refine aN rfl rfl (by constructor) ?_
   refine sE ?_
   refine ⟨_, out1 (r_tmp rfl (by constructor)), ?_⟩
   simp only [decide_eq_true_eq, decide_eq_false_iff_not, beq_iff_eq, beq_eq_false_iff_ne, bne_iff_ne, bne_eq_false_iff_eq, ne_eq, Decidable.not_not, Bool.not_eq_true, Bool.not_eq_false, gt_iff_lt, ge_iff_le, Int.not_lt, Int.not_le] at h1 h2
   refine ⟨congrArg (Value.int .i64) ?_, st.drop⟩
   unfold rfieldE
   repeat' split
   all_goals first | rfl | omega
  ·show AWl _ _ _ _ _
   iterate 3 refine aN rfl rfl (by constructor) ?_
   refine gCase 17 rfl (fun h3 => ?_) (fun h3 => ?_)
   ·refine gF rfl (by decide) ?_
    refine gF rfl (by decide) ?_
    refine gF rfl (by decide) ?_
    refine gF rfl (by decide) ?_
    refine gF rfl (by decide) ?_
    refine gF rfl (by decide) ?_
    iterate 2 refine aN rfl rfl (by constructor) ?_
    refine sE ?_
    show AW _ (.cond _ _ _) _ _ _
    refine cT rfl ?_
    show AWl _ _ _ _ _
    refine aN rfl rfl (by constructor) ?_
    refine sE ?_
    refine ⟨_, out1 (r_tmp rfl (by constructor)), ?_⟩
    simp only [decide_eq_true_eq, decide_eq_false_iff_not, beq_iff_eq, beq_eq_false_iff_ne, bne_iff_ne, bne_eq_false_iff_eq, ne_eq, Decidable.not_not, Bool.not_eq_true, Bool.not_eq_false, gt_iff_lt, ge_iff_le, Int.not_lt, Int.not_le] at h1 h2 h3
    refine ⟨congrArg (Value.int .i64) ?_, st.drop⟩
    unfold rfieldE
    repeat' split
    all_goals first | rfl | omega
   ·refine gT rfl ?_
    refine aN rfl rfl (by constructor) ?_
    refine gT rfl ?_
    refine aMovV x rfl ?_
    refine gT rfl ?_
    refine aLen (st.slc hx) rfl ?_
    refine gT rfl ?_
    refine aN rfl rfl (by constructor) ?_
    refine gT rfl ?_
    refine aN rfl rfl (by constructor) ?_
    refine gT rfl ?_
    iterate 3 refine aN rfl rfl (by constructor) ?_
    refine sE ?_
    show AW _ (.cond _ _ _) _ _ _
    refine cC' rfl (fun h4 => ?_) (fun h4 => ?_)
    ·show AWl _ _ _ _ _
     refine aN rfl rfl (by constructor) ?_
     refine sE ?_
     refine ⟨_, out1 (r_tmp rfl (by constructor)), ?_⟩
     have hwi := wi ((xs.length : Int) - n) (by omega)
     simp only [hwi] at *
     simp only [decide_eq_true_eq, decide_eq_false_iff_not, beq_iff_eq, beq_eq_false_iff_ne, bne_iff_ne, bne_eq_false_iff_eq, ne_eq, Decidable.not_not, Bool.not_eq_true, Bool.not_eq_false, gt_iff_lt, ge_iff_le, Int.not_lt, Int.not_le] at h1 h2 h3 h4
     refine ⟨congrArg (Value.int .i64) ?_, st.drop⟩
     unfold rfieldE
     repeat' split
     all_goals first | rfl | omega
    ·show AWl _ _ _ _ _
     refine aN rfl rfl (by constructor) ?_
     refine sE ?_
     refine ⟨_, out1 (r_tmp rfl (by constructor)), ?_⟩
     have hwi := wi ((xs.length : Int) - n) (by omega)
     simp only [hwi] at *
     simp only [decide_eq_true_eq, decide_eq_false_iff_not, beq_iff_eq, beq_eq_false_iff_ne, bne_iff_ne, bne_eq_false_iff_eq, ne_eq, Decidable.not_not, Bool.not_eq_true, Bool.not_eq_false, gt_iff_lt, ge_iff_le, Int.not_lt, Int.not_le] at h1 h2 h3 h4
     refine ⟨congrArg (Value.int .i64) ?_, st.drop⟩
     unfold rfieldE
     repeat' split
     all_goals first | rfl | omega
theorem field_ok {H : Hp} {xs : List Int} {x : Value} {at_ n : Int} (hx : Sl H 1 xs.length (xs.map (Value.int .u8)) x) (hl : xs.length ≤ 1000000000000000) (hr : 1 ≤ n ∧ n ≤ 8 ∧ 0 ≤ at_ ∧ at_ + n ≤ xs.length) : ACalls Try.prog 40 [x, .int .i64 at_, .int .i64 n] H (fun v H' => v = .int .i64 0 ∧ Stt [] H H' []) := by
  refine (field_call hx hl (by omega)).mono fun v H' ⟨h, st⟩ => ⟨?_, st⟩
  rw [h]
  congr 1
  unfold rfieldE
  rw [if_neg (by omega), if_neg (by omega)]
theorem putZero {n v : Int} (hn : 1 ≤ n) (h8 : n ≤ 8) (hv : 0 ≤ v ∧ v < 256 ^ n.toNat) : v.fdiv (2 ^ min (IntKind.i64.wrap (8 * n)).toNat IntKind.u64.bits) = 0 := by
  rw [shr_eq, wi _ (by omega)]
  have h64 : IntKind.u64.bits = 64 := rfl
  have hm : min (8 * n).toNat IntKind.u64.bits = 8 * n.toNat := by omega
  rw [hm, Int.pow_mul]
  exact Int.ediv_eq_zero_of_lt hv.1 (by simpa using hv.2)
/-- Bytes with the lowest j bytes of a number laid in. -/
def putL (xs : List Int) (at_ n v : Int) (j : Nat) : List Int := xs.take (at_.toNat + n.toNat - j) ++ beB j v ++ xs.drop (at_.toNat + n.toNat)
theorem putL_len {xs : List Int} {at_ n v : Int} {j : Nat} (hr : 1 ≤ n ∧ n ≤ 8 ∧ 0 ≤ at_ ∧ at_ + n ≤ xs.length) (hj : (j : Int) ≤ n) : (putL xs at_ n v j).length = xs.length := by
  simp [putL, beB_len]
  omega
theorem putL_zero {xs : List Int} {at_ n v : Int} : putL xs at_ n v 0 = xs := by simp [putL, beB]
theorem putL_all {xs : List Int} {at_ n v : Int} {j : Nat} (hr : 1 ≤ n ∧ n ≤ 8 ∧ 0 ≤ at_ ∧ at_ + n ≤ xs.length) (hj : (j : Int) = n) : putL xs at_ n v j = xs.take at_.toNat ++ beB n.toNat v ++ xs.drop (at_.toNat + n.toNat) := by
  have : j = n.toNat := by omega
  subst this
  simp [putL]
theorem putStep (xs : List Int) {at_ n : Int} (v : Int) {j : Nat} (hr : 1 ≤ n ∧ n ≤ 8 ∧ 0 ≤ at_ ∧ at_ + n ≤ xs.length) (hj : (0 : Int) ≤ n - 1 - j) (hL : xs.length ≤ 140737488351232) : ((putL xs at_ n v j).map (Value.int .u8)).set (0 + (IntKind.i64.wrap (at_ + (n - 1 - j))).toNat * 1) (.int .u8 (IntKind.u8.wrap (v / 256 ^ j))) = (putL xs at_ n v (j + 1)).map (Value.int .u8) := by
  have hb := hL
  · rw [wi _ (by omega)]
    have e : 0 + (at_ + (n - 1 - j)).toNat * 1 = at_.toNat + n.toNat - (j + 1) := by omega
    have hlt : at_.toNat + n.toNat - (j + 1) < xs.length := by omega
    have e2 : xs.take (at_.toNat + n.toNat - j) = xs.take (at_.toNat + n.toNat - (j + 1)) ++ [xs[at_.toNat + n.toNat - (j + 1)]] := by
      rw [show at_.toNat + n.toNat - j = at_.toNat + n.toNat - (j + 1) + 1 by omega, List.take_succ_eq_append_getElem hlt]
    have hl : (xs.take (at_.toNat + n.toNat - (j + 1))).length = at_.toNat + n.toNat - (j + 1) := by rw [List.length_take]; omega
    rw [e]
    unfold putL
    rw [e2, beB_cons, w8]
    generalize xs.take (at_.toNat + n.toNat - (j + 1)) = A at *
    generalize xs[at_.toNat + n.toNat - (j + 1)] = z
    rw [← hl]
    simp only [List.map_append, List.map_cons, List.map_nil, List.append_assoc]
    rw [List.set_append_right _ _ (by simp)]
    simp
theorem put_call {H : Hp} {xs : List Int} {x : Value} {at_ n v : Int} (hx : Sl H 1 xs.length (xs.map (Value.int .u8)) x) (hb : ByteL xs) (hl : xs.length ≤ 140737488351232) (hr : 1 ≤ n ∧ n ≤ 8 ∧ 0 ≤ at_ ∧ at_ + n ≤ xs.length) (hv : 0 ≤ v ∧ v < 256 ^ n.toNat) :
  ACalls Try.prog 32 [x, .int .i64 at_, .int .i64 n, .int .u64 v] H (fun v' H' => ∃ b, v' = .tuple #[.slice (some ⟨b, 0, none⟩) xs.length 1, .int .i64 0] ∧ Stt [] H H' [⟨some b, true, ⟨true, 5, (xs.take at_.toNat ++ beB n.toNat v ++ xs.drop (at_.toNat + n.toNat)).map (Value.int .u8)⟩⟩]) := by
 refine acallsW Try.func32 f32_ok (Nat.le_of_ble_eq_true rfl) fun hw => ?_
 have st : Stt [] H H [] := Stt.start hw
 unfold f32c
 show AWl _ _ _ _ _
 iterate 2 refine aN rfl rfl (by constructor) ?_
 refine sE ?_
 show AWl _ _ _ _ _
 refine aMovV x rfl ?_
 iterate 2 refine aN rfl rfl (by constructor) ?_
 refine aC (field_ok (st.slc hx) (by omega) hr) fun v16 H1 ⟨hv, st1⟩ => ?_
 subst hv
 replace st := st.call st1 rfl
 clear st1
 refine aN rfl rfl (by constructor) ?_
 refine sE ?_
 show AWl _ _ _ _ _
 refine aN rfl rfl (by constructor) ?_
 refine aBinV (.bool true) rfl rfl rfl ?_
 refine aN rfl rfl (by constructor) ?_
 refine gT rfl ?_
 refine aN rfl rfl (by constructor) ?_
 refine gT rfl ?_
 iterate 3 refine aN rfl rfl (by constructor) ?_
 refine gCase 23 rfl (fun h2 => ?_) (fun h2 => ?_)
 ·refine gT rfl ?_
  refine aN rfl rfl (by constructor) ?_
  refine gT rfl ?_
  refine aN rfl rfl (by constructor) ?_
  refine gT rfl ?_
  refine aN rfl rfl (by constructor) ?_
  refine gT rfl ?_
  refine aN rfl (e_shr rfl rfl (by rw [wi _ (by omega)]; omega)) (by constructor) ?_
  refine gT rfl ?_
  iterate 2 refine aN rfl rfl (by constructor) ?_
  refine sE ?_
  show AW _ (.cond _ _ _) _ _ _
  refine cC' rfl (fun h3 => ?_) (fun h3 => ?_)
  ·exact absurd h3 (by rw [putZero hr.1 (by omega) hv]; decide)
  ·show AWl _ _ _ _ _
   refine aN rfl rfl (by constructor) ?_
   refine aBinV (.bool false) rfl rfl rfl ?_
   refine sE ?_
   show AW _ (.cond _ _ _) _ _ _
   refine cF' rfl ?_
   show AWl _ _ _ _ _
   refine aMovV x rfl ?_
   have st := st.nil 5
   have hnil : (Value.slice none 0 0) = accV none 0 1 := rfl
   refine aAppP st 0 (ob := none) (n := 0) rfl rfl rfl (by decide) (rfl) (st.slc hx).src (by simp) (by omega) (by omega) (by omega) (NfL.any _) fun b34 H4 st => ?_
   refine aN rfl rfl (by constructor) ?_
   refine sE ?_
   show AWl _ _ _ _ _
   iterate 3 refine aN rfl rfl (by constructor) ?_
   refine sE ?_
   show AW _ (.loop _) _ _ _
   refine AW_loopN (fun m t1 H1 => ∃ (j : Nat), m = n.toNat - j ∧ ((j : Int) ≤ n) ∧ t1 3 = .int .u64 (v / 256 ^ j) ∧ t1 12 = .int .i64 (n - 1 - j) ∧ Stt [] H H1 [⟨some b34, true, ⟨true, 5, (putL xs at_ n v j).map (Value.int .u8)⟩⟩]) (n.toNat - 0) ⟨0, rfl, by omega, congrArg (Value.int .u64) (by simp), congrArg (Value.int .i64) (by rw [wi _ (by omega)]; omega), (by rw [putL_zero]; exact (st.sel [0] (by decide)))⟩ [3, 12, 37, 38, 39, 40, 41, 42, 43, 44, 45, 46, 47, 48, 49] (by decide) ?_
   rintro m t1 H1 hk hI
   obtain ⟨j, rfl, hf0, ht3, ht12, st⟩ := hI
   obtain ⟨u, rfl⟩ : ∃ u, t1 = (upd (upd (mix [3, 12, 37, 38, 39, 40, 41, 42, 43, 44, 45, 46, 47, 48, 49] _ u) (some 3) _) (some 12) _) := ⟨t1, by rw [← hk, upd_self ht3, upd_self ht12]⟩
   clear hk ht3 ht12
   show AWl _ _ _ _ _
   iterate 2 refine aN rfl rfl (by constructor) ?_
   refine sE ?_
   show AW _ (.cond _ _ _) _ _ _
   refine cC' rfl (fun h5 => ?_) (fun h5 => ?_)
   ·have hlt : (0 : Int) ≤ n - 1 - j := of_decide_eq_true h5
    show AWl _ _ _ _ _
    iterate 6 refine aN rfl rfl (by constructor) ?_
    refine aIxL rfl rfl (by rw [wi _ (by omega)]; omega) ?_
    refine aStAt st 0 rfl rfl rfl rfl rfl (by rw [wi _ (by omega), List.length_map, putL_len hr (by omega)]; omega) (putStep xs v hr hlt hl) fun H6 st => ?_
    refine sE ?_
    show AWl _ _ _ _ _
    iterate 3 refine aN rfl rfl (by constructor) ?_
    refine sE ?_
    show AWl _ _ _ _ _
    iterate 3 refine aN rfl rfl (by constructor) ?_
    refine sE ?_
    exact ⟨_, by omega, j + 1, rfl, by omega, congrArg (Value.int .u64) (bigNext v j), congrArg (Value.int .i64) (by rw [wi _ (by omega)]; omega), (st.sel [0] (by decide))⟩
   ·have hge : ¬ ((0 : Int) ≤ n - 1 - j) := of_decide_eq_false h5
    have hjn : (j : Int) = n := by omega
    show AWl _ _ _ _ _
    iterate 3 refine aN rfl rfl (by constructor) ?_
    refine sE ?_
    refine ⟨_, out2 (r_tmp rfl (by constructor)) (r_tmp rfl (by constructor)) ⟨rfl, rfl⟩, ?_⟩
    exact ⟨b34, by simp, by have st2 := st.pick 0 rfl; rw [putL_all hr hjn] at st2; exact st2⟩
 ·refine gF rfl (by decide) ?_
  refine gF rfl (by decide) ?_
  refine gF rfl (by decide) ?_
  refine gF rfl (by decide) ?_
  refine gF rfl (by decide) ?_
  refine aN rfl rfl (by constructor) ?_
  refine sE ?_
  show AW _ (.cond _ _ _) _ _ _
  refine cF' rfl ?_
  show AWl _ _ _ _ _
  refine aN rfl rfl (by constructor) ?_
  refine aBinV (.bool false) rfl rfl rfl ?_
  refine sE ?_
  show AW _ (.cond _ _ _) _ _ _
  refine cF' rfl ?_
  show AWl _ _ _ _ _
  refine aMovV x rfl ?_
  have st := st.nil 5
  have hnil : (Value.slice none 0 0) = accV none 0 1 := rfl
  refine aAppP st 0 (ob := none) (n := 0) rfl rfl rfl (by decide) (rfl) (st.slc hx).src (by simp) (by omega) (by omega) (by omega) (NfL.any _) fun b34 H7 st => ?_
  refine aN rfl rfl (by constructor) ?_
  refine sE ?_
  show AWl _ _ _ _ _
  iterate 3 refine aN rfl rfl (by constructor) ?_
  refine sE ?_
  show AW _ (.loop _) _ _ _
  refine AW_loopN (fun m t1 H1 => ∃ (j : Nat), m = n.toNat - j ∧ ((j : Int) ≤ n) ∧ t1 3 = .int .u64 (v / 256 ^ j) ∧ t1 12 = .int .i64 (n - 1 - j) ∧ Stt [] H H1 [⟨some b34, true, ⟨true, 5, (putL xs at_ n v j).map (Value.int .u8)⟩⟩]) (n.toNat - 0) ⟨0, rfl, by omega, congrArg (Value.int .u64) (by simp), congrArg (Value.int .i64) (by rw [wi _ (by omega)]; omega), (by rw [putL_zero]; exact (st.sel [0] (by decide)))⟩ [3, 12, 37, 38, 39, 40, 41, 42, 43, 44, 45, 46, 47, 48, 49] (by decide) ?_
  rintro m t1 H1 hk hI
  obtain ⟨j, rfl, hf0, ht3, ht12, st⟩ := hI
  obtain ⟨u, rfl⟩ : ∃ u, t1 = (upd (upd (mix [3, 12, 37, 38, 39, 40, 41, 42, 43, 44, 45, 46, 47, 48, 49] _ u) (some 3) _) (some 12) _) := ⟨t1, by rw [← hk, upd_self ht3, upd_self ht12]⟩
  clear hk ht3 ht12
  show AWl _ _ _ _ _
  iterate 2 refine aN rfl rfl (by constructor) ?_
  refine sE ?_
  show AW _ (.cond _ _ _) _ _ _
  refine cC' rfl (fun h8 => ?_) (fun h8 => ?_)
  ·have hlt : (0 : Int) ≤ n - 1 - j := of_decide_eq_true h8
   show AWl _ _ _ _ _
   iterate 6 refine aN rfl rfl (by constructor) ?_
   refine aIxL rfl rfl (by rw [wi _ (by omega)]; omega) ?_
   refine aStAt st 0 rfl rfl rfl rfl rfl (by rw [wi _ (by omega), List.length_map, putL_len hr (by omega)]; omega) (putStep xs v hr hlt hl) fun H9 st => ?_
   refine sE ?_
   show AWl _ _ _ _ _
   iterate 3 refine aN rfl rfl (by constructor) ?_
   refine sE ?_
   show AWl _ _ _ _ _
   iterate 3 refine aN rfl rfl (by constructor) ?_
   refine sE ?_
   exact ⟨_, by omega, j + 1, rfl, by omega, congrArg (Value.int .u64) (bigNext v j), congrArg (Value.int .i64) (by rw [wi _ (by omega)]; omega), (st.sel [0] (by decide))⟩
  ·have hge : ¬ ((0 : Int) ≤ n - 1 - j) := of_decide_eq_false h8
   have hjn : (j : Int) = n := by omega
   show AWl _ _ _ _ _
   iterate 3 refine aN rfl rfl (by constructor) ?_
   refine sE ?_
   refine ⟨_, out2 (r_tmp rfl (by constructor)) (r_tmp rfl (by constructor)) ⟨rfl, rfl⟩, ?_⟩
   exact ⟨b34, by simp, by have st2 := st.pick 0 rfl; rw [putL_all hr hjn] at st2; exact st2⟩
end Go.Proofs.Ytloeadlmcdddnaa.Abs
