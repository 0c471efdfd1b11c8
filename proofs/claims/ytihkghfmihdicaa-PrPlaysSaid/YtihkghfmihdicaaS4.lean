/- Shared functions. -/
import Derived.Test.YtihkghfmihdicaaN2
import Derived.Test.YtihkghfmihdicaaC1
set_option linter.unusedVariables false
set_option linter.unusedSimpArgs false
set_option maxRecDepth 100000
namespace Go.Proofs.Ytihkghfmihdicaa.Abs
open Go Go.RowKit
theorem mk0 (n : Nat) : mkCells [Value.int .u8 0] n = (List.replicate n (0 : Int)).map (Value.int .u8) := by
  apply List.ext_getElem
  · simp [mkCells]
  · intro i h1 h2
    simp [mkCells, Nat.mod_one]
theorem bigStep (n j : Nat) (v : Int) (hj : j < n) : ((List.replicate (n - j) 0 ++ beB j v).map (Value.int .u8)).set (0 + ((n : Int) - 1 - j).toNat * 1) (.int .u8 (IntKind.u8.wrap (v / 256 ^ j))) = (List.replicate (n - (j + 1)) 0 ++ beB (j + 1) v).map (Value.int .u8) := by
  rw [show 0 + ((n : Int) - 1 - j).toNat * 1 = n - (j + 1) by omega, show n - j = n - (j + 1) + 1 by omega, List.replicate_succ', List.append_assoc, List.map_append, List.set_append_right _ _ (by simp)]
  simp [beB_cons, w8]
theorem bigNext (v : Int) (j : Nat) : (v / 256 ^ j).fdiv (2 ^ min (8 : Int).toNat IntKind.u64.bits) = v / 256 ^ (j + 1) := by
  rw [shr_eq, show (2 : Int) ^ min (8 : Int).toNat IntKind.u64.bits = 256 by decide, Int.pow_succ, Int.ediv_ediv_of_nonneg (Int.le_of_lt (Int.pow_pos (by decide)))]
theorem big_call {H : Hp} {n : Nat} {v : Int} (hn : n ≤ 1000000) :
  ACalls Try.prog 42 [.int .u64 v, .int .i64 (n : Int)] H (fun v' H' => ∃ b, v' = .slice (some ⟨b, 0, none⟩) n 1 ∧ Stt [] H H' [⟨some b, true, ⟨true, 5, (beB n v).map (Value.int .u8)⟩⟩]) := by
 refine acallsW Try.func42 f42_ok (Nat.le_of_ble_eq_true rfl) fun hw => ?_
 have st : Stt [] H H [] := Stt.start hw
 unfold f42c
 show AWl _ _ _ _ _
 refine aN rfl rfl (by constructor) ?_
 refine sE ?_
 show AWl _ _ _ _ _
 refine aN rfl rfl (by constructor) ?_
 refine aMake (m := n) st rfl rfl rfl (by omega) (by omega) (by omega) fun b8 H1 st => ?_
 rw [show mkCells [Value.int .u8 0] n = (List.replicate n (0 : Int)).map (Value.int .u8) from mk0 n] at st
 rw [show (List.replicate n (0 : Int)) = List.replicate (n - 0) 0 ++ beB 0 v by simp [beB]] at st
 refine aN rfl rfl (by constructor) ?_
 refine sE ?_
 show AWl _ _ _ _ _
 iterate 3 refine aN rfl rfl (by constructor) ?_
 refine sE ?_
 show AW _ (.loop _) _ _ _
 refine AW_loopN (fun m t1 H1 => ∃ (j : Nat), m = n - j ∧ (j ≤ n) ∧ t1 0 = .int .u64 (v / 256 ^ j) ∧ t1 6 = .int .i64 ((n : Int) - 1 - j) ∧ Stt [] H H1 [⟨some b8, true, ⟨true, 5, (List.replicate (n - j) (0 : Int) ++ beB j v).map (Value.int .u8)⟩⟩]) (n - 0) ⟨0, rfl, by omega, congrArg (Value.int .u64) (by simp), congrArg (Value.int .i64) (by rw [wi _ (by omega)]; omega), (st.sel [0] (by decide))⟩ [0, 6, 11, 12, 13, 14, 15, 16, 17, 18, 19, 20, 21] (by decide) ?_
 rintro m t1 H1 hk hI
 obtain ⟨j, rfl, hf0, ht0, ht6, st⟩ := hI
 obtain ⟨u, rfl⟩ : ∃ u, t1 = (upd (upd (mix [0, 6, 11, 12, 13, 14, 15, 16, 17, 18, 19, 20, 21] _ u) (some 0) _) (some 6) _) := ⟨t1, by rw [← hk, upd_self ht0, upd_self ht6]⟩
 clear hk ht0 ht6
 show AWl _ _ _ _ _
 iterate 2 refine aN rfl rfl (by constructor) ?_
 refine sE ?_
 show AW _ (.cond _ _ _) _ _ _
 refine cC' rfl (fun h2 => ?_) (fun h2 => ?_)
 ·have h_in := h2
  replace h_in := of_decide_eq_true h_in
  replace h_in : (0 : Int) ≤ (n : Int) - 1 - j := h_in
  show AWl _ _ _ _ _
  iterate 4 refine aN rfl rfl (by constructor) ?_
  refine aN (v := .pointer (some ⟨b8, 0 + ((n : Int) - 1 - j).toNat * 1, none⟩)) (H' := H1) rfl (e_iadr rfl rfl (by omega)) (by constructor) ?_
  refine aStAt st 0 rfl rfl rfl rfl rfl (by simp [beB_len]; omega) (bigStep n j v (by omega)) fun H3 st => ?_
  refine sE ?_
  show AWl _ _ _ _ _
  iterate 3 refine aN rfl rfl (by constructor) ?_
  refine sE ?_
  show AWl _ _ _ _ _
  iterate 3 refine aN rfl rfl (by constructor) ?_
  refine sE ?_
  exact ⟨_, by omega, j + 1, rfl, by omega, congrArg (Value.int .u64) (bigNext v j), congrArg (Value.int .i64) (by rw [wi _ (by omega)]; omega), (st.sel [0] (by decide))⟩
 ·have h_out : ¬ ((0 : Int) ≤ (n : Int) - 1 - j) := of_decide_eq_false h2
  obtain rfl : j = n := by omega
  show AWl _ _ _ _ _
  iterate 2 refine aN rfl rfl (by constructor) ?_
  refine sE ?_
  refine ⟨_, out1 (r_tmp rfl (by constructor)), ?_⟩
  exact ⟨b8, rfl, by simpa using st.pick 0 rfl⟩
def rfieldE (len : Nat) (at_ n : Int) : Int := if n < 1 ∨ n > 8 then 1 else if at_ < 0 ∨ at_ ≥ len ∨ n > len - at_ then 4 else 0
theorem rfield_call {H : Hp} {len : Nat} {at_ n : Int} (hl : len ≤ 1000000000000000) (ha : -9000000000000000000 ≤ at_ ∧ at_ ≤ 9000000000000000000) :
  ACalls Try.prog 52 [.int .i64 (len : Int), .int .i64 at_, .int .i64 n] H (fun v H' => v = .int .i64 (rfieldE len at_ n) ∧ Stt [] H H' []) := by
 refine acallsW Try.func52 f52_ok (Nat.le_of_ble_eq_true rfl) fun hw => ?_
 have st : Stt [] H H [] := Stt.start hw
 unfold f52c
 show AWl _ _ _ _ _
 refine aN rfl rfl (by constructor) ?_
 refine sE ?_
 show AWl _ _ _ _ _
 iterate 3 refine aN rfl rfl (by constructor) ?_
 refine gCase 9 rfl (fun h1 => ?_) (fun h1 => ?_)
 ·refine gF rfl (by decide) ?_
  refine gF rfl (by decide) ?_
  refine aN rfl rfl (by constructor) ?_
  refine sE ?_
  show AW _ (.cond _ _ _) _ _ _
  refine cT rfl ?_
  show AWl _ _ _ _ _
  refine aN rfl rfl (by constructor) ?_
  refine sE ?_
  refine ⟨_, out1 (r_tmp rfl (by constructor)), ?_⟩
  have hwi := wi ((len : Int) - at_) (by omega)
  simp only [decide_eq_true_eq, decide_eq_false_iff_not, beq_iff_eq, beq_eq_false_iff_ne, bne_iff_ne, bne_eq_false_iff_eq, ne_eq, Decidable.not_not, Bool.not_eq_true, Bool.not_eq_false, gt_iff_lt, ge_iff_le, Int.not_lt, Int.not_le] at h1
  refine ⟨congrArg (Value.int .i64) ?_, st.drop⟩
  unfold rfieldE
  repeat' split
  all_goals first | rfl | omega
 ·refine gT rfl ?_
  refine aN rfl rfl (by constructor) ?_
  refine gT rfl ?_
  iterate 2 refine aN rfl rfl (by constructor) ?_
  refine sE ?_
  show AW _ (.cond _ _ _) _ _ _
  refine cC' rfl (fun h2 => ?_) (fun h2 => ?_)
  ·show AWl _ _ _ _ _
   refine aN rfl rfl (by constructor) ?_
   refine sE ?_
   refine ⟨_, out1 (r_tmp rfl (by constructor)), ?_⟩
   have hwi := wi ((len : Int) - at_) (by omega)
   simp only [decide_eq_true_eq, decide_eq_false_iff_not, beq_iff_eq, beq_eq_false_iff_ne, bne_iff_ne, bne_eq_false_iff_eq, ne_eq, Decidable.not_not, Bool.not_eq_true, Bool.not_eq_false, gt_iff_lt, ge_iff_le, Int.not_lt, Int.not_le] at h1 h2
   refine ⟨congrArg (Value.int .i64) ?_, st.drop⟩
   unfold rfieldE
   repeat' split
   all_goals first | rfl | omega
  ·show AWl _ _ _ _ _
   iterate 3 refine aN rfl rfl (by constructor) ?_
   refine gCase 15 rfl (fun h3 => ?_) (fun h3 => ?_)
   ·refine gF rfl (by decide) ?_
    refine gF rfl (by decide) ?_
    refine gF rfl (by decide) ?_
    iterate 2 refine aN rfl rfl (by constructor) ?_
    refine gF rfl (by decide) ?_
    refine gF rfl (by decide) ?_
    refine gF rfl (by decide) ?_
    refine gF rfl (by decide) ?_
    refine gF rfl (by decide) ?_
    refine aN rfl rfl (by constructor) ?_
    refine sE ?_
    show AW _ (.cond _ _ _) _ _ _
    refine cT rfl ?_
    show AWl _ _ _ _ _
    refine aN rfl rfl (by constructor) ?_
    refine sE ?_
    refine ⟨_, out1 (r_tmp rfl (by constructor)), ?_⟩
    have hwi := wi ((len : Int) - at_) (by omega)
    simp only [decide_eq_true_eq, decide_eq_false_iff_not, beq_iff_eq, beq_eq_false_iff_ne, bne_iff_ne, bne_eq_false_iff_eq, ne_eq, Decidable.not_not, Bool.not_eq_true, Bool.not_eq_false, gt_iff_lt, ge_iff_le, Int.not_lt, Int.not_le] at h1 h2 h3
    refine ⟨congrArg (Value.int .i64) ?_, st.drop⟩
    unfold rfieldE
    repeat' split
    all_goals first | rfl | omega
   ·refine gT rfl ?_
    refine aN rfl rfl (by constructor) ?_
    refine gT rfl ?_
    refine aN rfl rfl (by constructor) ?_
    refine gT rfl ?_
    iterate 3 refine aN rfl rfl (by constructor) ?_
    refine gCase 20 rfl (fun h4 => ?_) (fun h4 => ?_)
    ·refine gF rfl (by decide) ?_
     refine gF rfl (by decide) ?_
     refine gF rfl (by decide) ?_
     refine gF rfl (by decide) ?_
     refine gF rfl (by decide) ?_
     refine aN rfl rfl (by constructor) ?_
     refine sE ?_
     show AW _ (.cond _ _ _) _ _ _
     refine cT rfl ?_
     show AWl _ _ _ _ _
     refine aN rfl rfl (by constructor) ?_
     refine sE ?_
     refine ⟨_, out1 (r_tmp rfl (by constructor)), ?_⟩
     have hwi := wi ((len : Int) - at_) (by omega)
     simp only [decide_eq_true_eq, decide_eq_false_iff_not, beq_iff_eq, beq_eq_false_iff_ne, bne_iff_ne, bne_eq_false_iff_eq, ne_eq, Decidable.not_not, Bool.not_eq_true, Bool.not_eq_false, gt_iff_lt, ge_iff_le, Int.not_lt, Int.not_le] at h1 h2 h3 h4
     refine ⟨congrArg (Value.int .i64) ?_, st.drop⟩
     unfold rfieldE
     repeat' split
     all_goals first | rfl | omega
    ·refine gT rfl ?_
     refine aN rfl rfl (by constructor) ?_
     refine gT rfl ?_
     refine aN rfl rfl (by constructor) ?_
     refine gT rfl ?_
     refine aN rfl rfl (by constructor) ?_
     refine gT rfl ?_
     refine aN rfl rfl (by constructor) ?_
     refine gT rfl ?_
     iterate 2 refine aN rfl rfl (by constructor) ?_
     refine sE ?_
     show AW _ (.cond _ _ _) _ _ _
     refine cC' rfl (fun h5 => ?_) (fun h5 => ?_)
     ·show AWl _ _ _ _ _
      refine aN rfl rfl (by constructor) ?_
      refine sE ?_
      refine ⟨_, out1 (r_tmp rfl (by constructor)), ?_⟩
      have hwi := wi ((len : Int) - at_) (by omega)
      simp only [hwi] at *
      simp only [decide_eq_true_eq, decide_eq_false_iff_not, beq_iff_eq, beq_eq_false_iff_ne, bne_iff_ne, bne_eq_false_iff_eq, ne_eq, Decidable.not_not, Bool.not_eq_true, Bool.not_eq_false, gt_iff_lt, ge_iff_le, Int.not_lt, Int.not_le] at h1 h2 h3 h4 h5
      refine ⟨congrArg (Value.int .i64) ?_, st.drop⟩
      unfold rfieldE
      repeat' split
      all_goals first | rfl | omega
     ·show AWl _ _ _ _ _
      refine aN rfl rfl (by constructor) ?_
      refine sE ?_
      refine ⟨_, out1 (r_tmp rfl (by constructor)), ?_⟩
      have hwi := wi ((len : Int) - at_) (by omega)
      simp only [hwi] at *
      simp only [decide_eq_true_eq, decide_eq_false_iff_not, beq_iff_eq, beq_eq_false_iff_ne, bne_iff_ne, bne_eq_false_iff_eq, ne_eq, Decidable.not_not, Bool.not_eq_true, Bool.not_eq_false, gt_iff_lt, ge_iff_le, Int.not_lt, Int.not_le] at h1 h2 h3 h4 h5
      refine ⟨congrArg (Value.int .i64) ?_, st.drop⟩
      unfold rfieldE
      repeat' split
      all_goals first | rfl | omega
theorem rfieldE_ok {len : Nat} {at_ n : Int} (h : rfieldE len at_ n = 0) : 1 ≤ n ∧ n ≤ 8 ∧ 0 ≤ at_ ∧ at_ + n ≤ len := by
  unfold rfieldE at h
  repeat' split at h
  all_goals omega
def rgetV (xs : List Int) (at_ n : Int) : Int := if rfieldE xs.length at_ n = 0 then beN ((xs.drop at_.toNat).take n.toNat) else 0
theorem getStep {xs : List Int} (hb : ByteL xs) {a i : Nat} (hi : i < 8) (hl : a + i < xs.length) : beN ((xs.drop a).take i) * 256 + xs.getD (a + i) 0 = beN ((xs.drop a).take (i + 1)) ∧ 0 ≤ beN ((xs.drop a).take i) ∧ beN ((xs.drop a).take i) * 256 + xs.getD (a + i) 0 < 18446744073709551616 := by
  have e : (xs.drop a).take (i + 1) = (xs.drop a).take i ++ [xs.getD (a + i) 0] := by
    rw [List.take_add_one, List.getElem?_drop, List.getElem?_eq_getElem hl]
    simp [List.getD, List.getElem?_eq_getElem hl]
  have h1 := beN_nonneg ((hb.drop a).take i)
  have h2 := beN_lt ((hb.drop a).take (i + 1))
  rw [e, beN_append] at h2
  refine ⟨by rw [e, beN_append], h1, ?_⟩
  refine Int.lt_of_lt_of_le h2 ?_
  rw [show ((xs.drop a).take i ++ [xs.getD (a + i) 0]).length = i + 1 by simp; omega]
  have : i = 0 ∨ i = 1 ∨ i = 2 ∨ i = 3 ∨ i = 4 ∨ i = 5 ∨ i = 6 ∨ i = 7 := by omega
  rcases this with h | h | h | h | h | h | h | h <;> subst h <;> decide
theorem rget_call {H : Hp} {xs : List Int} {x : Value} {at_ n : Int} (hx : Sl H 1 xs.length (xs.map (Value.int .u8)) x) (hb : ByteL xs) (hl : xs.length ≤ 1000000000000000) (ha : -9000000000000000000 ≤ at_ ∧ at_ ≤ 9000000000000000000) :
  ACalls Try.prog 51 [x, .int .i64 at_, .int .i64 n] H (fun v H' => v = .tuple #[.int .u64 (rgetV xs at_ n), .int .i64 (rfieldE xs.length at_ n)] ∧ Stt [] H H' []) := by
 refine acallsW Try.func51 f51_ok (Nat.le_of_ble_eq_true rfl) fun hw => ?_
 have st : Stt [] H H [] := Stt.start hw
 unfold f51c
 show AWl _ _ _ _ _
 iterate 2 refine aN rfl rfl (by constructor) ?_
 refine sE ?_
 show AWl _ _ _ _ _
 refine aMovV x rfl ?_
 refine aLen (st.slc hx) rfl ?_
 iterate 2 refine aN rfl rfl (by constructor) ?_
 refine aC (rfield_call hl ha) fun v15 H1 ⟨hv, st1⟩ => ?_
 subst hv
 replace st := st.call st1 rfl
 clear st1
 refine aN rfl rfl (by constructor) ?_
 refine sE ?_
 show AWl _ _ _ _ _
 iterate 2 refine aN rfl rfl (by constructor) ?_
 refine sE ?_
 show AW _ (.cond _ _ _) _ _ _
 refine cC' rfl (fun h2 => ?_) (fun h2 => ?_)
 ·show AWl _ _ _ _ _
  iterate 3 refine aN rfl rfl (by constructor) ?_
  refine sE ?_
  refine ⟨_, out2 (r_tmp rfl (by constructor)) (r_tmp rfl (by constructor)) ⟨rfl, rfl⟩, ?_⟩
  have hf : ¬ rfieldE xs.length at_ n = 0 := by simpa using h2
  exact ⟨by unfold rgetV; rw [if_neg hf], st.drop⟩
 ·show AWl _ _ _ _ _
  refine aN rfl rfl (by constructor) ?_
  refine sE ?_
  show AWl _ _ _ _ _
  refine aN rfl rfl (by constructor) ?_
  refine sE ?_
  show AW _ (.loop _) _ _ _
  have hf : rfieldE xs.length at_ n = 0 := by simpa using h2
  have hr := rfieldE_ok hf
  refine AW_loopN (fun m t1 H1 => ∃ (i : Nat), m = n.toNat - i ∧ ((i : Int) ≤ n) ∧ t1 9 = .int .u64 (beN ((xs.drop at_.toNat).take i)) ∧ t1 10 = .int .i64 (i : Int) ∧ Stt [] H H1 []) (n.toNat - 0) ⟨0, rfl, by omega, rfl, rfl, (st.sel [] (by decide))⟩ [9, 10, 19, 20, 21, 22, 23, 24, 25, 26, 27, 28, 29, 30, 31, 32, 33] (by decide) ?_
  rintro m t1 H1 hk hI
  obtain ⟨i, rfl, hf0, ht9, ht10, st⟩ := hI
  obtain ⟨u, rfl⟩ : ∃ u, t1 = (upd (upd (mix [9, 10, 19, 20, 21, 22, 23, 24, 25, 26, 27, 28, 29, 30, 31, 32, 33] _ u) (some 9) _) (some 10) _) := ⟨t1, by rw [← hk, upd_self ht9, upd_self ht10]⟩
  clear hk ht9 ht10
  show AWl _ _ _ _ _
  iterate 3 refine aN rfl rfl (by constructor) ?_
  refine sE ?_
  show AW _ (.cond _ _ _) _ _ _
  refine cC' rfl (fun h3 => ?_) (fun h3 => ?_)
  ·have hlt : (i : Int) < n := of_decide_eq_true h3
   obtain ⟨q1, q2, q3⟩ := getStep hb (a := at_.toNat) (i := i) (by omega) (by omega)
   have hstep : IntKind.u64.wrap (IntKind.u64.wrap (beN ((xs.drop at_.toNat).take i) * 256) + IntKind.u64.wrap (xs.getD (IntKind.i64.wrap (at_ + i)).toNat 0)) = beN ((xs.drop at_.toNat).take (i + 1)) := by
    rw [wi _ (by omega), show (at_ + (i : Int)).toNat = at_.toNat + i by omega, ← q1, w64, w64, w64]
    have := hb.getD (at_.toNat + i)
    omega
   show AWl _ _ _ _ _
   iterate 2 refine aN rfl rfl (by constructor) ?_
   refine aMovV x rfl ?_
   iterate 3 refine aN rfl rfl (by constructor) ?_
   refine aIxB (st.slc hx) rfl rfl (by rw [wi _ (by omega)]; omega) fun b30 o30 g30 => ?_
   refine aLdG rfl g30 ?_
   iterate 3 refine aN rfl rfl (by constructor) ?_
   refine sE ?_
   show AWl _ _ _ _ _
   iterate 3 refine aN rfl rfl (by constructor) ?_
   refine sE ?_
   exact ⟨_, by omega, i + 1, rfl, by omega, congrArg (Value.int .u64) hstep, congrArg (Value.int .i64) (wi _ (by omega)), (st.sel [] (by decide))⟩
  ·have hge : ¬ ((i : Int) < n) := of_decide_eq_false h3
   obtain rfl : n = (i : Int) := by omega
   show AWl _ _ _ _ _
   iterate 3 refine aN rfl rfl (by constructor) ?_
   refine sE ?_
   refine ⟨_, out2 (r_tmp rfl (by constructor)) (r_tmp rfl (by constructor)) ⟨rfl, rfl⟩, ?_⟩
   exact ⟨by unfold rgetV; rw [if_pos hf, hf]; rfl, st.drop⟩
theorem rnum_call {H : Hp} {xs : List Int} {x : Value} {at_ n : Int} (hx : Sl H 1 xs.length (xs.map (Value.int .u8)) x) (hb : ByteL xs) (hl : xs.length ≤ 1000000000000000) (ha : -9000000000000000000 ≤ at_ ∧ at_ ≤ 9000000000000000000) :
  ACalls Try.prog 37 [x, .int .i64 at_, .int .i64 n] H (fun v H' => v = .int .u64 (rgetV xs at_ n) ∧ Stt [] H H' []) := by
 refine acallsW Try.func37 f37_ok (Nat.le_of_ble_eq_true rfl) fun hw => ?_
 have st : Stt [] H H [] := Stt.start hw
 unfold f37c
 show AWl _ _ _ _ _
 refine aN rfl rfl (by constructor) ?_
 refine sE ?_
 show AWl _ _ _ _ _
 refine aMovV x rfl ?_
 iterate 2 refine aN rfl rfl (by constructor) ?_
 refine aC (rget_call (st.slc hx) hb hl ha) fun v13 H1 ⟨hv, st1⟩ => ?_
 subst hv
 replace st := st.call st1 rfl
 clear st1
 iterate 5 refine aN rfl rfl (by constructor) ?_
 refine sE ?_
 show AWl _ _ _ _ _
 iterate 2 refine aN rfl rfl (by constructor) ?_
 refine sE ?_
 refine ⟨_, out1 (r_tmp rfl (by constructor)), ?_⟩
 exact ⟨rfl, st.drop⟩
theorem field_call {H : Hp} {xs : List Int} {x : Value} {at_ n : Int} (hx : Sl H 1 xs.length (xs.map (Value.int .u8)) x) (hl : xs.length ≤ 1000000000000000) (hn : -9000000000000000000 ≤ n ∧ n ≤ 9000000000000000000) :
  ACalls Try.prog 50 [x, .int .i64 at_, .int .i64 n] H (fun v H' => v = .int .i64 (rfieldE xs.length at_ n) ∧ Stt [] H H' []) := by
 refine acallsW Try.func50 f50_ok (Nat.le_of_ble_eq_true rfl) fun hw => ?_
 have st : Stt [] H H [] := Stt.start hw
 unfold f50c
 show AWl _ _ _ _ _
 refine aN rfl rfl (by constructor) ?_
 refine sE ?_
 show AWl _ _ _ _ _
 iterate 3 refine aN rfl rfl (by constructor) ?_
 refine gCase 10 rfl (fun h1 => ?_) (fun h1 => ?_)
 ·refine gF rfl (by decide) ?_
  refine gF rfl (by decide) ?_
  iterate 2 refine aN rfl rfl (by constructor) ?_
  refine sE ?_
  show AW _ (.cond _ _ _) _ _ _
  refine cT rfl ?_
  show AWl _ _ _ _ _
  refine aN rfl rfl (by constructor) ?_
  refine sE ?_
  refine ⟨_, out1 (r_tmp rfl (by constructor)), ?_⟩
  simp only [decide_eq_true_eq, decide_eq_false_iff_not, beq_iff_eq, beq_eq_false_iff_ne, bne_iff_ne, bne_eq_false_iff_eq, ne_eq, Decidable.not_not, Bool.not_eq_true, Bool.not_eq_false, gt_iff_lt, ge_iff_le, Int.not_lt, Int.not_le] at h1
  refine ⟨congrArg (Value.int .i64) ?_, st.drop⟩
  unfold rfieldE
  repeat' split
  all_goals first | rfl | omega
 ·refine gT rfl ?_
  refine aN rfl rfl (by constructor) ?_
  refine gT rfl ?_
  iterate 3 refine aN rfl rfl (by constructor) ?_
  refine sE ?_
  show AW _ (.cond _ _ _) _ _ _
  refine cC' rfl (fun h2 => ?_) (fun h2 => ?_)
  ·show AWl _ _ _ _ _
   refine aN rfl rfl (by constructor) ?_
   refine sE ?_
   refine ⟨_, out1 (r_tmp rfl (by constructor)), ?_⟩
   simp only [decide_eq_true_eq, decide_eq_false_iff_not, beq_iff_eq, beq_eq_false_iff_ne, bne_iff_ne, bne_eq_false_iff_eq, ne_eq, Decidable.not_not, Bool.not_eq_true, Bool.not_eq_false, gt_iff_lt, ge_iff_le, Int.not_lt, Int.not_le] at h1 h2
   refine ⟨congrArg (Value.int .i64) ?_, st.drop⟩
   unfold rfieldE
   repeat' split
   all_goals first | rfl | omega
  ·show AWl _ _ _ _ _
   iterate 3 refine aN rfl rfl (by constructor) ?_
   refine gCase 17 rfl (fun h3 => ?_) (fun h3 => ?_)
   ·refine gF rfl (by decide) ?_
    refine gF rfl (by decide) ?_
    refine gF rfl (by decide) ?_
    refine gF rfl (by decide) ?_
    refine gF rfl (by decide) ?_
    refine gF rfl (by decide) ?_
    iterate 2 refine aN rfl rfl (by constructor) ?_
    refine sE ?_
    show AW _ (.cond _ _ _) _ _ _
    refine cT rfl ?_
    show AWl _ _ _ _ _
    refine aN rfl rfl (by constructor) ?_
    refine sE ?_
    refine ⟨_, out1 (r_tmp rfl (by constructor)), ?_⟩
    simp only [decide_eq_true_eq, decide_eq_false_iff_not, beq_iff_eq, beq_eq_false_iff_ne, bne_iff_ne, bne_eq_false_iff_eq, ne_eq, Decidable.not_not, Bool.not_eq_true, Bool.not_eq_false, gt_iff_lt, ge_iff_le, Int.not_lt, Int.not_le] at h1 h2 h3
    refine ⟨congrArg (Value.int .i64) ?_, st.drop⟩
    unfold rfieldE
    repeat' split
    all_goals first | rfl | omega
   ·refine gT rfl ?_
    refine aN rfl rfl (by constructor) ?_
    refine gT rfl ?_
    refine aMovV x rfl ?_
    refine gT rfl ?_
    refine aLen (st.slc hx) rfl ?_
    refine gT rfl ?_
    refine aN rfl rfl (by constructor) ?_
    refine gT rfl ?_
    refine aN rfl rfl (by constructor) ?_
    refine gT rfl ?_
    iterate 3 refine aN rfl rfl (by constructor) ?_
    refine sE ?_
    show AW _ (.cond _ _ _) _ _ _
    refine cC' rfl (fun h4 => ?_) (fun h4 => ?_)
    ·show AWl _ _ _ _ _
     refine aN rfl rfl (by constructor) ?_
     refine sE ?_
     refine ⟨_, out1 (r_tmp rfl (by constructor)), ?_⟩
     have hwi := wi ((xs.length : Int) - n) (by omega)
     simp only [hwi] at *
     simp only [decide_eq_true_eq, decide_eq_false_iff_not, beq_iff_eq, beq_eq_false_iff_ne, bne_iff_ne, bne_eq_false_iff_eq, ne_eq, Decidable.not_not, Bool.not_eq_true, Bool.not_eq_false, gt_iff_lt, ge_iff_le, Int.not_lt, Int.not_le] at h1 h2 h3 h4
     refine ⟨congrArg (Value.int .i64) ?_, st.drop⟩
     unfold rfieldE
     repeat' split
     all_goals first | rfl | omega
    ·show AWl _ _ _ _ _
     refine aN rfl rfl (by constructor) ?_
     refine sE ?_
     refine ⟨_, out1 (r_tmp rfl (by constructor)), ?_⟩
     have hwi := wi ((xs.length : Int) - n) (by omega)
     simp only [hwi] at *
     simp only [decide_eq_true_eq, decide_eq_false_iff_not, beq_iff_eq, beq_eq_false_iff_ne, bne_iff_ne, bne_eq_false_iff_eq, ne_eq, Decidable.not_not, Bool.not_eq_true, Bool.not_eq_false, gt_iff_lt, ge_iff_le, Int.not_lt, Int.not_le] at h1 h2 h3 h4
     refine ⟨congrArg (Value.int .i64) ?_, st.drop⟩
     unfold rfieldE
     repeat' split
     all_goals first | rfl | omega
theorem getD_drop {l : List Int} {n i : Nat} : (l.drop n).getD i 0 = l.getD (n + i) 0 := by simp [List.getD]
theorem getD_take {l : List Int} {n i : Nat} (h : i < n) : (l.take n).getD i 0 = l.getD i 0 := by simp [List.getD, List.getElem?_take, h]
theorem get_call {H : Hp} {xs : List Int} {x : Value} {at_ n : Int} (hx : Sl H 1 xs.length (xs.map (Value.int .u8)) x) (hb : ByteL xs) (hl : xs.length ≤ 1000000000000000) (hn : -9000000000000000000 ≤ n ∧ n ≤ 9000000000000000000) :
  ACalls Try.prog 36 [x, .int .i64 at_, .int .i64 n] H (fun v H' => v = .tuple #[.int .u64 (rgetV xs at_ n), .int .i64 (rfieldE xs.length at_ n)] ∧ Stt [] H H' []) := by
 refine acallsW Try.func36 f36_ok (Nat.le_of_ble_eq_true rfl) fun hw => ?_
 have st : Stt [] H H [] := Stt.start hw
 unfold f36c
 show AWl _ _ _ _ _
 iterate 2 refine aN rfl rfl (by constructor) ?_
 refine sE ?_
 show AWl _ _ _ _ _
 refine aMovV x rfl ?_
 iterate 2 refine aN rfl rfl (by constructor) ?_
 refine aC (field_call (st.slc hx) hl hn) fun v15 H1 ⟨hv, st1⟩ => ?_
 subst hv
 replace st := st.call st1 rfl
 clear st1
 refine aN rfl rfl (by constructor) ?_
 refine sE ?_
 show AWl _ _ _ _ _
 iterate 2 refine aN rfl rfl (by constructor) ?_
 refine sE ?_
 show AW _ (.cond _ _ _) _ _ _
 refine cC' rfl (fun h2 => ?_) (fun h2 => ?_)
 ·show AWl _ _ _ _ _
  iterate 3 refine aN rfl rfl (by constructor) ?_
  refine sE ?_
  refine ⟨_, out2 (r_tmp rfl (by constructor)) (r_tmp rfl (by constructor)) ⟨rfl, rfl⟩, ?_⟩
  have hf : ¬ rfieldE xs.length at_ n = 0 := by simpa using h2
  exact ⟨by unfold rgetV; rw [if_neg hf], st.drop⟩
 ·have hf : rfieldE xs.length at_ n = 0 := by simpa using h2
  have hr := rfieldE_ok hf
  show AWl _ _ _ _ _
  refine aN rfl rfl (by constructor) ?_
  refine sE ?_
  show AWl _ _ _ _ _
  refine aMovV x rfl ?_
  iterate 4 refine aN rfl rfl (by constructor) ?_
  refine aCutLH (st.slc hx) rfl rfl rfl (by rw [wi _ (by omega)]; omega) fun v24 s24 => ?_
  replace s24 := s24 _ hx
  refine aLen (st.slc s24) rfl ?_
  refine aN rfl rfl (by constructor) ?_
  refine sE ?_
  show AW _ (.loop _) _ _ _
  refine AW_loopN (fun m t1 H1 => ∃ (i : Nat), m = n.toNat - i ∧ ((i : Int) ≤ n) ∧ t1 9 = .int .u64 (beN ((xs.drop at_.toNat).take i)) ∧ t1 26 = .int .i64 (i : Int) ∧ Stt [] H H1 []) (n.toNat - 0) ⟨0, rfl, by omega, rfl, rfl, (st.sel [] (by decide))⟩ [9, 11, 26, 27, 28, 29, 30, 31, 32, 33, 34, 35] (by decide) ?_
  rintro m t1 H1 hk hI
  obtain ⟨i, rfl, hf0, ht9, ht26, st⟩ := hI
  obtain ⟨u, rfl⟩ : ∃ u, t1 = (upd (upd (mix [9, 11, 26, 27, 28, 29, 30, 31, 32, 33, 34, 35] _ u) (some 9) _) (some 26) _) := ⟨t1, by rw [← hk, upd_self ht9, upd_self ht26]⟩
  clear hk ht9 ht26
  show AWl _ _ _ _ _
  refine aN rfl rfl (by constructor) ?_
  refine sE ?_
  show AW _ (.cond _ _ _) _ _ _
  refine cC' rfl (fun h3 => ?_) (fun h3 => ?_)
  ·have e1 : (IntKind.i64.wrap (at_ + n)).toNat - at_.toNat = n.toNat := by rw [wi _ (by omega)]; omega
   have hlt : (i : Int) < n := by have := of_decide_eq_true h3; rw [e1] at this; omega
   obtain ⟨q1, q2, q3⟩ := getStep hb (a := at_.toNat) (i := i) (by omega) (by omega)
   have hb1 := hb.getD (at_.toNat + i)
   have hstep : bits .or .u64 (IntKind.u64.wrap (beN ((xs.drop at_.toNat).take i) * 2 ^ min (8 : Int).toNat IntKind.u64.bits)) (IntKind.u64.wrap (((xs.drop at_.toNat).take ((IntKind.i64.wrap (at_ + n)).toNat - at_.toNat)).getD ((i : Int)).toNat 0)) = beN ((xs.drop at_.toNat).take (i + 1)) := by
    rw [e1, getD_take (by omega), getD_drop, show ((i : Int)).toNat = i from rfl, show (2 : Int) ^ min (8 : Int).toNat IntKind.u64.bits = 256 by decide, ← q1, w64, w64]
    rw [or_add 8 (.inr (.inr (.inr rfl))) (by omega) (by omega) (by rw [show (2 : Int) ^ 8 = 256 by decide]; omega) (by rw [show (2 : Int) ^ 8 = 256 by decide]; omega) (by rw [show (2 : Int) ^ IntKind.u64.bits = 18446744073709551616 by decide]; omega)]
    omega
   show AWl _ _ _ _ _
   refine aIxB (st.slc s24) rfl rfl (by rw [wi _ (by omega)] at *; omega) fun b28 o28 g28 => ?_
   refine aLdG rfl g28 ?_
   refine aN rfl rfl (by constructor) ?_
   refine sE ?_
   show AWl _ _ _ _ _
   iterate 6 refine aN rfl rfl (by constructor) ?_
   refine sE ?_
   show AWl _ _ _ _ _
   iterate 2 refine aN rfl rfl (by constructor) ?_
   refine sE ?_
   exact ⟨_, by omega, i + 1, rfl, by omega, congrArg (Value.int .u64) hstep, congrArg (Value.int .i64) (wi _ (by omega)), (st.sel [] (by decide))⟩
  ·have e1 : (IntKind.i64.wrap (at_ + n)).toNat - at_.toNat = n.toNat := by rw [wi _ (by omega)]; omega
   have hge : n = (i : Int) := by have := of_decide_eq_false h3; rw [e1] at this; omega
   subst hge
   show AWl _ _ _ _ _
   iterate 3 refine aN rfl rfl (by constructor) ?_
   refine sE ?_
   refine ⟨_, out2 (r_tmp rfl (by constructor)) (r_tmp rfl (by constructor)) ⟨rfl, rfl⟩, ?_⟩
   exact ⟨by unfold rgetV; rw [if_pos hf, hf]; rfl, st.drop⟩
theorem field_ok {H : Hp} {xs : List Int} {x : Value} {at_ n : Int} (hx : Sl H 1 xs.length (xs.map (Value.int .u8)) x) (hl : xs.length ≤ 1000000000000000) (hr : 1 ≤ n ∧ n ≤ 8 ∧ 0 ≤ at_ ∧ at_ + n ≤ xs.length) : ACalls Try.prog 50 [x, .int .i64 at_, .int .i64 n] H (fun v H' => v = .int .i64 0 ∧ Stt [] H H' []) := by
  refine (field_call hx hl (by omega)).mono fun v H' ⟨h, st⟩ => ⟨?_, st⟩
  rw [h]
  congr 1
  unfold rfieldE
  rw [if_neg (by omega), if_neg (by omega)]
theorem putZero {n v : Int} (hn : 1 ≤ n) (h8 : n ≤ 8) (hv : 0 ≤ v ∧ v < 256 ^ n.toNat) : v.fdiv (2 ^ min (IntKind.i64.wrap (8 * n)).toNat IntKind.u64.bits) = 0 := by
  rw [shr_eq, wi _ (by omega)]
  have h64 : IntKind.u64.bits = 64 := rfl
  have hm : min (8 * n).toNat IntKind.u64.bits = 8 * n.toNat := by omega
  rw [hm, Int.pow_mul]
  exact Int.ediv_eq_zero_of_lt hv.1 (by simpa using hv.2)
/-- Bytes with the lowest j bytes of a number laid in. -/
def putL (xs : List Int) (at_ n v : Int) (j : Nat) : List Int := xs.take (at_.toNat + n.toNat - j) ++ beB j v ++ xs.drop (at_.toNat + n.toNat)
theorem putL_len {xs : List Int} {at_ n v : Int} {j : Nat} (hr : 1 ≤ n ∧ n ≤ 8 ∧ 0 ≤ at_ ∧ at_ + n ≤ xs.length) (hj : (j : Int) ≤ n) : (putL xs at_ n v j).length = xs.length := by
  simp [putL, beB_len]
  omega
theorem putL_zero {xs : List Int} {at_ n v : Int} : putL xs at_ n v 0 = xs := by simp [putL, beB]
theorem putL_all {xs : List Int} {at_ n v : Int} {j : Nat} (hr : 1 ≤ n ∧ n ≤ 8 ∧ 0 ≤ at_ ∧ at_ + n ≤ xs.length) (hj : (j : Int) = n) : putL xs at_ n v j = xs.take at_.toNat ++ beB n.toNat v ++ xs.drop (at_.toNat + n.toNat) := by
  have : j = n.toNat := by omega
  subst this
  simp [putL]
theorem putStep (xs : List Int) {at_ n : Int} (v : Int) {j : Nat} (hr : 1 ≤ n ∧ n ≤ 8 ∧ 0 ≤ at_ ∧ at_ + n ≤ xs.length) (hj : (0 : Int) ≤ n - 1 - j) (hL : xs.length ≤ 140737488351232) : ((putL xs at_ n v j).map (Value.int .u8)).set (0 + (IntKind.i64.wrap (at_ + (n - 1 - j))).toNat * 1) (.int .u8 (IntKind.u8.wrap (v / 256 ^ j))) = (putL xs at_ n v (j + 1)).map (Value.int .u8) := by
  have hb := hL
  · rw [wi _ (by omega)]
    have e : 0 + (at_ + (n - 1 - j)).toNat * 1 = at_.toNat + n.toNat - (j + 1) := by omega
    have hlt : at_.toNat + n.toNat - (j + 1) < xs.length := by omega
    have e2 : xs.take (at_.toNat + n.toNat - j) = xs.take (at_.toNat + n.toNat - (j + 1)) ++ [xs[at_.toNat + n.toNat - (j + 1)]] := by
      rw [show at_.toNat + n.toNat - j = at_.toNat + n.toNat - (j + 1) + 1 by omega, List.take_succ_eq_append_getElem hlt]
    have hl : (xs.take (at_.toNat + n.toNat - (j + 1))).length = at_.toNat + n.toNat - (j + 1) := by rw [List.length_take]; omega
    rw [e]
    unfold putL
    rw [e2, beB_cons, w8]
    generalize xs.take (at_.toNat + n.toNat - (j + 1)) = A at *
    generalize xs[at_.toNat + n.toNat - (j + 1)] = z
    rw [← hl]
    simp only [List.map_append, List.map_cons, List.map_nil, List.append_assoc]
    rw [List.set_append_right _ _ (by simp)]
    simp
theorem put_call {H : Hp} {xs : List Int} {x : Value} {at_ n v : Int} (hx : Sl H 1 xs.length (xs.map (Value.int .u8)) x) (hb : ByteL xs) (hl : xs.length ≤ 140737488351232) (hr : 1 ≤ n ∧ n ≤ 8 ∧ 0 ≤ at_ ∧ at_ + n ≤ xs.length) (hv : 0 ≤ v ∧ v < 256 ^ n.toNat) :
  ACalls Try.prog 35 [x, .int .i64 at_, .int .i64 n, .int .u64 v] H (fun v' H' => ∃ b, v' = .tuple #[.slice (some ⟨b, 0, none⟩) xs.length 1, .int .i64 0] ∧ Stt [] H H' [⟨some b, true, ⟨true, 5, (xs.take at_.toNat ++ beB n.toNat v ++ xs.drop (at_.toNat + n.toNat)).map (Value.int .u8)⟩⟩]) := by
 refine acallsW Try.func35 f35_ok (Nat.le_of_ble_eq_true rfl) fun hw => ?_
 have st : Stt [] H H [] := Stt.start hw
 unfold f35c
 show AWl _ _ _ _ _
 iterate 2 refine aN rfl rfl (by constructor) ?_
 refine sE ?_
 show AWl _ _ _ _ _
 refine aMovV x rfl ?_
 iterate 2 refine aN rfl rfl (by constructor) ?_
 refine aC (field_ok (st.slc hx) (by omega) hr) fun v16 H1 ⟨hv, st1⟩ => ?_
 subst hv
 replace st := st.call st1 rfl
 clear st1
 refine aN rfl rfl (by constructor) ?_
 refine sE ?_
 show AWl _ _ _ _ _
 refine aN rfl rfl (by constructor) ?_
 refine aBinV (.bool true) rfl rfl rfl ?_
 refine aN rfl rfl (by constructor) ?_
 refine gT rfl ?_
 refine aN rfl rfl (by constructor) ?_
 refine gT rfl ?_
 iterate 3 refine aN rfl rfl (by constructor) ?_
 refine gCase 23 rfl (fun h2 => ?_) (fun h2 => ?_)
 ·refine gT rfl ?_
  refine aN rfl rfl (by constructor) ?_
  refine gT rfl ?_
  refine aN rfl rfl (by constructor) ?_
  refine gT rfl ?_
  refine aN rfl rfl (by constructor) ?_
  refine gT rfl ?_
  refine aN rfl (e_shr rfl rfl (by rw [wi _ (by omega)]; omega)) (by constructor) ?_
  refine gT rfl ?_
  iterate 2 refine aN rfl rfl (by constructor) ?_
  refine sE ?_
  show AW _ (.cond _ _ _) _ _ _
  refine cC' rfl (fun h3 => ?_) (fun h3 => ?_)
  ·exact absurd h3 (by rw [putZero hr.1 (by omega) hv]; decide)
  ·show AWl _ _ _ _ _
   refine aN rfl rfl (by constructor) ?_
   refine aBinV (.bool false) rfl rfl rfl ?_
   refine sE ?_
   show AW _ (.cond _ _ _) _ _ _
   refine cF' rfl ?_
   show AWl _ _ _ _ _
   refine aMovV x rfl ?_
   have st := st.nil 5
   have hnil : (Value.slice none 0 0) = accV none 0 1 := rfl
   refine aAppP st 0 (ob := none) (n := 0) rfl rfl rfl (by decide) (rfl) (st.slc hx).src (by simp) (by omega) (by omega) (by omega) (NfL.any _) fun b34 H4 st => ?_
   refine aN rfl rfl (by constructor) ?_
   refine sE ?_
   show AWl _ _ _ _ _
   iterate 3 refine aN rfl rfl (by constructor) ?_
   refine sE ?_
   show AW _ (.loop _) _ _ _
   refine AW_loopN (fun m t1 H1 => ∃ (j : Nat), m = n.toNat - j ∧ ((j : Int) ≤ n) ∧ t1 3 = .int .u64 (v / 256 ^ j) ∧ t1 12 = .int .i64 (n - 1 - j) ∧ Stt [] H H1 [⟨some b34, true, ⟨true, 5, (putL xs at_ n v j).map (Value.int .u8)⟩⟩]) (n.toNat - 0) ⟨0, rfl, by omega, congrArg (Value.int .u64) (by simp), congrArg (Value.int .i64) (by rw [wi _ (by omega)]; omega), (by rw [putL_zero]; exact (st.sel [0] (by decide)))⟩ [3, 12, 37, 38, 39, 40, 41, 42, 43, 44, 45, 46, 47, 48, 49] (by decide) ?_
   rintro m t1 H1 hk hI
   obtain ⟨j, rfl, hf0, ht3, ht12, st⟩ := hI
   obtain ⟨u, rfl⟩ : ∃ u, t1 = (upd (upd (mix [3, 12, 37, 38, 39, 40, 41, 42, 43, 44, 45, 46, 47, 48, 49] _ u) (some 3) _) (some 12) _) := ⟨t1, by rw [← hk, upd_self ht3, upd_self ht12]⟩
   clear hk ht3 ht12
   show AWl _ _ _ _ _
   iterate 2 refine aN rfl rfl (by constructor) ?_
   refine sE ?_
   show AW _ (.cond _ _ _) _ _ _
   refine cC' rfl (fun h5 => ?_) (fun h5 => ?_)
   ·have hlt : (0 : Int) ≤ n - 1 - j := of_decide_eq_true h5
    show AWl _ _ _ _ _
    iterate 6 refine aN rfl rfl (by constructor) ?_
    refine aIxL rfl rfl (by rw [wi _ (by omega)]; omega) ?_
    refine aStAt st 0 rfl rfl rfl rfl rfl (by rw [wi _ (by omega), List.length_map, putL_len hr (by omega)]; omega) (putStep xs v hr hlt hl) fun H6 st => ?_
    refine sE ?_
    show AWl _ _ _ _ _
    iterate 3 refine aN rfl rfl (by constructor) ?_
    refine sE ?_
    show AWl _ _ _ _ _
    iterate 3 refine aN rfl rfl (by constructor) ?_
    refine sE ?_
    exact ⟨_, by omega, j + 1, rfl, by omega, congrArg (Value.int .u64) (bigNext v j), congrArg (Value.int .i64) (by rw [wi _ (by omega)]; omega), (st.sel [0] (by decide))⟩
   ·have hge : ¬ ((0 : Int) ≤ n - 1 - j) := of_decide_eq_false h5
    have hjn : (j : Int) = n := by omega
    show AWl _ _ _ _ _
    iterate 3 refine aN rfl rfl (by constructor) ?_
    refine sE ?_
    refine ⟨_, out2 (r_tmp rfl (by constructor)) (r_tmp rfl (by constructor)) ⟨rfl, rfl⟩, ?_⟩
    exact ⟨b34, by simp, by have st2 := st.pick 0 rfl; rw [putL_all hr hjn] at st2; exact st2⟩
 ·refine gF rfl (by decide) ?_
  refine gF rfl (by decide) ?_
  refine gF rfl (by decide) ?_
  refine gF rfl (by decide) ?_
  refine gF rfl (by decide) ?_
  refine aN rfl rfl (by constructor) ?_
  refine sE ?_
  show AW _ (.cond _ _ _) _ _ _
  refine cF' rfl ?_
  show AWl _ _ _ _ _
  refine aN rfl rfl (by constructor) ?_
  refine aBinV (.bool false) rfl rfl rfl ?_
  refine sE ?_
  show AW _ (.cond _ _ _) _ _ _
  refine cF' rfl ?_
  show AWl _ _ _ _ _
  refine aMovV x rfl ?_
  have st := st.nil 5
  have hnil : (Value.slice none 0 0) = accV none 0 1 := rfl
  refine aAppP st 0 (ob := none) (n := 0) rfl rfl rfl (by decide) (rfl) (st.slc hx).src (by simp) (by omega) (by omega) (by omega) (NfL.any _) fun b34 H7 st => ?_
  refine aN rfl rfl (by constructor) ?_
  refine sE ?_
  show AWl _ _ _ _ _
  iterate 3 refine aN rfl rfl (by constructor) ?_
  refine sE ?_
  show AW _ (.loop _) _ _ _
  refine AW_loopN (fun m t1 H1 => ∃ (j : Nat), m = n.toNat - j ∧ ((j : Int) ≤ n) ∧ t1 3 = .int .u64 (v / 256 ^ j) ∧ t1 12 = .int .i64 (n - 1 - j) ∧ Stt [] H H1 [⟨some b34, true, ⟨true, 5, (putL xs at_ n v j).map (Value.int .u8)⟩⟩]) (n.toNat - 0) ⟨0, rfl, by omega, congrArg (Value.int .u64) (by simp), congrArg (Value.int .i64) (by rw [wi _ (by omega)]; omega), (by rw [putL_zero]; exact (st.sel [0] (by decide)))⟩ [3, 12, 37, 38, 39, 40, 41, 42, 43, 44, 45, 46, 47, 48, 49] (by decide) ?_
  rintro m t1 H1 hk hI
  obtain ⟨j, rfl, hf0, ht3, ht12, st⟩ := hI
  obtain ⟨u, rfl⟩ : ∃ u, t1 = (upd (upd (mix [3, 12, 37, 38, 39, 40, 41, 42, 43, 44, 45, 46, 47, 48, 49] _ u) (some 3) _) (some 12) _) := ⟨t1, by rw [← hk, upd_self ht3, upd_self ht12]⟩
  clear hk ht3 ht12
  show AWl _ _ _ _ _
  iterate 2 refine aN rfl rfl (by constructor) ?_
  refine sE ?_
  show AW _ (.cond _ _ _) _ _ _
  refine cC' rfl (fun h8 => ?_) (fun h8 => ?_)
  ·have hlt : (0 : Int) ≤ n - 1 - j := of_decide_eq_true h8
   show AWl _ _ _ _ _
   iterate 6 refine aN rfl rfl (by constructor) ?_
   refine aIxL rfl rfl (by rw [wi _ (by omega)]; omega) ?_
   refine aStAt st 0 rfl rfl rfl rfl rfl (by rw [wi _ (by omega), List.length_map, putL_len hr (by omega)]; omega) (putStep xs v hr hlt hl) fun H9 st => ?_
   refine sE ?_
   show AWl _ _ _ _ _
   iterate 3 refine aN rfl rfl (by constructor) ?_
   refine sE ?_
   show AWl _ _ _ _ _
   iterate 3 refine aN rfl rfl (by constructor) ?_
   refine sE ?_
   exact ⟨_, by omega, j + 1, rfl, by omega, congrArg (Value.int .u64) (bigNext v j), congrArg (Value.int .i64) (by rw [wi _ (by omega)]; omega), (st.sel [0] (by decide))⟩
  ·have hge : ¬ ((0 : Int) ≤ n - 1 - j) := of_decide_eq_false h8
   have hjn : (j : Int) = n := by omega
   show AWl _ _ _ _ _
   iterate 3 refine aN rfl rfl (by constructor) ?_
   refine sE ?_
   refine ⟨_, out2 (r_tmp rfl (by constructor)) (r_tmp rfl (by constructor)) ⟨rfl, rfl⟩, ?_⟩
   exact ⟨b34, by simp, by have st2 := st.pick 0 rfl; rw [putL_all hr hjn] at st2; exact st2⟩
end Go.Proofs.Ytihkghfmihdicaa.Abs
