/- Shared functions. -/
import Derived.Test.YtfjlniemgmimnaaS2
set_option linter.unusedVariables false
set_option linter.unusedSimpArgs false
set_option maxRecDepth 100000
namespace Go.Proofs.Ytfjlniemgmimnaa.Abs
open Go Go.RowKit
theorem field_call {H : Hp} {xs : List Int} {x : Value} {at_ n : Int} (hx : Sl H 1 xs.length (xs.map (Value.int .u8)) x) (hl : xs.length ≤ 1000000000000000) (hn : -9000000000000000000 ≤ n ∧ n ≤ 9000000000000000000) :
  ACalls Try.prog 28 [x, .int .i64 at_, .int .i64 n] H (fun v H' => v = .int .i64 (rfieldE xs.length at_ n) ∧ Stt [] H H' []) := by
 refine acallsW Try.func28 f28_ok (Nat.le_of_ble_eq_true rfl) fun hw => ?_
 have st : Stt [] H H [] := Stt.start hw
 unfold f28c
 show AWl _ _ _ _ _
 refine aN rfl rfl (by constructor) ?_
 refine sE ?_
 show AWl _ _ _ _ _
 iterate 3 refine aN rfl rfl (by constructor) ?_
 refine gCase 10 rfl (fun h1 => ?_) (fun h1 => ?_)
 ·refine gF rfl (by decide) ?_
  refine gF rfl (by decide) ?_
  iterate 2 refine aN rfl rfl (by constructor) ?_
  refine sE ?_
  show AW _ (.cond _ _ _) _ _ _
  refine cT rfl ?_
  show AWl _ _ _ _ _
  refine aN rfl rfl (by constructor) ?_
  refine sE ?_
  refine ⟨_, out1 (r_tmp rfl (by constructor)), ?_⟩
  simp only [decide_eq_true_eq, decide_eq_false_iff_not, beq_iff_eq, beq_eq_false_iff_ne, bne_iff_ne, bne_eq_false_iff_eq, ne_eq, Decidable.not_not, Bool.not_eq_true, Bool.not_eq_false, gt_iff_lt, ge_iff_le, Int.not_lt, Int.not_le] at h1
  refine ⟨congrArg (Value.int .i64) ?_, st.drop⟩
  unfold rfieldE
  repeat' split
  all_goals first | rfl | omega
 ·refine gT rfl ?_
  refine aN rfl rfl (by constructor) ?_
  refine gT rfl ?_
  iterate 3 refine aN rfl rfl (by constructor) ?_
  refine sE ?_
  show AW _ (.cond _ _ _) _ _ _
  refine cC' rfl (fun h2 => ?_) (fun h2 => ?_)
  ·show AWl _ _ _ _ _
   refine aN rfl rfl (by constructor) ?_
   refine sE ?_
   refine ⟨_, out1 (r_tmp rfl (by constructor)), ?_⟩
   simp only [decide_eq_true_eq, decide_eq_false_iff_not, beq_iff_eq, beq_eq_false_iff_ne, bne_iff_ne, bne_eq_false_iff_eq, ne_eq, Decidable.not_not, Bool.not_eq_true, Bool.not_eq_false, gt_iff_lt, ge_iff_le, Int.not_lt, Int.not_le] at h1 h2
   refine ⟨congrArg (Value.int .i64) ?_, st.drop⟩
   unfold rfieldE
   repeat' split
   all_goals first | rfl | omega
  ·show AWl _ _ _ _ _
   iterate 3 refine aN rfl rfl (by constructor) ?_
   refine gCase 17 rfl (fun h3 => ?_) (fun h3 => ?_)
   ·refine gF rfl (by decide) ?_
    refine gF rfl (by decide) ?_
    refine gF rfl (by decide) ?_
    refine gF rfl (by decide) ?_
    refine gF rfl (by decide) ?_
    refine gF rfl (by decide) ?_
    iterate 2 refine aN rfl rfl (by constructor) ?_
    refine sE ?_
    show AW _ (.cond _ _ _) _ _ _
    refine cT rfl ?_
    show AWl _ _ _ _ _
    refine aN rfl rfl (by constructor) ?_
    refine sE ?_
    refine ⟨_, out1 (r_tmp rfl (by constructor)), ?_⟩
    simp only [decide_eq_true_eq, decide_eq_false_iff_not, beq_iff_eq, beq_eq_false_iff_ne, bne_iff_ne, bne_eq_false_iff_eq, ne_eq, Decidable.not_not, Bool.not_eq_true, Bool.not_eq_false, gt_iff_lt, ge_iff_le, Int.not_lt, Int.not_le] at h1 h2 h3
    refine ⟨congrArg (Value.int .i64) ?_, st.drop⟩
    unfold rfieldE
    repeat' split
    all_goals first | rfl | omega
   ·refine gT rfl ?_
    refine aN rfl rfl (by constructor) ?_
    refine gT rfl ?_
    refine aMovV x rfl ?_
    refine gT rfl ?_
    refine aLen (st.slc hx) rfl ?_
    refine gT rfl ?_
    refine aN rfl rfl (by constructor) ?_
    refine gT rfl ?_
    refine aN rfl rfl (by constructor) ?_
    refine gT rfl ?_
    iterate 3 refine aN rfl rfl (by constructor) ?_
    refine sE ?_
    show AW _ (.cond _ _ _) _ _ _
    refine cC' rfl (fun h4 => ?_) (fun h4 => ?_)
    ·show AWl _ _ _ _ _
     refine aN rfl rfl (by constructor) ?_
     refine sE ?_
     refine ⟨_, out1 (r_tmp rfl (by constructor)), ?_⟩
     have hwi := wi ((xs.length : Int) - n) (by omega)
     simp only [hwi] at *
     simp only [decide_eq_true_eq, decide_eq_false_iff_not, beq_iff_eq, beq_eq_false_iff_ne, bne_iff_ne, bne_eq_false_iff_eq, ne_eq, Decidable.not_not, Bool.not_eq_true, Bool.not_eq_false, gt_iff_lt, ge_iff_le, Int.not_lt, Int.not_le] at h1 h2 h3 h4
     refine ⟨congrArg (Value.int .i64) ?_, st.drop⟩
     unfold rfieldE
     repeat' split
     all_goals first | rfl | omega
    ·show AWl _ _ _ _ _
     refine aN rfl rfl (by constructor) ?_
     refine sE ?_
     refine ⟨_, out1 (r_tmp rfl (by constructor)), ?_⟩
     have hwi := wi ((xs.length : Int) - n) (by omega)
     simp only [hwi] at *
     simp only [decide_eq_true_eq, decide_eq_false_iff_not, beq_iff_eq, beq_eq_false_iff_ne, bne_iff_ne, bne_eq_false_iff_eq, ne_eq, Decidable.not_not, Bool.not_eq_true, Bool.not_eq_false, gt_iff_lt, ge_iff_le, Int.not_lt, Int.not_le] at h1 h2 h3 h4
     refine ⟨congrArg (Value.int .i64) ?_, st.drop⟩
     unfold rfieldE
     repeat' split
     all_goals first | rfl | omega
theorem getD_drop {l : List Int} {n i : Nat} : (l.drop n).getD i 0 = l.getD (n + i) 0 := by simp [List.getD]
theorem getD_take {l : List Int} {n i : Nat} (h : i < n) : (l.take n).getD i 0 = l.getD i 0 := by simp [List.getD, List.getElem?_take, h]
theorem get_call {H : Hp} {xs : List Int} {x : Value} {at_ n : Int} (hx : Sl H 1 xs.length (xs.map (Value.int .u8)) x) (hb : ByteL xs) (hl : xs.length ≤ 1000000000000000) (hn : -9000000000000000000 ≤ n ∧ n ≤ 9000000000000000000) :
  ACalls Try.prog 26 [x, .int .i64 at_, .int .i64 n] H (fun v H' => v = .tuple #[.int .u64 (rgetV xs at_ n), .int .i64 (rfieldE xs.length at_ n)] ∧ Stt [] H H' []) := by
 refine acallsW Try.func26 f26_ok (Nat.le_of_ble_eq_true rfl) fun hw => ?_
 have st : Stt [] H H [] := Stt.start hw
 unfold f26c
 show AWl _ _ _ _ _
 iterate 2 refine aN rfl rfl (by constructor) ?_
 refine sE ?_
 show AWl _ _ _ _ _
 refine aMovV x rfl ?_
 iterate 2 refine aN rfl rfl (by constructor) ?_
 refine aC (field_call (st.slc hx) hl hn) fun v15 H1 ⟨hv, st1⟩ => ?_
 subst hv
 replace st := st.call st1 rfl
 clear st1
 refine aN rfl rfl (by constructor) ?_
 refine sE ?_
 show AWl _ _ _ _ _
 iterate 2 refine aN rfl rfl (by constructor) ?_
 refine sE ?_
 show AW _ (.cond _ _ _) _ _ _
 refine cC' rfl (fun h2 => ?_) (fun h2 => ?_)
 ·show AWl _ _ _ _ _
  iterate 3 refine aN rfl rfl (by constructor) ?_
  refine sE ?_
  refine ⟨_, out2 (r_tmp rfl (by constructor)) (r_tmp rfl (by constructor)) ⟨rfl, rfl⟩, ?_⟩
  have hf : ¬ rfieldE xs.length at_ n = 0 := by simpa using h2
  exact ⟨by unfold rgetV; rw [if_neg hf], st.drop⟩
 ·have hf : rfieldE xs.length at_ n = 0 := by simpa using h2
  have hr := rfieldE_ok hf
  show AWl _ _ _ _ _
  refine aN rfl rfl (by constructor) ?_
  refine sE ?_
  show AWl _ _ _ _ _
  refine aMovV x rfl ?_
  iterate 4 refine aN rfl rfl (by constructor) ?_
  refine aCutLH (st.slc hx) rfl rfl rfl (by rw [wi _ (by omega)]; omega) fun v24 s24 => ?_
  replace s24 := s24 _ hx
  refine aLen (st.slc s24) rfl ?_
  refine aN rfl rfl (by constructor) ?_
  refine sE ?_
  show AW _ (.loop _) _ _ _
  refine AW_loopN (fun m t1 H1 => ∃ (i : Nat), m = n.toNat - i ∧ ((i : Int) ≤ n) ∧ t1 9 = .int .u64 (beN ((xs.drop at_.toNat).take i)) ∧ t1 26 = .int .i64 (i : Int) ∧ Stt [] H H1 []) (n.toNat - 0) ⟨0, rfl, by omega, rfl, rfl, (st.sel [] (by decide))⟩ [9, 11, 26, 27, 28, 29, 30, 31, 32, 33, 34, 35] (by decide) ?_
  rintro m t1 H1 hk hI
  obtain ⟨i, rfl, hf0, ht9, ht26, st⟩ := hI
  obtain ⟨u, rfl⟩ : ∃ u, t1 = (upd (upd (mix [9, 11, 26, 27, 28, 29, 30, 31, 32, 33, 34, 35] _ u) (some 9) _) (some 26) _) := ⟨t1, by rw [← hk, upd_self ht9, upd_self ht26]⟩
  clear hk ht9 ht26
  show AWl _ _ _ _ _
  refine aN rfl rfl (by constructor) ?_
  refine sE ?_
  show AW _ (.cond _ _ _) _ _ _
  refine cC' rfl (fun h3 => ?_) (fun h3 => ?_)
  ·have e1 : (IntKind.i64.wrap (at_ + n)).toNat - at_.toNat = n.toNat := by rw [wi _ (by omega)]; omega
   have hlt : (i : Int) < n := by have := of_decide_eq_true h3; rw [e1] at this; omega
   obtain ⟨q1, q2, q3⟩ := getStep hb (a := at_.toNat) (i := i) (by omega) (by omega)
   have hb1 := hb.getD (at_.toNat + i)
   have hstep : bits .or .u64 (IntKind.u64.wrap (beN ((xs.drop at_.toNat).take i) * 2 ^ min (8 : Int).toNat IntKind.u64.bits)) (IntKind.u64.wrap (((xs.drop at_.toNat).take ((IntKind.i64.wrap (at_ + n)).toNat - at_.toNat)).getD ((i : Int)).toNat 0)) = beN ((xs.drop at_.toNat).take (i + 1)) := by
    rw [e1, getD_take (by omega), getD_drop, show ((i : Int)).toNat = i from rfl, show (2 : Int) ^ min (8 : Int).toNat IntKind.u64.bits = 256 by decide, ← q1, w64, w64]
    rw [or_add 8 (.inr (.inr (.inr rfl))) (by omega) (by omega) (by rw [show (2 : Int) ^ 8 = 256 by decide]; omega) (by rw [show (2 : Int) ^ 8 = 256 by decide]; omega) (by rw [show (2 : Int) ^ IntKind.u64.bits = 18446744073709551616 by decide]; omega)]
    omega
   show AWl _ _ _ _ _
   refine aIxB (st.slc s24) rfl rfl (by rw [wi _ (by omega)] at *; omega) fun b28 o28 g28 => ?_
   refine aLdG rfl g28 ?_
   refine aN rfl rfl (by constructor) ?_
   refine sE ?_
   show AWl _ _ _ _ _
   iterate 6 refine aN rfl rfl (by constructor) ?_
   refine sE ?_
   show AWl _ _ _ _ _
   iterate 2 refine aN rfl rfl (by constructor) ?_
   refine sE ?_
   exact ⟨_, by omega, i + 1, rfl, by omega, congrArg (Value.int .u64) hstep, congrArg (Value.int .i64) (wi _ (by omega)), (st.sel [] (by decide))⟩
  ·have e1 : (IntKind.i64.wrap (at_ + n)).toNat - at_.toNat = n.toNat := by rw [wi _ (by omega)]; omega
   have hge : n = (i : Int) := by have := of_decide_eq_false h3; rw [e1] at this; omega
   subst hge
   show AWl _ _ _ _ _
   iterate 3 refine aN rfl rfl (by constructor) ?_
   refine sE ?_
   refine ⟨_, out2 (r_tmp rfl (by constructor)) (r_tmp rfl (by constructor)) ⟨rfl, rfl⟩, ?_⟩
   exact ⟨by unfold rgetV; rw [if_pos hf, hf]; rfl, st.drop⟩
end Go.Proofs.Ytfjlniemgmimnaa.Abs
