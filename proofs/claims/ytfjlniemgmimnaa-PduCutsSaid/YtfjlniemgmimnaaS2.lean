/- Shared functions. -/
import Derived.Test.YtfjlniemgmimnaaS1
set_option linter.unusedVariables false
set_option linter.unusedSimpArgs false
set_option maxRecDepth 100000
namespace Go.Proofs.Ytfjlniemgmimnaa.Abs
open Go Go.RowKit
def rfieldE (len : Nat) (at_ n : Int) : Int := if n < 1 ∨ n > 8 then 1 else if at_ < 0 ∨ at_ ≥ len ∨ n > len - at_ then 4 else 0
theorem rfield_call {H : Hp} {len : Nat} {at_ n : Int} (hl : len ≤ 1000000000000000) (ha : -9000000000000000000 ≤ at_ ∧ at_ ≤ 9000000000000000000) :
  ACalls Try.prog 34 [.int .i64 (len : Int), .int .i64 at_, .int .i64 n] H (fun v H' => v = .int .i64 (rfieldE len at_ n) ∧ Stt [] H H' []) := by
 refine acallsW Try.func34 f34_ok (Nat.le_of_ble_eq_true rfl) fun hw => ?_
 have st : Stt [] H H [] := Stt.start hw
 unfold f34c
 show AWl _ _ _ _ _
 refine aN rfl rfl (by constructor) ?_
 refine sE ?_
 show AWl _ _ _ _ _
 iterate 3 refine aN rfl rfl (by constructor) ?_
 refine gCase 9 rfl (fun h1 => ?_) (fun h1 => ?_)
 ·refine gF rfl (by decide) ?_
  refine gF rfl (by decide) ?_
  refine aN rfl rfl (by constructor) ?_
  refine sE ?_
  show AW _ (.cond _ _ _) _ _ _
  refine cT rfl ?_
  show AWl _ _ _ _ _
  refine aN rfl rfl (by constructor) ?_
  refine sE ?_
  refine ⟨_, out1 (r_tmp rfl (by constructor)), ?_⟩
  have hwi := wi ((len : Int) - at_) (by omega)
  simp only [decide_eq_true_eq, decide_eq_false_iff_not, beq_iff_eq, beq_eq_false_iff_ne, bne_iff_ne, bne_eq_false_iff_eq, ne_eq, Decidable.not_not, Bool.not_eq_true, Bool.not_eq_false, gt_iff_lt, ge_iff_le, Int.not_lt, Int.not_le] at h1
  refine ⟨congrArg (Value.int .i64) ?_, st.drop⟩
  unfold rfieldE
  repeat' split
  all_goals first | rfl | omega
 ·refine gT rfl ?_
  refine aN rfl rfl (by constructor) ?_
  refine gT rfl ?_
  iterate 2 refine aN rfl rfl (by constructor) ?_
  refine sE ?_
  show AW _ (.cond _ _ _) _ _ _
  refine cC' rfl (fun h2 => ?_) (fun h2 => ?_)
  ·show AWl _ _ _ _ _
   refine aN rfl rfl (by constructor) ?_
   refine sE ?_
   refine ⟨_, out1 (r_tmp rfl (by constructor)), ?_⟩
   have hwi := wi ((len : Int) - at_) (by omega)
   simp only [decide_eq_true_eq, decide_eq_false_iff_not, beq_iff_eq, beq_eq_false_iff_ne, bne_iff_ne, bne_eq_false_iff_eq, ne_eq, Decidable.not_not, Bool.not_eq_true, Bool.not_eq_false, gt_iff_lt, ge_iff_le, Int.not_lt, Int.not_le] at h1 h2
   refine ⟨congrArg (Value.int .i64) ?_, st.drop⟩
   unfold rfieldE
   repeat' split
   all_goals first | rfl | omega
  ·show AWl _ _ _ _ _
   iterate 3 refine aN rfl rfl (by constructor) ?_
   refine gCase 15 rfl (fun h3 => ?_) (fun h3 => ?_)
   ·refine gF rfl (by decide) ?_
    refine gF rfl (by decide) ?_
    refine gF rfl (by decide) ?_
    iterate 2 refine aN rfl rfl (by constructor) ?_
    refine gF rfl (by decide) ?_
    refine gF rfl (by decide) ?_
    refine gF rfl (by decide) ?_
    refine gF rfl (by decide) ?_
    refine gF rfl (by decide) ?_
    refine aN rfl rfl (by constructor) ?_
    refine sE ?_
    show AW _ (.cond _ _ _) _ _ _
    refine cT rfl ?_
    show AWl _ _ _ _ _
    refine aN rfl rfl (by constructor) ?_
    refine sE ?_
    refine ⟨_, out1 (r_tmp rfl (by constructor)), ?_⟩
    have hwi := wi ((len : Int) - at_) (by omega)
    simp only [decide_eq_true_eq, decide_eq_false_iff_not, beq_iff_eq, beq_eq_false_iff_ne, bne_iff_ne, bne_eq_false_iff_eq, ne_eq, Decidable.not_not, Bool.not_eq_true, Bool.not_eq_false, gt_iff_lt, ge_iff_le, Int.not_lt, Int.not_le] at h1 h2 h3
    refine ⟨congrArg (Value.int .i64) ?_, st.drop⟩
    unfold rfieldE
    repeat' split
    all_goals first | rfl | omega
   ·refine gT rfl ?_
    refine aN rfl rfl (by constructor) ?_
    refine gT rfl ?_
    refine aN rfl rfl (by constructor) ?_
    refine gT rfl ?_
    iterate 3 refine aN rfl rfl (by constructor) ?_
    refine gCase 20 rfl (fun h4 => ?_) (fun h4 => ?_)
    ·refine gF rfl (by decide) ?_
     refine gF rfl (by decide) ?_
     refine gF rfl (by decide) ?_
     refine gF rfl (by decide) ?_
     refine gF rfl (by decide) ?_
     refine aN rfl rfl (by constructor) ?_
     refine sE ?_
     show AW _ (.cond _ _ _) _ _ _
     refine cT rfl ?_
     show AWl _ _ _ _ _
     refine aN rfl rfl (by constructor) ?_
     refine sE ?_
     refine ⟨_, out1 (r_tmp rfl (by constructor)), ?_⟩
     have hwi := wi ((len : Int) - at_) (by omega)
     simp only [decide_eq_true_eq, decide_eq_false_iff_not, beq_iff_eq, beq_eq_false_iff_ne, bne_iff_ne, bne_eq_false_iff_eq, ne_eq, Decidable.not_not, Bool.not_eq_true, Bool.not_eq_false, gt_iff_lt, ge_iff_le, Int.not_lt, Int.not_le] at h1 h2 h3 h4
     refine ⟨congrArg (Value.int .i64) ?_, st.drop⟩
     unfold rfieldE
     repeat' split
     all_goals first | rfl | omega
    ·refine gT rfl ?_
     refine aN rfl rfl (by constructor) ?_
     refine gT rfl ?_
     refine aN rfl rfl (by constructor) ?_
     refine gT rfl ?_
     refine aN rfl rfl (by constructor) ?_
     refine gT rfl ?_
     refine aN rfl rfl (by constructor) ?_
     refine gT rfl ?_
     iterate 2 refine aN rfl rfl (by constructor) ?_
     refine sE ?_
     show AW _ (.cond _ _ _) _ _ _
     refine cC' rfl (fun h5 => ?_) (fun h5 => ?_)
     ·show AWl _ _ _ _ _
      refine aN rfl rfl (by constructor) ?_
      refine sE ?_
      refine ⟨_, out1 (r_tmp rfl (by constructor)), ?_⟩
      have hwi := wi ((len : Int) - at_) (by omega)
      simp only [hwi] at *
      simp only [decide_eq_true_eq, decide_eq_false_iff_not, beq_iff_eq, beq_eq_false_iff_ne, bne_iff_ne, bne_eq_false_iff_eq, ne_eq, Decidable.not_not, Bool.not_eq_true, Bool.not_eq_false, gt_iff_lt, ge_iff_le, Int.not_lt, Int.not_le] at h1 h2 h3 h4 h5
      refine ⟨congrArg (Value.int .i64) ?_, st.drop⟩
      unfold rfieldE
      repeat' split
      all_goals first | rfl | omega
     ·show AWl _ _ _ _ _
      refine aN rfl rfl (by constructor) ?_
      refine sE ?_
      refine ⟨_, out1 (r_tmp rfl (by constructor)), ?_⟩
      have hwi := wi ((len : Int) - at_) (by omega)
      simp only [hwi] at *
      simp only [decide_eq_true_eq, decide_eq_false_iff_not, beq_iff_eq, beq_eq_false_iff_ne, bne_iff_ne, bne_eq_false_iff_eq, ne_eq, Decidable.not_not, Bool.not_eq_true, Bool.not_eq_false, gt_iff_lt, ge_iff_le, Int.not_lt, Int.not_le] at h1 h2 h3 h4 h5
      refine ⟨congrArg (Value.int .i64) ?_, st.drop⟩
      unfold rfieldE
      repeat' split
      all_goals first | rfl | omega
theorem rfieldE_ok {len : Nat} {at_ n : Int} (h : rfieldE len at_ n = 0) : 1 ≤ n ∧ n ≤ 8 ∧ 0 ≤ at_ ∧ at_ + n ≤ len := by
  unfold rfieldE at h
  repeat' split at h
  all_goals omega
def rgetV (xs : List Int) (at_ n : Int) : Int := if rfieldE xs.length at_ n = 0 then beN ((xs.drop at_.toNat).take n.toNat) else 0
theorem getStep {xs : List Int} (hb : ByteL xs) {a i : Nat} (hi : i < 8) (hl : a + i < xs.length) : beN ((xs.drop a).take i) * 256 + xs.getD (a + i) 0 = beN ((xs.drop a).take (i + 1)) ∧ 0 ≤ beN ((xs.drop a).take i) ∧ beN ((xs.drop a).take i) * 256 + xs.getD (a + i) 0 < 18446744073709551616 := by
  have e : (xs.drop a).take (i + 1) = (xs.drop a).take i ++ [xs.getD (a + i) 0] := by
    rw [List.take_add_one, List.getElem?_drop, List.getElem?_eq_getElem hl]
    simp [List.getD, List.getElem?_eq_getElem hl]
  have h1 := beN_nonneg ((hb.drop a).take i)
  have h2 := beN_lt ((hb.drop a).take (i + 1))
  rw [e, beN_append] at h2
  refine ⟨by rw [e, beN_append], h1, ?_⟩
  refine Int.lt_of_lt_of_le h2 ?_
  rw [show ((xs.drop a).take i ++ [xs.getD (a + i) 0]).length = i + 1 by simp; omega]
  have : i = 0 ∨ i = 1 ∨ i = 2 ∨ i = 3 ∨ i = 4 ∨ i = 5 ∨ i = 6 ∨ i = 7 := by omega
  rcases this with h | h | h | h | h | h | h | h <;> subst h <;> decide
theorem rget_call {H : Hp} {xs : List Int} {x : Value} {at_ n : Int} (hx : Sl H 1 xs.length (xs.map (Value.int .u8)) x) (hb : ByteL xs) (hl : xs.length ≤ 1000000000000000) (ha : -9000000000000000000 ≤ at_ ∧ at_ ≤ 9000000000000000000) :
  ACalls Try.prog 31 [x, .int .i64 at_, .int .i64 n] H (fun v H' => v = .tuple #[.int .u64 (rgetV xs at_ n), .int .i64 (rfieldE xs.length at_ n)] ∧ Stt [] H H' []) := by
 refine acallsW Try.func31 f31_ok (Nat.le_of_ble_eq_true rfl) fun hw => ?_
 have st : Stt [] H H [] := Stt.start hw
 unfold f31c
 show AWl _ _ _ _ _
 iterate 2 refine aN rfl rfl (by constructor) ?_
 refine sE ?_
 show AWl _ _ _ _ _
 refine aMovV x rfl ?_
 refine aLen (st.slc hx) rfl ?_
 iterate 2 refine aN rfl rfl (by constructor) ?_
 refine aC (rfield_call hl ha) fun v15 H1 ⟨hv, st1⟩ => ?_
 subst hv
 replace st := st.call st1 rfl
 clear st1
 refine aN rfl rfl (by constructor) ?_
 refine sE ?_
 show AWl _ _ _ _ _
 iterate 2 refine aN rfl rfl (by constructor) ?_
 refine sE ?_
 show AW _ (.cond _ _ _) _ _ _
 refine cC' rfl (fun h2 => ?_) (fun h2 => ?_)
 ·show AWl _ _ _ _ _
  iterate 3 refine aN rfl rfl (by constructor) ?_
  refine sE ?_
  refine ⟨_, out2 (r_tmp rfl (by constructor)) (r_tmp rfl (by constructor)) ⟨rfl, rfl⟩, ?_⟩
  have hf : ¬ rfieldE xs.length at_ n = 0 := by simpa using h2
  exact ⟨by unfold rgetV; rw [if_neg hf], st.drop⟩
 ·show AWl _ _ _ _ _
  refine aN rfl rfl (by constructor) ?_
  refine sE ?_
  show AWl _ _ _ _ _
  refine aN rfl rfl (by constructor) ?_
  refine sE ?_
  show AW _ (.loop _) _ _ _
  have hf : rfieldE xs.length at_ n = 0 := by simpa using h2
  have hr := rfieldE_ok hf
  refine AW_loopN (fun m t1 H1 => ∃ (i : Nat), m = n.toNat - i ∧ ((i : Int) ≤ n) ∧ t1 9 = .int .u64 (beN ((xs.drop at_.toNat).take i)) ∧ t1 10 = .int .i64 (i : Int) ∧ Stt [] H H1 []) (n.toNat - 0) ⟨0, rfl, by omega, rfl, rfl, (st.sel [] (by decide))⟩ [9, 10, 19, 20, 21, 22, 23, 24, 25, 26, 27, 28, 29, 30, 31, 32, 33] (by decide) ?_
  rintro m t1 H1 hk hI
  obtain ⟨i, rfl, hf0, ht9, ht10, st⟩ := hI
  obtain ⟨u, rfl⟩ : ∃ u, t1 = (upd (upd (mix [9, 10, 19, 20, 21, 22, 23, 24, 25, 26, 27, 28, 29, 30, 31, 32, 33] _ u) (some 9) _) (some 10) _) := ⟨t1, by rw [← hk, upd_self ht9, upd_self ht10]⟩
  clear hk ht9 ht10
  show AWl _ _ _ _ _
  iterate 3 refine aN rfl rfl (by constructor) ?_
  refine sE ?_
  show AW _ (.cond _ _ _) _ _ _
  refine cC' rfl (fun h3 => ?_) (fun h3 => ?_)
  ·have hlt : (i : Int) < n := of_decide_eq_true h3
   obtain ⟨q1, q2, q3⟩ := getStep hb (a := at_.toNat) (i := i) (by omega) (by omega)
   have hstep : IntKind.u64.wrap (IntKind.u64.wrap (beN ((xs.drop at_.toNat).take i) * 256) + IntKind.u64.wrap (xs.getD (IntKind.i64.wrap (at_ + i)).toNat 0)) = beN ((xs.drop at_.toNat).take (i + 1)) := by
    rw [wi _ (by omega), show (at_ + (i : Int)).toNat = at_.toNat + i by omega, ← q1, w64, w64, w64]
    have := hb.getD (at_.toNat + i)
    omega
   show AWl _ _ _ _ _
   iterate 2 refine aN rfl rfl (by constructor) ?_
   refine aMovV x rfl ?_
   iterate 3 refine aN rfl rfl (by constructor) ?_
   refine aIxB (st.slc hx) rfl rfl (by rw [wi _ (by omega)]; omega) fun b30 o30 g30 => ?_
   refine aLdG rfl g30 ?_
   iterate 3 refine aN rfl rfl (by constructor) ?_
   refine sE ?_
   show AWl _ _ _ _ _
   iterate 3 refine aN rfl rfl (by constructor) ?_
   refine sE ?_
   exact ⟨_, by omega, i + 1, rfl, by omega, congrArg (Value.int .u64) hstep, congrArg (Value.int .i64) (wi _ (by omega)), (st.sel [] (by decide))⟩
  ·have hge : ¬ ((i : Int) < n) := of_decide_eq_false h3
   obtain rfl : n = (i : Int) := by omega
   show AWl _ _ _ _ _
   iterate 3 refine aN rfl rfl (by constructor) ?_
   refine sE ?_
   refine ⟨_, out2 (r_tmp rfl (by constructor)) (r_tmp rfl (by constructor)) ⟨rfl, rfl⟩, ?_⟩
   exact ⟨by unfold rgetV; rw [if_pos hf, hf]; rfl, st.drop⟩
theorem rnum_call {H : Hp} {xs : List Int} {x : Value} {at_ n : Int} (hx : Sl H 1 xs.length (xs.map (Value.int .u8)) x) (hb : ByteL xs) (hl : xs.length ≤ 1000000000000000) (ha : -9000000000000000000 ≤ at_ ∧ at_ ≤ 9000000000000000000) :
  ACalls Try.prog 27 [x, .int .i64 at_, .int .i64 n] H (fun v H' => v = .int .u64 (rgetV xs at_ n) ∧ Stt [] H H' []) := by
 refine acallsW Try.func27 f27_ok (Nat.le_of_ble_eq_true rfl) fun hw => ?_
 have st : Stt [] H H [] := Stt.start hw
 unfold f27c
 show AWl _ _ _ _ _
 refine aN rfl rfl (by constructor) ?_
 refine sE ?_
 show AWl _ _ _ _ _
 refine aMovV x rfl ?_
 iterate 2 refine aN rfl rfl (by constructor) ?_
 refine aC (rget_call (st.slc hx) hb hl ha) fun v13 H1 ⟨hv, st1⟩ => ?_
 subst hv
 replace st := st.call st1 rfl
 clear st1
 iterate 5 refine aN rfl rfl (by constructor) ?_
 refine sE ?_
 show AWl _ _ _ _ _
 iterate 2 refine aN rfl rfl (by constructor) ?_
 refine sE ?_
 refine ⟨_, out1 (r_tmp rfl (by constructor)), ?_⟩
 exact ⟨rfl, st.drop⟩
end Go.Proofs.Ytfjlniemgmimnaa.Abs
