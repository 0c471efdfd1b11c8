/- PDUs: read. -/
import Derived.Test.YtfjlniemgmimnaaU3B
set_option linter.unusedVariables false
set_option linter.unusedSimpArgs false
set_option maxRecDepth 100000
namespace Go.Proofs.Ytfjlniemgmimnaa.Abs
open Go Go.RowKit
theorem pdec_call_tt {H : Hp} {xs : List Int} {x : Value} (hx : Sl H 1 xs.length (xs.map (Value.int .u8)) x) (hb : ByteL xs) (hl : xs.length ≤ 140737488351232) :
  ACalls Try.prog 12 [x, .bool true, .bool true] H (fun v H' => ∃ ob, v = .tuple #[.agg #[.int .u8 (decP xs true true).op, .int .u8 (decP xs true true).fl, .int .u8 (decP xs true true).res, .int .u8 (decP xs true true).st, .int .u8 (decP xs true true).lun, .int .u32 (decP xs true true).tag, .int .u32 (decP xs true true).w0, .int .u32 (decP xs true true).w1, .int .u32 (decP xs true true).w2, .int .u32 (decP xs true true).w3, .int .u32 (decP xs true true).w4, .int .u32 (decP xs true true).w5, .int .u32 (decP xs true true).w6, accV ob (decP xs true true).data.length 1], .int .i64 (decN xs true true), .int .i64 (decE xs true true)] ∧ Stt [] H H' [⟨ob, true, ⟨true, 5, (decP xs true true).data.map (Value.int .u8)⟩⟩]) := by
 refine acallsW Try.func12 f12_ok (Nat.le_of_ble_eq_true rfl) fun hw => ?_
 have st : Stt [] H H [] := Stt.start hw
 unfold f12c
 show AWl _ _ _ _ _
 refine aNewP st rfl rfl (by repeat constructor) fun b6 H1 st => ?_
 iterate 2 refine aN rfl rfl (by constructor) ?_
 refine sE ?_
 show AWl _ _ _ _ _
 refine aN rfl rfl (by constructor) ?_
 refine sE ?_
 show AWl _ _ _ _ _
 refine aN rfl rfl (by constructor) ?_
 refine sE ?_
 show AW _ (.cond _ _ _) _ _ _
 refine cT rfl ?_
 show AWl _ _ _ _ _
 refine aN rfl rfl (by constructor) ?_
 refine aBinV (.int .i64 52) rfl rfl rfl ?_
 refine aN rfl rfl (by constructor) ?_
 refine sE ?_
 show AWl _ _ _ _ _
 refine aMovV x rfl ?_
 refine aLen (st.slc hx) rfl ?_
 iterate 2 refine aN rfl rfl (by constructor) ?_
 refine sE ?_
 show AW _ (.cond _ _ _) _ _ _
 refine cC' rfl (fun h2 => ?_) (fun h2 => ?_)
 ·have h2q := h2; try simp only [decide_eq_true_eq, decide_eq_false_iff_not, beq_iff_eq, beq_eq_false_iff_ne, bne_iff_ne, bne_eq_false_iff_eq, ne_eq, Decidable.not_not, Bool.not_eq_true, Bool.not_eq_false, gt_iff_lt, ge_iff_le, Int.not_lt, Int.not_le] at h2q
  have hat : (xs.length < atN true) := by have := of_decide_eq_true h2; show (xs.length < 52); omega
  have hat2 : xs.length < 52 := by have : atN true = 52 := rfl; omega
  show AWl _ _ _ _ _
  refine aBld rfl (by repeat constructor) ?_
  refine aSt st 0 rfl rfl rfl rfl (by first | rfl | simp [cellsOf, *]) (by first | decide | (simp [*]; done) | (simp [k8]; done)) (by repeat constructor) fun H3 st => ?_
  iterate 2 refine aN rfl rfl (by constructor) ?_
  refine sE ?_
  refine ⟨_, out3 (r_cellA st 0 rfl rfl (by first | decide | simp [*]) (by repeat constructor)) (r_tmp rfl (by constructor)) (r_tmp rfl (by constructor)) ⟨rfl, rfl, rfl⟩, ?_⟩
  have he := e_8 (d := true) hat
  obtain ⟨hP, hN⟩ := decP_no he (by decide)
  exact ⟨none, by rw [he, hP, hN]; rfl, by rw [hP]; exact (st.nil 5).pick 0 rfl⟩
 ·have h2q := h2; try simp only [decide_eq_true_eq, decide_eq_false_iff_not, beq_iff_eq, beq_eq_false_iff_ne, bne_iff_ne, bne_eq_false_iff_eq, ne_eq, Decidable.not_not, Bool.not_eq_true, Bool.not_eq_false, gt_iff_lt, ge_iff_le, Int.not_lt, Int.not_le] at h2q
  have hat : ¬ (xs.length < atN true) := by have := of_decide_eq_false h2; show ¬ (xs.length < 52); omega
  have hat2 : 52 ≤ xs.length := by have : atN true = 52 := rfl; omega
  show AWp _ _ _ _ _
  iterate 2 refine aN rfl rfl (by constructor) ?_
  refine gT rfl ?_
  refine aMovV x rfl ?_
  refine gT rfl ?_
  refine aCutH (st.slc hx) rfl rfl (by omega) fun v37 s37 => ?_
  replace s37 := s37 _ hx
  replace s37 : Sl H 1 (xs.take 48).length ((xs.take 48).map (Value.int .u8)) v37 := by rw [show (xs.take 48).length = 48 by rw [List.length_take]; omega]; exact s37
  refine gT rfl ?_
  refine aMovV x rfl ?_
  refine gT rfl ?_
  refine aN rfl rfl (by constructor) ?_
  refine gT rfl ?_
  refine aCutLH (st.slc hx) rfl rfl rfl (by omega) fun v42 s42 => ?_
  replace s42 := s42 _ hx
  replace s42 : Sl H 1 4 (((xs.drop 48).take 4).map (Value.int .u8)) v42 := s42
  refine gT rfl ?_
  refine aText (st.slc s42) rfl ?_
  refine ⟨?_, trivial⟩
  refine gT rfl ?_
  refine aC (sum_call (xs := xs.take 48) (st.slc s37) (hb.take 48) (by simp only [List.length_take, List.length_drop]; omega)) fun v38 H4 ⟨b38, hv, st1⟩ => ?_
  subst hv
  replace st := st.call st1 rfl
  clear st1
  refine ⟨⟨⟨some true, .bool true, (h_Text (st.slc s42) rfl)⟩, trivial⟩, ?_⟩
  refine gT rfl ?_
  refine aText (st.rowAll 0 rfl (by simp [beB_len])) rfl ?_
  refine gT rfl ?_
  refine aBinV (.bool (!decide (beB 4 (c32 (xs.take 48)) = (xs.drop 48).take 4))) (u := .string (ofInts (beB 4 (c32 (xs.take 48))))) (u' := .string (ofInts ((xs.drop 48).take 4))) rfl rfl (by show some (Value.bool (!((ofInts (beB 4 (c32 (xs.take 48)))).toList == (ofInts ((xs.drop 48).take 4)).toList))) = _; rw [texts_beq (beB_bytes _ _) ((hb.drop _).take _)]) ?_
  refine aN rfl rfl (by constructor) ?_
  refine pE ?_
  show AW _ (.cond _ _ _) _ _ _
  refine cC' rfl (fun h5 => ?_) (fun h5 => ?_)
  ·have h5q := h5; try simp only [decide_eq_true_eq, decide_eq_false_iff_not, beq_iff_eq, beq_eq_false_iff_ne, bne_iff_ne, bne_eq_false_iff_eq, ne_eq, Decidable.not_not, Bool.not_eq_true, Bool.not_eq_false, gt_iff_lt, ge_iff_le, Int.not_lt, Int.not_le] at h5q
   have h5n : decide (beB 4 (c32 (xs.take 48)) = (xs.drop 48).take 4) = false := Eq.mp (Bool.not_eq_true' _) h5
   show AWl _ _ _ _ _
   refine aBld rfl (by repeat constructor) ?_
   refine aSt st 1 rfl rfl rfl rfl (by first | rfl | simp [cellsOf, *]) (by first | decide | (simp [*]; done) | (simp [k8]; done)) (by repeat constructor) fun H6 st => ?_
   iterate 2 refine aN rfl rfl (by constructor) ?_
   refine sE ?_
   refine ⟨_, out3 (r_cellA st 1 rfl rfl (by first | decide | simp [*]) (by repeat constructor)) (r_tmp rfl (by constructor)) (r_tmp rfl (by constructor)) ⟨rfl, rfl, rfl⟩, ?_⟩
   have he := e_5 (d := true) hat ⟨rfl, of_decide_eq_false h5n⟩
   obtain ⟨hP, hN⟩ := decP_no he (by decide)
   exact ⟨none, by rw [he, hP, hN]; rfl, by rw [hP]; exact (st.nil 5).pick 0 rfl⟩
  ·have h5q := h5; try simp only [decide_eq_true_eq, decide_eq_false_iff_not, beq_iff_eq, beq_eq_false_iff_ne, bne_iff_ne, bne_eq_false_iff_eq, ne_eq, Decidable.not_not, Bool.not_eq_true, Bool.not_eq_false, gt_iff_lt, ge_iff_le, Int.not_lt, Int.not_le] at h5q
   have h5n : decide (beB 4 (c32 (xs.take 48)) = (xs.drop 48).take 4) = true := Eq.mp (Bool.not_eq_false' _) h5
   show AWl _ _ _ _ _
   refine aMovV x rfl ?_
   refine aC (get_call (st.slc hx) hb (by omega) (by decide)) fun v49 H7 ⟨hv, st1⟩ => ?_
   subst hv
   replace st := st.call st1 rfl
   clear st1
   iterate 5 refine aN rfl rfl (by constructor) ?_
   refine sE ?_
   show AWl _ _ _ _ _
   iterate 2 refine aN rfl rfl (by constructor) ?_
   rw [n_conv hb (by omega)]
   have hn24 := nOf_lt hb
   refine aN rfl rfl (by constructor) ?_
   refine sE ?_
   show AWl _ _ _ _ _
   refine aLit st rfl (by repeat constructor) fun b54 H8 st => ?_
   iterate 2 refine aN rfl rfl (by constructor) ?_
   refine sE ?_
   show AW _ (.loop _) _ _ _
   refine AW_loopN (fun m t1 H1 => ∃ (j : Nat), m = 8 - j ∧ (j ≤ 8) ∧ (Rsv xs j) ∧ (0 < j → nOf xs ≤ 8192) ∧ t1 56 = .int .i64 (j : Int) ∧ Stt [] H H1 [⟨some b54, true, ⟨true, 3, [.int .i64 4, .int .i64 8, .int .i64 10, .int .i64 11, .int .i64 12, .int .i64 13, .int .i64 14, .int .i64 15]⟩⟩, ⟨some b6, true, ⟨true, 26, [.int .u8 0, .int .u8 0, .int .u8 0, .int .u8 0, .int .u8 0, .int .u32 0, .int .u32 0, .int .u32 0, .int .u32 0, .int .u32 0, .int .u32 0, .int .u32 0, .int .u32 0, .slice none 0 0]⟩⟩]) (8 - 0) ⟨0, rfl, by omega, fun i hi => by omega, fun h => by omega, rfl, (st.sel [0, 2] (by decide))⟩ [7, 8, 14, 56, 57, 58, 59, 60, 61, 62, 63, 64, 65, 66, 67, 68, 69, 70] (by decide) ?_
   rintro m t1 H1 hk hI
   obtain ⟨j, rfl, hj, hrv, hn0, ht56, st⟩ := hI
   obtain ⟨u, rfl⟩ : ∃ u, t1 = (upd (mix [7, 8, 14, 56, 57, 58, 59, 60, 61, 62, 63, 64, 65, 66, 67, 68, 69, 70] _ u) (some 56) _) := ⟨t1, by rw [← hk, upd_self ht56]⟩
   clear hk ht56
   show AWl _ _ _ _ _
   refine aN rfl rfl (by constructor) ?_
   refine sE ?_
   show AW _ (.cond _ _ _) _ _ _
   refine cC' rfl (fun h9 => ?_) (fun h9 => ?_)
   ·have h9q := h9; try simp only [decide_eq_true_eq, decide_eq_false_iff_not, beq_iff_eq, beq_eq_false_iff_ne, bne_iff_ne, bne_eq_false_iff_eq, ne_eq, Decidable.not_not, Bool.not_eq_true, Bool.not_eq_false, gt_iff_lt, ge_iff_le, Int.not_lt, Int.not_le] at h9q
    have hlt : j < 8 := by have := of_decide_eq_true h9; simp at this; omega
    show AWl _ _ _ _ _
    refine aIxL rfl rfl (by omega) ?_
    refine aLd st 0 rfl rfl (rs_at hlt) (by constructor) ?_
    have hrs := rs_bd hlt
    refine aN rfl rfl (by constructor) ?_
    refine sE ?_
    show AWl _ _ _ _ _
    refine aMovV x rfl ?_
    refine aN rfl rfl (by constructor) ?_
    refine aIxBK (st.slc hx) rfl rfl (by omega) fun b62 o62 g62 => ?_
    refine aLdG rfl (g62 _ (st.slc hx)) ?_
    iterate 2 refine aN rfl rfl (by constructor) ?_
    refine gCase 65 rfl (fun h10 => ?_) (fun h10 => ?_)
    ·have h10q := h10; try simp only [decide_eq_true_eq, decide_eq_false_iff_not, beq_iff_eq, beq_eq_false_iff_ne, bne_iff_ne, bne_eq_false_iff_eq, ne_eq, Decidable.not_not, Bool.not_eq_true, Bool.not_eq_false, gt_iff_lt, ge_iff_le, Int.not_lt, Int.not_le] at h10q
     refine gF rfl (by decide) ?_
     refine gF rfl (by decide) ?_
     refine aN rfl rfl (by constructor) ?_
     refine sE ?_
     show AW _ (.cond _ _ _) _ _ _
     refine cT rfl ?_
     show AWl _ _ _ _ _
     refine aBld rfl (by repeat constructor) ?_
     refine aSt st 1 rfl rfl rfl rfl (by first | rfl | simp [cellsOf, *]) (by first | decide | (simp [*]; done) | (simp [k8]; done)) (by repeat constructor) fun H11 st => ?_
     iterate 2 refine aN rfl rfl (by constructor) ?_
     refine sE ?_
     refine ⟨_, out3 (r_cellA st 1 rfl rfl (by first | decide | simp [*]) (by repeat constructor)) (r_tmp rfl (by constructor)) (r_tmp rfl (by constructor)) ⟨rfl, rfl, rfl⟩, ?_⟩
     have he := e_3 (d := true) hat (fun hc => hc.2 (of_decide_eq_true h5n)) (.inr fun hr => h10q (hr j hlt))
     obtain ⟨hP, hN⟩ := decP_no he (by decide)
     exact ⟨none, by rw [he, hP, hN]; rfl, by rw [hP]; exact (st.nil 5).pick 0 rfl⟩
    ·have h10q := h10; try simp only [decide_eq_true_eq, decide_eq_false_iff_not, beq_iff_eq, beq_eq_false_iff_ne, bne_iff_ne, bne_eq_false_iff_eq, ne_eq, Decidable.not_not, Bool.not_eq_true, Bool.not_eq_false, gt_iff_lt, ge_iff_le, Int.not_lt, Int.not_le] at h10q
     refine gT rfl ?_
     refine aN rfl rfl (by constructor) ?_
     refine gT rfl ?_
     iterate 2 refine aN rfl rfl (by constructor) ?_
     refine sE ?_
     show AW _ (.cond _ _ _) _ _ _
     refine cC' rfl (fun h12 => ?_) (fun h12 => ?_)
     ·have h12q := h12; try simp only [decide_eq_true_eq, decide_eq_false_iff_not, beq_iff_eq, beq_eq_false_iff_ne, bne_iff_ne, bne_eq_false_iff_eq, ne_eq, Decidable.not_not, Bool.not_eq_true, Bool.not_eq_false, gt_iff_lt, ge_iff_le, Int.not_lt, Int.not_le] at h12q
      show AWl _ _ _ _ _
      refine aBld rfl (by repeat constructor) ?_
      refine aSt st 1 rfl rfl rfl rfl (by first | rfl | simp [cellsOf, *]) (by first | decide | (simp [*]; done) | (simp [k8]; done)) (by repeat constructor) fun H13 st => ?_
      iterate 2 refine aN rfl rfl (by constructor) ?_
      refine sE ?_
      refine ⟨_, out3 (r_cellA st 1 rfl rfl (by first | decide | simp [*]) (by repeat constructor)) (r_tmp rfl (by constructor)) (r_tmp rfl (by constructor)) ⟨rfl, rfl, rfl⟩, ?_⟩
      have he := e_3 (d := true) hat (fun hc => hc.2 (of_decide_eq_true h5n)) (.inl (by omega))
      obtain ⟨hP, hN⟩ := decP_no he (by decide)
      exact ⟨none, by rw [he, hP, hN]; rfl, by rw [hP]; exact (st.nil 5).pick 0 rfl⟩
     ·have h12q := h12; try simp only [decide_eq_true_eq, decide_eq_false_iff_not, beq_iff_eq, beq_eq_false_iff_ne, bne_iff_ne, bne_eq_false_iff_eq, ne_eq, Decidable.not_not, Bool.not_eq_true, Bool.not_eq_false, gt_iff_lt, ge_iff_le, Int.not_lt, Int.not_le] at h12q
      show AWl _ _ _ _ _
      iterate 2 refine aN rfl rfl (by constructor) ?_
      refine sE ?_
      exact ⟨_, by omega, j + 1, rfl, by omega, hrv.step h10q, fun _ => by omega, congrArg (Value.int .i64) (wi _ (by omega)), (st.sel [0, 1] (by decide))⟩
   ·have h9q := h9; try simp only [decide_eq_true_eq, decide_eq_false_iff_not, beq_iff_eq, beq_eq_false_iff_ne, bne_iff_ne, bne_eq_false_iff_eq, ne_eq, Decidable.not_not, Bool.not_eq_true, Bool.not_eq_false, gt_iff_lt, ge_iff_le, Int.not_lt, Int.not_le] at h9q
    have hge : j = 8 := by have := of_decide_eq_false h9; simp at this; omega
    subst hge
    have hn8 := hn0 (by decide)
    have hc3 : ¬ (nOf xs > 8192 ∨ ¬ Rsv xs 8) := fun hc => hc.elim (fun h => by omega) (fun h => h hrv)
    show AWl _ _ _ _ _
    iterate 2 refine aN rfl rfl (by constructor) ?_
    refine aC (pad_call (by omega)) fun v73 H14 ⟨hv, st1⟩ => ?_
    subst hv
    replace st := st.call st1 rfl
    clear st1
    refine aBinV (.int .i64 (mOf xs : Int)) (u := .int .i64 (nOf xs : Int)) (u' := .int .i64 (padN (nOf xs) : Int)) rfl rfl (congrArg (fun z => some (Value.int .i64 z)) (by have := padN_le (nOf xs); rw [wi _ (by omega)]; unfold mOf; omega)) ?_
    have hm := mOf_le xs
    have hpl := padN_le (nOf xs)
    have hmd : mOf xs = nOf xs + padN (nOf xs) := rfl
    refine aN rfl rfl (by constructor) ?_
    refine sE ?_
    show AWl _ _ _ _ _
    iterate 2 refine aN rfl rfl (by constructor) ?_
    refine aBinV (.int .i64 ((52 + mOf xs : Nat) : Int)) (u := .int .i64 52) (u' := .int .i64 (mOf xs : Int)) rfl rfl (congrArg (fun z => some (Value.int .i64 z)) (by rw [wi _ (by omega)]; omega)) ?_
    refine aN rfl rfl (by constructor) ?_
    refine sE ?_
    show AWl _ _ _ _ _
    iterate 2 refine aN rfl rfl (by constructor) ?_
    refine gT rfl ?_
    refine aN rfl rfl (by constructor) ?_
    refine gT rfl ?_
    iterate 2 refine aN rfl rfl (by constructor) ?_
    refine sE ?_
    show AW _ (.cond _ _ _) _ _ _
    refine cC' rfl (fun h15 => ?_) (fun h15 => ?_)
    ·have h15q := h15; try simp only [decide_eq_true_eq, decide_eq_false_iff_not, beq_iff_eq, beq_eq_false_iff_ne, bne_iff_ne, bne_eq_false_iff_eq, ne_eq, Decidable.not_not, Bool.not_eq_true, Bool.not_eq_false, gt_iff_lt, ge_iff_le, Int.not_lt, Int.not_le] at h15q
     show AWl _ _ _ _ _
     refine aN rfl rfl (by constructor) ?_
     refine aBinV (.int .i64 ((52 + mOf xs + 4 : Nat) : Int)) (u := .int .i64 ((52 + mOf xs : Nat) : Int)) (u' := .int .i64 4) rfl rfl (congrArg (fun z => some (Value.int .i64 z)) (by rw [wi _ (by omega)]; omega)) ?_
     refine aN rfl rfl (by constructor) ?_
     refine sE ?_
     show AWl _ _ _ _ _
     refine aMovV x rfl ?_
     have hE : endN xs true true = 52 + mOf xs + 4 := by unfold endN; rw [if_pos ⟨rfl, by omega⟩]; rfl
     refine aLen (st.slc hx) rfl ?_
     iterate 2 refine aN rfl rfl (by constructor) ?_
     refine sE ?_
     show AW _ (.cond _ _ _) _ _ _
     refine cC' rfl (fun h16 => ?_) (fun h16 => ?_)
     ·have h16q := h16; try simp only [decide_eq_true_eq, decide_eq_false_iff_not, beq_iff_eq, beq_eq_false_iff_ne, bne_iff_ne, bne_eq_false_iff_eq, ne_eq, Decidable.not_not, Bool.not_eq_true, Bool.not_eq_false, gt_iff_lt, ge_iff_le, Int.not_lt, Int.not_le] at h16q
      have hend : (xs.length < endN xs true true) := by have := of_decide_eq_true h16; rw [hE]; omega
      show AWl _ _ _ _ _
      refine aBld rfl (by repeat constructor) ?_
      refine aSt st 1 rfl rfl rfl rfl (by first | rfl | simp [cellsOf, *]) (by first | decide | (simp [*]; done) | (simp [k8]; done)) (by repeat constructor) fun H17 st => ?_
      iterate 2 refine aN rfl rfl (by constructor) ?_
      refine sE ?_
      refine ⟨_, out3 (r_cellA st 1 rfl rfl (by first | decide | simp [*]) (by repeat constructor)) (r_tmp rfl (by constructor)) (r_tmp rfl (by constructor)) ⟨rfl, rfl, rfl⟩, ?_⟩
      have he := e_8' (d := true) hat (fun hc => hc.2 (of_decide_eq_true h5n)) hc3 hend
      obtain ⟨hP, hN⟩ := decP_no he (by decide)
      exact ⟨none, by rw [he, hP, hN]; rfl, by rw [hP]; exact (st.nil 5).pick 0 rfl⟩
     ·have h16q := h16; try simp only [decide_eq_true_eq, decide_eq_false_iff_not, beq_iff_eq, beq_eq_false_iff_ne, bne_iff_ne, bne_eq_false_iff_eq, ne_eq, Decidable.not_not, Bool.not_eq_true, Bool.not_eq_false, gt_iff_lt, ge_iff_le, Int.not_lt, Int.not_le] at h16q
      have hend : ¬ (xs.length < endN xs true true) := by have := of_decide_eq_false h16; rw [hE]; omega
      show AWl _ _ _ _ _
      refine aMovV x rfl ?_
      iterate 3 refine aN rfl rfl (by constructor) ?_
      refine aBinV (.int .i64 ((52 + mOf xs : Nat) : Int)) (u := .int .i64 52) (u' := .int .i64 (mOf xs : Int)) rfl rfl (congrArg (fun z => some (Value.int .i64 z)) (by rw [wi _ (by omega)]; omega)) ?_
      refine aCutLH (st.slc hx) rfl rfl rfl (by omega) fun v95 s95 => ?_
      replace s95 := s95 _ hx
      replace s95 : Sl H 1 ((xs.drop 52).take (mOf xs)).length (((xs.drop 52).take (mOf xs)).map (Value.int .u8)) v95 := by rw [show ((xs.drop 52).take (mOf xs)).length = mOf xs by rw [List.length_take, List.length_drop]; omega]; have e : ((52 + mOf xs : Nat) : Int).toNat - (52 : Int).toNat = mOf xs := (by omega); rw [e] at s95; exact s95
      refine aMovV v95 rfl ?_
      refine sE ?_
      show AWp _ _ _ _ _
      iterate 2 refine aN rfl rfl (by constructor) ?_
      refine gT rfl ?_
      refine aN rfl rfl (by constructor) ?_
      refine gT rfl ?_
      iterate 2 refine aN rfl rfl (by constructor) ?_
      refine aMovV (.bool true) (congrArg Value.bool h15) ?_
      refine gT rfl ?_
      refine aMovV v95 rfl ?_
      refine gT rfl ?_
      refine aMovV x rfl ?_
      refine gT rfl ?_
      refine aN rfl rfl (by constructor) ?_
      refine gT rfl ?_
      refine aBinV (.int .i64 ((52 + mOf xs : Nat) : Int)) (u := .int .i64 ((52 + mOf xs + 4 : Nat) : Int)) (u' := .int .i64 4) rfl rfl (congrArg (fun z => some (Value.int .i64 z)) (by rw [wi _ (by omega)]; omega)) ?_
      refine gT rfl ?_
      refine aN rfl rfl (by constructor) ?_
      refine gT rfl ?_
      refine aCutLH (st.slc hx) rfl rfl rfl (by omega) fun v109 s109 => ?_
      replace s109 := s109 _ hx
      replace s109 : Sl H 1 4 (((xs.drop (52 + (mOf xs))).take 4).map (Value.int .u8)) v109 := by have e : ((52 + mOf xs + 4 : Nat) : Int).toNat - ((52 + mOf xs : Nat) : Int).toNat = 4 := (by omega); rw [e] at s109; exact s109
      refine gT rfl ?_
      refine aText (st.slc s109) rfl ?_
      refine ⟨?_, trivial⟩
      refine gT rfl ?_
      refine aC (sum_call (xs := (xs.drop 52).take (mOf xs)) (st.slc s95) ((hb.drop _).take _) (by simp only [List.length_take, List.length_drop]; omega)) fun v103 H18 ⟨b103, hv, st1⟩ => ?_
      subst hv
      replace st := st.call st1 rfl
      clear st1
      refine ⟨⟨⟨some true, .bool true, (h_Text (st.slc s109) rfl)⟩, trivial⟩, ?_⟩
      refine gT rfl ?_
      refine aText (st.rowAll 0 rfl (by simp [beB_len])) rfl ?_
      refine gT rfl ?_
      refine aBinV (.bool (!decide (beB 4 (c32 ((xs.drop 52).take (mOf xs))) = (xs.drop (52 + (mOf xs))).take 4))) (u := .string (ofInts (beB 4 (c32 ((xs.drop 52).take (mOf xs)))))) (u' := .string (ofInts ((xs.drop (52 + (mOf xs))).take 4))) rfl rfl (by show some (Value.bool (!((ofInts (beB 4 (c32 ((xs.drop 52).take (mOf xs))))).toList == (ofInts ((xs.drop (52 + (mOf xs))).take 4)).toList))) = _; rw [texts_beq (beB_bytes _ _) ((hb.drop _).take _)]) ?_
      refine aN rfl rfl (by constructor) ?_
      refine pE ?_
      show AW _ (.cond _ _ _) _ _ _
      refine cC' rfl (fun h19 => ?_) (fun h19 => ?_)
      ·have h19q := h19; try simp only [decide_eq_true_eq, decide_eq_false_iff_not, beq_iff_eq, beq_eq_false_iff_ne, bne_iff_ne, bne_eq_false_iff_eq, ne_eq, Decidable.not_not, Bool.not_eq_true, Bool.not_eq_false, gt_iff_lt, ge_iff_le, Int.not_lt, Int.not_le] at h19q
       have h19n : decide (beB 4 (c32 ((xs.drop 52).take (mOf xs))) = (xs.drop (52 + (mOf xs))).take 4) = false := Eq.mp (Bool.not_eq_true' _) h19
       show AWl _ _ _ _ _
       refine aBld rfl (by repeat constructor) ?_
       refine aSt st 2 rfl rfl rfl rfl (by first | rfl | simp [cellsOf, *]) (by first | decide | (simp [*]; done) | (simp [k8]; done)) (by repeat constructor) fun H20 st => ?_
       iterate 2 refine aN rfl rfl (by constructor) ?_
       refine sE ?_
       refine ⟨_, out3 (r_cellA st 2 rfl rfl (by first | decide | simp [*]) (by repeat constructor)) (r_tmp rfl (by constructor)) (r_tmp rfl (by constructor)) ⟨rfl, rfl, rfl⟩, ?_⟩
       have he := e_5' (d := true) hat (fun hc => hc.2 (of_decide_eq_true h5n)) hc3 hend ⟨⟨rfl, by omega⟩, of_decide_eq_false h19n⟩
       obtain ⟨hP, hN⟩ := decP_no he (by decide)
       exact ⟨none, by rw [he, hP, hN]; rfl, by rw [hP]; exact (st.nil 5).pick 0 rfl⟩
      ·have h19q := h19; try simp only [decide_eq_true_eq, decide_eq_false_iff_not, beq_iff_eq, beq_eq_false_iff_ne, bne_iff_ne, bne_eq_false_iff_eq, ne_eq, Decidable.not_not, Bool.not_eq_true, Bool.not_eq_false, gt_iff_lt, ge_iff_le, Int.not_lt, Int.not_le] at h19q
       have h19n : decide (beB 4 (c32 ((xs.drop 52).take (mOf xs))) = (xs.drop (52 + (mOf xs))).take 4) = true := Eq.mp (Bool.not_eq_false' _) h19
       show AWl _ _ _ _ _
       refine aMovV v95 rfl ?_
       refine aN rfl rfl (by constructor) ?_
       refine aCutL (st.slc s95) rfl rfl (by rw [List.length_take, List.length_drop]; omega) fun v116 s116 => ?_
       replace s116 := s116 _ s95
       replace s116 : Sl H 1 (padN (nOf xs)) ((((xs.drop 52).take (mOf xs)).drop (nOf xs)).map (Value.int .u8)) v116 := by have e : ((xs.drop 52).take (mOf xs)).length - ((nOf xs : Int)).toNat = padN (nOf xs) := (by rw [List.length_take, List.length_drop]; omega); rw [e] at s116; exact s116
       refine aLen (st.slc s116) rfl ?_
       refine aN rfl rfl (by constructor) ?_
       refine sE ?_
       show AW _ (.loop _) _ _ _
       refine AW_loopN (fun m t1 H1 => ∃ (j : Nat), m = padN (nOf xs) - j ∧ (j ≤ padN (nOf xs)) ∧ (Zer xs (52 + nOf xs) j) ∧ t1 118 = .int .i64 (j : Int) ∧ Stt [] H H1 [⟨some b6, true, ⟨true, 26, [.int .u8 0, .int .u8 0, .int .u8 0, .int .u8 0, .int .u8 0, .int .u32 0, .int .u32 0, .int .u32 0, .int .u32 0, .int .u32 0, .int .u32 0, .int .u32 0, .int .u32 0, .slice none 0 0]⟩⟩]) (padN (nOf xs) - 0) ⟨0, rfl, by omega, fun i hi => by omega, rfl, (st.sel [2] (by decide))⟩ [7, 8, 19, 118, 119, 120, 121, 122, 123, 124, 125] (by decide) ?_
       rintro m t1 H1 hk hI
       obtain ⟨j, rfl, hj, hzr, ht118, st⟩ := hI
       obtain ⟨u, rfl⟩ : ∃ u, t1 = (upd (mix [7, 8, 19, 118, 119, 120, 121, 122, 123, 124, 125] _ u) (some 118) _) := ⟨t1, by rw [← hk, upd_self ht118]⟩
       clear hk ht118
       show AWl _ _ _ _ _
       refine aN rfl rfl (by constructor) ?_
       refine sE ?_
       show AW _ (.cond _ _ _) _ _ _
       refine cC' rfl (fun h21 => ?_) (fun h21 => ?_)
       ·have h21q := h21; try simp only [decide_eq_true_eq, decide_eq_false_iff_not, beq_iff_eq, beq_eq_false_iff_ne, bne_iff_ne, bne_eq_false_iff_eq, ne_eq, Decidable.not_not, Bool.not_eq_true, Bool.not_eq_false, gt_iff_lt, ge_iff_le, Int.not_lt, Int.not_le] at h21q
        have hlt : j < padN (nOf xs) := by have := of_decide_eq_true h21; omega
        show AWl _ _ _ _ _
        refine aIxBK (st.slc s116) rfl rfl (by omega) fun b120 o120 g120 => ?_
        refine aLdG rfl (g120 _ (st.slc s116)) ?_
        refine aN rfl rfl (by constructor) ?_
        refine sE ?_
        show AWl _ _ _ _ _
        iterate 2 refine aN rfl rfl (by constructor) ?_
        refine sE ?_
        show AW _ (.cond _ _ _) _ _ _
        refine cC' rfl (fun h22 => ?_) (fun h22 => ?_)
        ·have h22q := h22; try simp only [decide_eq_true_eq, decide_eq_false_iff_not, beq_iff_eq, beq_eq_false_iff_ne, bne_iff_ne, bne_eq_false_iff_eq, ne_eq, Decidable.not_not, Bool.not_eq_true, Bool.not_eq_false, gt_iff_lt, ge_iff_le, Int.not_lt, Int.not_le] at h22q
         have hz0 : (((xs.drop 52).take (mOf xs)).drop (nOf xs)).getD j 0 ≠ 0 := by simpa using h22
         rw [zer_at (by omega) (by unfold mOf; omega)] at hz0
         show AWl _ _ _ _ _
         refine aBld rfl (by repeat constructor) ?_
         refine aSt st 0 rfl rfl rfl rfl (by first | rfl | simp [cellsOf, *]) (by first | decide | (simp [*]; done) | (simp [k8]; done)) (by repeat constructor) fun H23 st => ?_
         iterate 2 refine aN rfl rfl (by constructor) ?_
         refine sE ?_
         refine ⟨_, out3 (r_cellA st 0 rfl rfl (by first | decide | simp [*]) (by repeat constructor)) (r_tmp rfl (by constructor)) (r_tmp rfl (by constructor)) ⟨rfl, rfl, rfl⟩, ?_⟩
         have he := e_3' (d := true) hat (fun hc => hc.2 (of_decide_eq_true h5n)) hc3 hend (fun hc => hc.2 (of_decide_eq_true h19n)) (fun hz => hz0 (hz j hlt))
         obtain ⟨hP, hN⟩ := decP_no he (by decide)
         exact ⟨none, by rw [he, hP, hN]; rfl, by rw [hP]; exact (st.nil 5).pick 0 rfl⟩
        ·have h22q := h22; try simp only [decide_eq_true_eq, decide_eq_false_iff_not, beq_iff_eq, beq_eq_false_iff_ne, bne_iff_ne, bne_eq_false_iff_eq, ne_eq, Decidable.not_not, Bool.not_eq_true, Bool.not_eq_false, gt_iff_lt, ge_iff_le, Int.not_lt, Int.not_le] at h22q
         have hz0 : (((xs.drop 52).take (mOf xs)).drop (nOf xs)).getD j 0 = 0 := by simpa using h22
         rw [zer_at (by omega) (by unfold mOf; omega)] at hz0
         show AWl _ _ _ _ _
         iterate 2 refine aN rfl rfl (by constructor) ?_
         refine sE ?_
         exact ⟨_, by omega, j + 1, rfl, by omega, hzr.step hz0, congrArg (Value.int .i64) (wi _ (by omega)), (st.sel [0] (by decide))⟩
       ·have h21q := h21; try simp only [decide_eq_true_eq, decide_eq_false_iff_not, beq_iff_eq, beq_eq_false_iff_ne, bne_iff_ne, bne_eq_false_iff_eq, ne_eq, Decidable.not_not, Bool.not_eq_true, Bool.not_eq_false, gt_iff_lt, ge_iff_le, Int.not_lt, Int.not_le] at h21q
        have hge : j = padN (nOf xs) := by have := of_decide_eq_false h21; omega
        subst hge
        show AWp _ _ _ _ _
        refine aMovV x rfl ?_
        refine aIxBK (st.slc hx) rfl rfl (by omega) fun b127 o127 g127 => ?_
        refine aLdG rfl (g127 _ (st.slc hx)) ?_
        refine aMovV x rfl ?_
        refine aIxBK (st.slc hx) rfl rfl (by omega) fun b130 o130 g130 => ?_
        refine aLdG rfl (g130 _ (st.slc hx)) ?_
        refine aMovV x rfl ?_
        refine aIxBK (st.slc hx) rfl rfl (by omega) fun b133 o133 g133 => ?_
        refine aLdG rfl (g133 _ (st.slc hx)) ?_
        refine aMovV x rfl ?_
        refine aIxBK (st.slc hx) rfl rfl (by omega) fun b136 o136 g136 => ?_
        refine aLdG rfl (g136 _ (st.slc hx)) ?_
        refine aMovV x rfl ?_
        refine aIxBK (st.slc hx) rfl rfl (by omega) fun b139 o139 g139 => ?_
        refine aLdG rfl (g139 _ (st.slc hx)) ?_
        refine aMovV v95 rfl ?_
        refine aN rfl rfl (by constructor) ?_
        refine aCutH (st.slc s95) rfl rfl (by rw [List.length_take, List.length_drop]; omega) fun v143 s143 => ?_
        replace s143 := s143 _ s95
        replace s143 : Sl H 1 (nOf xs) (((xs.drop 52).take (nOf xs)).map (Value.int .u8)) v143 := by have e : ((xs.drop 52).take (mOf xs)).take ((nOf xs : Int)).toNat = (xs.drop 52).take (nOf xs) := (by rw [List.take_take]; congr 1; omega); rw [e] at s143; exact s143
        refine ⟨?_, ?_⟩
        ·have st := st.nil 5
         have hnil : (Value.slice none 0 0) = accV none 0 1 := rfl
         refine aApp st 0 (ob := none) (n := 0) rfl rfl rfl (by decide) (rfl) (st.slc s143).src (by rw [List.length_map, List.length_take, List.length_drop]; omega) (by omega) (by omega) fun b144 H24 hp144 st => ?_
         rw [show 0 + nOf xs = nOf xs from Nat.zero_add _]
         rw [List.nil_append] at st
         refine ⟨⟨(h_LdG rfl (g139 _ (st.slc hx))), (h_LdG rfl (g136 _ (st.slc hx))), (h_LdG rfl (g133 _ (st.slc hx))), (h_LdG rfl (g130 _ (st.slc hx))), (h_LdG rfl (g127 _ (st.slc hx))), trivial⟩, ?_⟩
         refine aBld (xs := [.int .u8 (xs.getD 0 0), .int .u8 (xs.getD 1 0), .int .u8 (xs.getD 2 0), .int .u8 (xs.getD 3 0), .int .u8 (xs.getD 9 0), .int .u32 0, .int .u32 0, .int .u32 0, .int .u32 0, .int .u32 0, .int .u32 0, .int .u32 0, .int .u32 0, accV b144 (nOf xs) 1]) (by cases b144 <;> rfl) (.any _) ?_
         refine ⟨?_, trivial⟩
         refine aNewP st rfl rfl (by repeat constructor) fun b20 H25 st => ?_
         refine ⟨⟨(h_LdG rfl (g139 _ (st.slc hx))), (h_LdG rfl (g136 _ (st.slc hx))), (h_LdG rfl (g133 _ (st.slc hx))), (h_LdG rfl (g130 _ (st.slc hx))), (h_LdG rfl (g127 _ (st.slc hx))), trivial⟩, ?_⟩
         refine ⟨?_, trivial⟩
         refine aSt st 0 rfl rfl rfl rfl (by first | rfl | simp [cellsOf, *]) (by first | decide | (simp [*]; done) | (simp [k8]; done)) (by repeat constructor) fun H26 st => ?_
         refine ⟨trivial, ?_⟩
         refine pE ?_
         show AWl _ _ _ _ _
         refine aMovV x rfl ?_
         refine aC (get_call (st.slc hx) hb (by omega) (by decide)) fun v148 H27 ⟨hv, st1⟩ => ?_
         subst hv
         replace st := st.call st1 rfl
         clear st1
         iterate 5 refine aN rfl rfl (by constructor) ?_
         refine sE ?_
         show AWl _ _ _ _ _
         iterate 2 refine aN rfl rfl (by constructor) ?_
         rw [show rgetV xs 16 4 = rgetV xs ((16 : Nat) : Int) 4 from rfl, w_conv hb (by omega)]
         refine aN rfl rfl (by constructor) ?_
         refine aSt st 0 rfl rfl rfl rfl (by first | rfl | simp [cellsOf, *]) (by first | decide | (simp [*]; done) | (simp [k8]; done)) (by repeat constructor) fun H28 st => ?_
         refine sE ?_
         show AWl _ _ _ _ _
         refine aN rfl rfl (by constructor) ?_
         refine sE ?_
         show AW _ (.loop _) _ _ _
         refine AW_loopN (fun m t1 H1 => ∃ (j : Nat), m = 7 - j ∧ (j ≤ 7) ∧ t1 154 = .int .i64 (j : Int) ∧ Stt [] H H1 [⟨b144, true, ⟨true, 5, ((xs.drop 52).take (nOf xs)).map (Value.int .u8)⟩⟩, ⟨some b20, true, ⟨true, 26, [.int .u8 (xs.getD 0 0), .int .u8 (xs.getD 1 0), .int .u8 (xs.getD 2 0), .int .u8 (xs.getD 3 0), .int .u8 (xs.getD 9 0), .int .u32 (beN ((xs.drop 16).take 4)), .int .u32 (wj xs j 0), .int .u32 (wj xs j 1), .int .u32 (wj xs j 2), .int .u32 (wj xs j 3), .int .u32 (wj xs j 4), .int .u32 (wj xs j 5), .int .u32 (wj xs j 6), accV b144 (nOf xs) 1]⟩⟩, ⟨some b6, true, ⟨true, 26, [.int .u8 0, .int .u8 0, .int .u8 0, .int .u8 0, .int .u8 0, .int .u32 0, .int .u32 0, .int .u32 0, .int .u32 0, .int .u32 0, .int .u32 0, .int .u32 0, .int .u32 0, .slice none 0 0]⟩⟩]) (7 - 0) ⟨0, rfl, by omega, rfl, (st.sel [1, 0, 2] (by decide))⟩ [23, 24, 25, 154, 155, 156, 157, 158, 159, 160, 161, 162, 163, 164, 165, 166, 167, 168, 169, 170] (by decide) ?_
         rintro m t1 H1 hk hI
         obtain ⟨j, rfl, hj, ht154, st⟩ := hI
         obtain ⟨u, rfl⟩ : ∃ u, t1 = (upd (mix [23, 24, 25, 154, 155, 156, 157, 158, 159, 160, 161, 162, 163, 164, 165, 166, 167, 168, 169, 170] _ u) (some 154) _) := ⟨t1, by rw [← hk, upd_self ht154]⟩
         clear hk ht154
         show AWl _ _ _ _ _
         refine aN rfl rfl (by constructor) ?_
         refine sE ?_
         show AW _ (.cond _ _ _) _ _ _
         refine cC' rfl (fun h29 => ?_) (fun h29 => ?_)
         ·have h29q := h29; try simp only [decide_eq_true_eq, decide_eq_false_iff_not, beq_iff_eq, beq_eq_false_iff_ne, bne_iff_ne, bne_eq_false_iff_eq, ne_eq, Decidable.not_not, Bool.not_eq_true, Bool.not_eq_false, gt_iff_lt, ge_iff_le, Int.not_lt, Int.not_le] at h29q
          have hlt : j < 7 := by have := of_decide_eq_true h29; omega
          show AWl _ _ _ _ _
          iterate 2 refine aN rfl rfl (by constructor) ?_
          refine sE ?_
          show AWl _ _ _ _ _
          refine aMovV x rfl ?_
          iterate 3 refine aN rfl rfl (by constructor) ?_
          refine aC (get_call (st.slc hx) hb (by omega) (by decide)) fun v162 H30 ⟨hv, st1⟩ => ?_
          subst hv
          replace st := st.call st1 rfl
          clear st1
          iterate 5 refine aN rfl rfl (by constructor) ?_
          refine sE ?_
          show AWl _ _ _ _ _
          iterate 3 refine aN rfl rfl (by constructor) ?_
          rw [wi (4 * (j : Int)) (by omega), wi (20 + 4 * (j : Int)) (by omega), show (20 + 4 * (j : Int)) = ((20 + 4 * j : Nat) : Int) by omega, w_conv hb (by omega)]
          refine aN rfl rfl (by constructor) ?_
          refine aIxA rfl rfl (by omega) ?_
          refine aStAt st 1 rfl rfl rfl rfl rfl (by simp; omega) (row_set hlt) fun H31 st => ?_
          refine sE ?_
          show AWl _ _ _ _ _
          iterate 2 refine aN rfl rfl (by constructor) ?_
          refine sE ?_
          exact ⟨_, by omega, j + 1, rfl, by omega, congrArg (Value.int .i64) (wi _ (by omega)), (st.sel [0, 1, 2] (by decide))⟩
         ·have h29q := h29; try simp only [decide_eq_true_eq, decide_eq_false_iff_not, beq_iff_eq, beq_eq_false_iff_ne, bne_iff_ne, bne_eq_false_iff_eq, ne_eq, Decidable.not_not, Bool.not_eq_true, Bool.not_eq_false, gt_iff_lt, ge_iff_le, Int.not_lt, Int.not_le] at h29q
          have hge : j = 7 := by have := of_decide_eq_false h29; omega
          subst hge
          show AWl _ _ _ _ _
          refine aLdAll st 1 rfl rfl (rfl) ?_
          refine aN rfl rfl (by constructor) ?_
          refine aStAllA st 2 rfl rfl rfl (rfl) (rfl) fun H32 st => ?_
          iterate 2 refine aN rfl rfl (by constructor) ?_
          refine sE ?_
          refine ⟨_, out3 (r_cellA st 2 rfl rfl (by first | decide | simp [*]) (by repeat constructor)) (r_tmp rfl (by constructor)) (r_tmp rfl (by constructor)) ⟨rfl, rfl, rfl⟩, ?_⟩
          have he := e_0 (d := true) hat (fun hc => hc.2 (of_decide_eq_true h5n)) hc3 hend (fun hc => hc.2 (of_decide_eq_true h19n)) hzr
          obtain ⟨hP, hN⟩ := decP_yes he
          have hdl : (decD xs true).data.length = nOf xs := by show (((xs.drop 52).take (nOf xs)) : List Int).length = _; rw [List.length_take, List.length_drop]; omega
          refine ⟨b144, ?_, ?_⟩
          ·rw [he, hP, hN, hdl, hE]; rfl
          ·rw [hP]; exact st.pick 0 rfl
        ·refine ⟨?_, trivial⟩
         refine aNewP st rfl rfl (by repeat constructor) fun b20 H33 st => ?_
         refine ⟨⟨(h_LdG rfl (g139 _ (st.slc hx))), (h_LdG rfl (g136 _ (st.slc hx))), (h_LdG rfl (g133 _ (st.slc hx))), (h_LdG rfl (g130 _ (st.slc hx))), (h_LdG rfl (g127 _ (st.slc hx))), trivial⟩, ?_⟩
         refine ⟨?_, trivial⟩
         have st := st.nil 5
         have hnil : (Value.slice none 0 0) = accV none 0 1 := rfl
         refine aApp st 0 (ob := none) (n := 0) rfl rfl rfl (by decide) (rfl) (st.slc s143).src (by rw [List.length_map, List.length_take, List.length_drop]; omega) (by omega) (by omega) fun b144 H34 hp144 st => ?_
         rw [show 0 + nOf xs = nOf xs from Nat.zero_add _]
         rw [List.nil_append] at st
         refine ⟨⟨(h_LdG rfl (g139 _ (st.slc hx))), (h_LdG rfl (g136 _ (st.slc hx))), (h_LdG rfl (g133 _ (st.slc hx))), (h_LdG rfl (g130 _ (st.slc hx))), (h_LdG rfl (g127 _ (st.slc hx))), trivial⟩, ?_⟩
         refine aBld (xs := [.int .u8 (xs.getD 0 0), .int .u8 (xs.getD 1 0), .int .u8 (xs.getD 2 0), .int .u8 (xs.getD 3 0), .int .u8 (xs.getD 9 0), .int .u32 0, .int .u32 0, .int .u32 0, .int .u32 0, .int .u32 0, .int .u32 0, .int .u32 0, .int .u32 0, accV b144 (nOf xs) 1]) (by cases b144 <;> rfl) (.any _) ?_
         refine ⟨?_, trivial⟩
         refine aSt st 1 rfl rfl rfl rfl (by first | rfl | simp [cellsOf, *]) (by first | decide | (simp [*]; done) | (simp [k8]; done)) (by repeat constructor) fun H35 st => ?_
         refine ⟨trivial, ?_⟩
         refine pE ?_
         show AWl _ _ _ _ _
         refine aMovV x rfl ?_
         refine aC (get_call (st.slc hx) hb (by omega) (by decide)) fun v148 H36 ⟨hv, st1⟩ => ?_
         subst hv
         replace st := st.call st1 rfl
         clear st1
         iterate 5 refine aN rfl rfl (by constructor) ?_
         refine sE ?_
         show AWl _ _ _ _ _
         iterate 2 refine aN rfl rfl (by constructor) ?_
         rw [show rgetV xs 16 4 = rgetV xs ((16 : Nat) : Int) 4 from rfl, w_conv hb (by omega)]
         refine aN rfl rfl (by constructor) ?_
         refine aSt st 1 rfl rfl rfl rfl (by first | rfl | simp [cellsOf, *]) (by first | decide | (simp [*]; done) | (simp [k8]; done)) (by repeat constructor) fun H37 st => ?_
         refine sE ?_
         show AWl _ _ _ _ _
         refine aN rfl rfl (by constructor) ?_
         refine sE ?_
         show AW _ (.loop _) _ _ _
         refine AW_loopN (fun m t1 H1 => ∃ (j : Nat), m = 7 - j ∧ (j ≤ 7) ∧ t1 154 = .int .i64 (j : Int) ∧ Stt [] H H1 [⟨b144, true, ⟨true, 5, ((xs.drop 52).take (nOf xs)).map (Value.int .u8)⟩⟩, ⟨some b20, true, ⟨true, 26, [.int .u8 (xs.getD 0 0), .int .u8 (xs.getD 1 0), .int .u8 (xs.getD 2 0), .int .u8 (xs.getD 3 0), .int .u8 (xs.getD 9 0), .int .u32 (beN ((xs.drop 16).take 4)), .int .u32 (wj xs j 0), .int .u32 (wj xs j 1), .int .u32 (wj xs j 2), .int .u32 (wj xs j 3), .int .u32 (wj xs j 4), .int .u32 (wj xs j 5), .int .u32 (wj xs j 6), accV b144 (nOf xs) 1]⟩⟩, ⟨some b6, true, ⟨true, 26, [.int .u8 0, .int .u8 0, .int .u8 0, .int .u8 0, .int .u8 0, .int .u32 0, .int .u32 0, .int .u32 0, .int .u32 0, .int .u32 0, .int .u32 0, .int .u32 0, .int .u32 0, .slice none 0 0]⟩⟩]) (7 - 0) ⟨0, rfl, by omega, rfl, (st.sel [0, 1, 2] (by decide))⟩ [23, 24, 25, 154, 155, 156, 157, 158, 159, 160, 161, 162, 163, 164, 165, 166, 167, 168, 169, 170] (by decide) ?_
         rintro m t1 H1 hk hI
         obtain ⟨j, rfl, hj, ht154, st⟩ := hI
         obtain ⟨u, rfl⟩ : ∃ u, t1 = (upd (mix [23, 24, 25, 154, 155, 156, 157, 158, 159, 160, 161, 162, 163, 164, 165, 166, 167, 168, 169, 170] _ u) (some 154) _) := ⟨t1, by rw [← hk, upd_self ht154]⟩
         clear hk ht154
         show AWl _ _ _ _ _
         refine aN rfl rfl (by constructor) ?_
         refine sE ?_
         show AW _ (.cond _ _ _) _ _ _
         refine cC' rfl (fun h38 => ?_) (fun h38 => ?_)
         ·have h38q := h38; try simp only [decide_eq_true_eq, decide_eq_false_iff_not, beq_iff_eq, beq_eq_false_iff_ne, bne_iff_ne, bne_eq_false_iff_eq, ne_eq, Decidable.not_not, Bool.not_eq_true, Bool.not_eq_false, gt_iff_lt, ge_iff_le, Int.not_lt, Int.not_le] at h38q
          have hlt : j < 7 := by have := of_decide_eq_true h38; omega
          show AWl _ _ _ _ _
          iterate 2 refine aN rfl rfl (by constructor) ?_
          refine sE ?_
          show AWl _ _ _ _ _
          refine aMovV x rfl ?_
          iterate 3 refine aN rfl rfl (by constructor) ?_
          refine aC (get_call (st.slc hx) hb (by omega) (by decide)) fun v162 H39 ⟨hv, st1⟩ => ?_
          subst hv
          replace st := st.call st1 rfl
          clear st1
          iterate 5 refine aN rfl rfl (by constructor) ?_
          refine sE ?_
          show AWl _ _ _ _ _
          iterate 3 refine aN rfl rfl (by constructor) ?_
          rw [wi (4 * (j : Int)) (by omega), wi (20 + 4 * (j : Int)) (by omega), show (20 + 4 * (j : Int)) = ((20 + 4 * j : Nat) : Int) by omega, w_conv hb (by omega)]
          refine aN rfl rfl (by constructor) ?_
          refine aIxA rfl rfl (by omega) ?_
          refine aStAt st 1 rfl rfl rfl rfl rfl (by simp; omega) (row_set hlt) fun H40 st => ?_
          refine sE ?_
          show AWl _ _ _ _ _
          iterate 2 refine aN rfl rfl (by constructor) ?_
          refine sE ?_
          exact ⟨_, by omega, j + 1, rfl, by omega, congrArg (Value.int .i64) (wi _ (by omega)), (st.sel [0, 1, 2] (by decide))⟩
         ·have h38q := h38; try simp only [decide_eq_true_eq, decide_eq_false_iff_not, beq_iff_eq, beq_eq_false_iff_ne, bne_iff_ne, bne_eq_false_iff_eq, ne_eq, Decidable.not_not, Bool.not_eq_true, Bool.not_eq_false, gt_iff_lt, ge_iff_le, Int.not_lt, Int.not_le] at h38q
          have hge : j = 7 := by have := of_decide_eq_false h38; omega
          subst hge
          show AWl _ _ _ _ _
          refine aLdAll st 1 rfl rfl (rfl) ?_
          refine aN rfl rfl (by constructor) ?_
          refine aStAllA st 2 rfl rfl rfl (rfl) (rfl) fun H41 st => ?_
          iterate 2 refine aN rfl rfl (by constructor) ?_
          refine sE ?_
          refine ⟨_, out3 (r_cellA st 2 rfl rfl (by first | decide | simp [*]) (by repeat constructor)) (r_tmp rfl (by constructor)) (r_tmp rfl (by constructor)) ⟨rfl, rfl, rfl⟩, ?_⟩
          have he := e_0 (d := true) hat (fun hc => hc.2 (of_decide_eq_true h5n)) hc3 hend (fun hc => hc.2 (of_decide_eq_true h19n)) hzr
          obtain ⟨hP, hN⟩ := decP_yes he
          have hdl : (decD xs true).data.length = nOf xs := by show (((xs.drop 52).take (nOf xs)) : List Int).length = _; rw [List.length_take, List.length_drop]; omega
          refine ⟨b144, ?_, ?_⟩
          ·rw [he, hP, hN, hdl, hE]; rfl
          ·rw [hP]; exact st.pick 0 rfl
    ·have h15q := h15; try simp only [decide_eq_true_eq, decide_eq_false_iff_not, beq_iff_eq, beq_eq_false_iff_ne, bne_iff_ne, bne_eq_false_iff_eq, ne_eq, Decidable.not_not, Bool.not_eq_true, Bool.not_eq_false, gt_iff_lt, ge_iff_le, Int.not_lt, Int.not_le] at h15q
     show AWl _ _ _ _ _
     refine aMovV x rfl ?_
     have hE : endN xs true true = 52 + mOf xs + 0 := by unfold endN; rw [if_neg (fun hc => by omega)]; rfl
     refine aLen (st.slc hx) rfl ?_
     iterate 2 refine aN rfl rfl (by constructor) ?_
     refine sE ?_
     show AW _ (.cond _ _ _) _ _ _
     refine cC' rfl (fun h42 => ?_) (fun h42 => ?_)
     ·have h42q := h42; try simp only [decide_eq_true_eq, decide_eq_false_iff_not, beq_iff_eq, beq_eq_false_iff_ne, bne_iff_ne, bne_eq_false_iff_eq, ne_eq, Decidable.not_not, Bool.not_eq_true, Bool.not_eq_false, gt_iff_lt, ge_iff_le, Int.not_lt, Int.not_le] at h42q
      have hend : (xs.length < endN xs true true) := by have := of_decide_eq_true h42; rw [hE]; omega
      show AWl _ _ _ _ _
      refine aBld rfl (by repeat constructor) ?_
      refine aSt st 1 rfl rfl rfl rfl (by first | rfl | simp [cellsOf, *]) (by first | decide | (simp [*]; done) | (simp [k8]; done)) (by repeat constructor) fun H43 st => ?_
      iterate 2 refine aN rfl rfl (by constructor) ?_
      refine sE ?_
      refine ⟨_, out3 (r_cellA st 1 rfl rfl (by first | decide | simp [*]) (by repeat constructor)) (r_tmp rfl (by constructor)) (r_tmp rfl (by constructor)) ⟨rfl, rfl, rfl⟩, ?_⟩
      have he := e_8' (d := true) hat (fun hc => hc.2 (of_decide_eq_true h5n)) hc3 hend
      obtain ⟨hP, hN⟩ := decP_no he (by decide)
      exact ⟨none, by rw [he, hP, hN]; rfl, by rw [hP]; exact (st.nil 5).pick 0 rfl⟩
     ·have h42q := h42; try simp only [decide_eq_true_eq, decide_eq_false_iff_not, beq_iff_eq, beq_eq_false_iff_ne, bne_iff_ne, bne_eq_false_iff_eq, ne_eq, Decidable.not_not, Bool.not_eq_true, Bool.not_eq_false, gt_iff_lt, ge_iff_le, Int.not_lt, Int.not_le] at h42q
      have hend : ¬ (xs.length < endN xs true true) := by have := of_decide_eq_false h42; rw [hE]; omega
      show AWl _ _ _ _ _
      refine aMovV x rfl ?_
      iterate 3 refine aN rfl rfl (by constructor) ?_
      refine aBinV (.int .i64 ((52 + mOf xs : Nat) : Int)) (u := .int .i64 52) (u' := .int .i64 (mOf xs : Int)) rfl rfl (congrArg (fun z => some (Value.int .i64 z)) (by rw [wi _ (by omega)]; omega)) ?_
      refine aCutLH (st.slc hx) rfl rfl rfl (by omega) fun v95 s95 => ?_
      replace s95 := s95 _ hx
      replace s95 : Sl H 1 ((xs.drop 52).take (mOf xs)).length (((xs.drop 52).take (mOf xs)).map (Value.int .u8)) v95 := by rw [show ((xs.drop 52).take (mOf xs)).length = mOf xs by rw [List.length_take, List.length_drop]; omega]; have e : ((52 + mOf xs : Nat) : Int).toNat - (52 : Int).toNat = mOf xs := (by omega); rw [e] at s95; exact s95
      refine aMovV v95 rfl ?_
      refine sE ?_
      show AWp _ _ _ _ _
      iterate 2 refine aN rfl rfl (by constructor) ?_
      refine gT rfl ?_
      refine aN rfl rfl (by constructor) ?_
      refine gT rfl ?_
      iterate 2 refine aN rfl rfl (by constructor) ?_
      refine aMovV (.bool false) (congrArg Value.bool h15) ?_
      refine gF rfl (by decide) ?_
      refine gF rfl (by decide) ?_
      refine gF rfl (by decide) ?_
      refine gF rfl (by decide) ?_
      refine gF rfl (by decide) ?_
      refine gF rfl (by decide) ?_
      refine gF rfl (by decide) ?_
      refine ⟨gF rfl (by decide) ?_, trivial⟩
      refine ⟨⟨⟨some false, .bool false, rfl⟩, trivial⟩, ?_⟩
      refine gF rfl (by decide) ?_
      refine gF rfl (by decide) ?_
      refine aN rfl rfl (by constructor) ?_
      refine pE ?_
      show AW _ (.cond _ _ _) _ _ _
      refine cF' rfl ?_
      show AWl _ _ _ _ _
      refine aMovV v95 rfl ?_
      refine aN rfl rfl (by constructor) ?_
      refine aCutL (st.slc s95) rfl rfl (by rw [List.length_take, List.length_drop]; omega) fun v116 s116 => ?_
      replace s116 := s116 _ s95
      replace s116 : Sl H 1 (padN (nOf xs)) ((((xs.drop 52).take (mOf xs)).drop (nOf xs)).map (Value.int .u8)) v116 := by have e : ((xs.drop 52).take (mOf xs)).length - ((nOf xs : Int)).toNat = padN (nOf xs) := (by rw [List.length_take, List.length_drop]; omega); rw [e] at s116; exact s116
      refine aLen (st.slc s116) rfl ?_
      refine aN rfl rfl (by constructor) ?_
      refine sE ?_
      show AW _ (.loop _) _ _ _
      refine AW_loopN (fun m t1 H1 => ∃ (j : Nat), m = padN (nOf xs) - j ∧ (j ≤ padN (nOf xs)) ∧ (Zer xs (52 + nOf xs) j) ∧ t1 118 = .int .i64 (j : Int) ∧ Stt [] H H1 [⟨some b6, true, ⟨true, 26, [.int .u8 0, .int .u8 0, .int .u8 0, .int .u8 0, .int .u8 0, .int .u32 0, .int .u32 0, .int .u32 0, .int .u32 0, .int .u32 0, .int .u32 0, .int .u32 0, .int .u32 0, .slice none 0 0]⟩⟩]) (padN (nOf xs) - 0) ⟨0, rfl, by omega, fun i hi => by omega, rfl, (st.sel [1] (by decide))⟩ [7, 8, 19, 118, 119, 120, 121, 122, 123, 124, 125] (by decide) ?_
      rintro m t1 H1 hk hI
      obtain ⟨j, rfl, hj, hzr, ht118, st⟩ := hI
      obtain ⟨u, rfl⟩ : ∃ u, t1 = (upd (mix [7, 8, 19, 118, 119, 120, 121, 122, 123, 124, 125] _ u) (some 118) _) := ⟨t1, by rw [← hk, upd_self ht118]⟩
      clear hk ht118
      show AWl _ _ _ _ _
      refine aN rfl rfl (by constructor) ?_
      refine sE ?_
      show AW _ (.cond _ _ _) _ _ _
      refine cC' rfl (fun h44 => ?_) (fun h44 => ?_)
      ·have h44q := h44; try simp only [decide_eq_true_eq, decide_eq_false_iff_not, beq_iff_eq, beq_eq_false_iff_ne, bne_iff_ne, bne_eq_false_iff_eq, ne_eq, Decidable.not_not, Bool.not_eq_true, Bool.not_eq_false, gt_iff_lt, ge_iff_le, Int.not_lt, Int.not_le] at h44q
       have hlt : j < padN (nOf xs) := by have := of_decide_eq_true h44; omega
       show AWl _ _ _ _ _
       refine aIxBK (st.slc s116) rfl rfl (by omega) fun b120 o120 g120 => ?_
       refine aLdG rfl (g120 _ (st.slc s116)) ?_
       refine aN rfl rfl (by constructor) ?_
       refine sE ?_
       show AWl _ _ _ _ _
       iterate 2 refine aN rfl rfl (by constructor) ?_
       refine sE ?_
       show AW _ (.cond _ _ _) _ _ _
       refine cC' rfl (fun h45 => ?_) (fun h45 => ?_)
       ·have h45q := h45; try simp only [decide_eq_true_eq, decide_eq_false_iff_not, beq_iff_eq, beq_eq_false_iff_ne, bne_iff_ne, bne_eq_false_iff_eq, ne_eq, Decidable.not_not, Bool.not_eq_true, Bool.not_eq_false, gt_iff_lt, ge_iff_le, Int.not_lt, Int.not_le] at h45q
        have hz0 : (((xs.drop 52).take (mOf xs)).drop (nOf xs)).getD j 0 ≠ 0 := by simpa using h45
        rw [zer_at (by omega) (by unfold mOf; omega)] at hz0
        show AWl _ _ _ _ _
        refine aBld rfl (by repeat constructor) ?_
        refine aSt st 0 rfl rfl rfl rfl (by first | rfl | simp [cellsOf, *]) (by first | decide | (simp [*]; done) | (simp [k8]; done)) (by repeat constructor) fun H46 st => ?_
        iterate 2 refine aN rfl rfl (by constructor) ?_
        refine sE ?_
        refine ⟨_, out3 (r_cellA st 0 rfl rfl (by first | decide | simp [*]) (by repeat constructor)) (r_tmp rfl (by constructor)) (r_tmp rfl (by constructor)) ⟨rfl, rfl, rfl⟩, ?_⟩
        have he := e_3' (d := true) hat (fun hc => hc.2 (of_decide_eq_true h5n)) hc3 hend (fun hc => by have := hc.1.2; omega) (fun hz => hz0 (hz j hlt))
        obtain ⟨hP, hN⟩ := decP_no he (by decide)
        exact ⟨none, by rw [he, hP, hN]; rfl, by rw [hP]; exact (st.nil 5).pick 0 rfl⟩
       ·have h45q := h45; try simp only [decide_eq_true_eq, decide_eq_false_iff_not, beq_iff_eq, beq_eq_false_iff_ne, bne_iff_ne, bne_eq_false_iff_eq, ne_eq, Decidable.not_not, Bool.not_eq_true, Bool.not_eq_false, gt_iff_lt, ge_iff_le, Int.not_lt, Int.not_le] at h45q
        have hz0 : (((xs.drop 52).take (mOf xs)).drop (nOf xs)).getD j 0 = 0 := by simpa using h45
        rw [zer_at (by omega) (by unfold mOf; omega)] at hz0
        show AWl _ _ _ _ _
        iterate 2 refine aN rfl rfl (by constructor) ?_
        refine sE ?_
        exact ⟨_, by omega, j + 1, rfl, by omega, hzr.step hz0, congrArg (Value.int .i64) (wi _ (by omega)), (st.sel [0] (by decide))⟩
      ·have h44q := h44; try simp only [decide_eq_true_eq, decide_eq_false_iff_not, beq_iff_eq, beq_eq_false_iff_ne, bne_iff_ne, bne_eq_false_iff_eq, ne_eq, Decidable.not_not, Bool.not_eq_true, Bool.not_eq_false, gt_iff_lt, ge_iff_le, Int.not_lt, Int.not_le] at h44q
       have hge : j = padN (nOf xs) := by have := of_decide_eq_false h44; omega
       subst hge
       show AWp _ _ _ _ _
       refine aMovV x rfl ?_
       refine aIxBK (st.slc hx) rfl rfl (by omega) fun b127 o127 g127 => ?_
       refine aLdG rfl (g127 _ (st.slc hx)) ?_
       refine aMovV x rfl ?_
       refine aIxBK (st.slc hx) rfl rfl (by omega) fun b130 o130 g130 => ?_
       refine aLdG rfl (g130 _ (st.slc hx)) ?_
       refine aMovV x rfl ?_
       refine aIxBK (st.slc hx) rfl rfl (by omega) fun b133 o133 g133 => ?_
       refine aLdG rfl (g133 _ (st.slc hx)) ?_
       refine aMovV x rfl ?_
       refine aIxBK (st.slc hx) rfl rfl (by omega) fun b136 o136 g136 => ?_
       refine aLdG rfl (g136 _ (st.slc hx)) ?_
       refine aMovV x rfl ?_
       refine aIxBK (st.slc hx) rfl rfl (by omega) fun b139 o139 g139 => ?_
       refine aLdG rfl (g139 _ (st.slc hx)) ?_
       refine aMovV v95 rfl ?_
       refine aN rfl rfl (by constructor) ?_
       refine aCutH (st.slc s95) rfl rfl (by rw [List.length_take, List.length_drop]; omega) fun v143 s143 => ?_
       replace s143 := s143 _ s95
       replace s143 : Sl H 1 (nOf xs) (((xs.drop 52).take (nOf xs)).map (Value.int .u8)) v143 := by have e : ((xs.drop 52).take (mOf xs)).take ((nOf xs : Int)).toNat = (xs.drop 52).take (nOf xs) := (by rw [List.take_take]; congr 1; omega); rw [e] at s143; exact s143
       refine ⟨?_, ?_⟩
       ·have st := st.nil 5
        have hnil : (Value.slice none 0 0) = accV none 0 1 := rfl
        refine aApp st 0 (ob := none) (n := 0) rfl rfl rfl (by decide) (rfl) (st.slc s143).src (by rw [List.length_map, List.length_take, List.length_drop]; omega) (by omega) (by omega) fun b144 H47 hp144 st => ?_
        rw [show 0 + nOf xs = nOf xs from Nat.zero_add _]
        rw [List.nil_append] at st
        refine ⟨⟨(h_LdG rfl (g139 _ (st.slc hx))), (h_LdG rfl (g136 _ (st.slc hx))), (h_LdG rfl (g133 _ (st.slc hx))), (h_LdG rfl (g130 _ (st.slc hx))), (h_LdG rfl (g127 _ (st.slc hx))), trivial⟩, ?_⟩
        refine aBld (xs := [.int .u8 (xs.getD 0 0), .int .u8 (xs.getD 1 0), .int .u8 (xs.getD 2 0), .int .u8 (xs.getD 3 0), .int .u8 (xs.getD 9 0), .int .u32 0, .int .u32 0, .int .u32 0, .int .u32 0, .int .u32 0, .int .u32 0, .int .u32 0, .int .u32 0, accV b144 (nOf xs) 1]) (by cases b144 <;> rfl) (.any _) ?_
        refine ⟨?_, trivial⟩
        refine aNewP st rfl rfl (by repeat constructor) fun b20 H48 st => ?_
        refine ⟨⟨(h_LdG rfl (g139 _ (st.slc hx))), (h_LdG rfl (g136 _ (st.slc hx))), (h_LdG rfl (g133 _ (st.slc hx))), (h_LdG rfl (g130 _ (st.slc hx))), (h_LdG rfl (g127 _ (st.slc hx))), trivial⟩, ?_⟩
        refine ⟨?_, trivial⟩
        refine aSt st 0 rfl rfl rfl rfl (by first | rfl | simp [cellsOf, *]) (by first | decide | (simp [*]; done) | (simp [k8]; done)) (by repeat constructor) fun H49 st => ?_
        refine ⟨trivial, ?_⟩
        refine pE ?_
        show AWl _ _ _ _ _
        refine aMovV x rfl ?_
        refine aC (get_call (st.slc hx) hb (by omega) (by decide)) fun v148 H50 ⟨hv, st1⟩ => ?_
        subst hv
        replace st := st.call st1 rfl
        clear st1
        iterate 5 refine aN rfl rfl (by constructor) ?_
        refine sE ?_
        show AWl _ _ _ _ _
        iterate 2 refine aN rfl rfl (by constructor) ?_
        rw [show rgetV xs 16 4 = rgetV xs ((16 : Nat) : Int) 4 from rfl, w_conv hb (by omega)]
        refine aN rfl rfl (by constructor) ?_
        refine aSt st 0 rfl rfl rfl rfl (by first | rfl | simp [cellsOf, *]) (by first | decide | (simp [*]; done) | (simp [k8]; done)) (by repeat constructor) fun H51 st => ?_
        refine sE ?_
        show AWl _ _ _ _ _
        refine aN rfl rfl (by constructor) ?_
        refine sE ?_
        show AW _ (.loop _) _ _ _
        refine AW_loopN (fun m t1 H1 => ∃ (j : Nat), m = 7 - j ∧ (j ≤ 7) ∧ t1 154 = .int .i64 (j : Int) ∧ Stt [] H H1 [⟨b144, true, ⟨true, 5, ((xs.drop 52).take (nOf xs)).map (Value.int .u8)⟩⟩, ⟨some b20, true, ⟨true, 26, [.int .u8 (xs.getD 0 0), .int .u8 (xs.getD 1 0), .int .u8 (xs.getD 2 0), .int .u8 (xs.getD 3 0), .int .u8 (xs.getD 9 0), .int .u32 (beN ((xs.drop 16).take 4)), .int .u32 (wj xs j 0), .int .u32 (wj xs j 1), .int .u32 (wj xs j 2), .int .u32 (wj xs j 3), .int .u32 (wj xs j 4), .int .u32 (wj xs j 5), .int .u32 (wj xs j 6), accV b144 (nOf xs) 1]⟩⟩, ⟨some b6, true, ⟨true, 26, [.int .u8 0, .int .u8 0, .int .u8 0, .int .u8 0, .int .u8 0, .int .u32 0, .int .u32 0, .int .u32 0, .int .u32 0, .int .u32 0, .int .u32 0, .int .u32 0, .int .u32 0, .slice none 0 0]⟩⟩]) (7 - 0) ⟨0, rfl, by omega, rfl, (st.sel [1, 0, 2] (by decide))⟩ [23, 24, 25, 154, 155, 156, 157, 158, 159, 160, 161, 162, 163, 164, 165, 166, 167, 168, 169, 170] (by decide) ?_
        rintro m t1 H1 hk hI
        obtain ⟨j, rfl, hj, ht154, st⟩ := hI
        obtain ⟨u, rfl⟩ : ∃ u, t1 = (upd (mix [23, 24, 25, 154, 155, 156, 157, 158, 159, 160, 161, 162, 163, 164, 165, 166, 167, 168, 169, 170] _ u) (some 154) _) := ⟨t1, by rw [← hk, upd_self ht154]⟩
        clear hk ht154
        show AWl _ _ _ _ _
        refine aN rfl rfl (by constructor) ?_
        refine sE ?_
        show AW _ (.cond _ _ _) _ _ _
        refine cC' rfl (fun h52 => ?_) (fun h52 => ?_)
        ·have h52q := h52; try simp only [decide_eq_true_eq, decide_eq_false_iff_not, beq_iff_eq, beq_eq_false_iff_ne, bne_iff_ne, bne_eq_false_iff_eq, ne_eq, Decidable.not_not, Bool.not_eq_true, Bool.not_eq_false, gt_iff_lt, ge_iff_le, Int.not_lt, Int.not_le] at h52q
         have hlt : j < 7 := by have := of_decide_eq_true h52; omega
         show AWl _ _ _ _ _
         iterate 2 refine aN rfl rfl (by constructor) ?_
         refine sE ?_
         show AWl _ _ _ _ _
         refine aMovV x rfl ?_
         iterate 3 refine aN rfl rfl (by constructor) ?_
         refine aC (get_call (st.slc hx) hb (by omega) (by decide)) fun v162 H53 ⟨hv, st1⟩ => ?_
         subst hv
         replace st := st.call st1 rfl
         clear st1
         iterate 5 refine aN rfl rfl (by constructor) ?_
         refine sE ?_
         show AWl _ _ _ _ _
         iterate 3 refine aN rfl rfl (by constructor) ?_
         rw [wi (4 * (j : Int)) (by omega), wi (20 + 4 * (j : Int)) (by omega), show (20 + 4 * (j : Int)) = ((20 + 4 * j : Nat) : Int) by omega, w_conv hb (by omega)]
         refine aN rfl rfl (by constructor) ?_
         refine aIxA rfl rfl (by omega) ?_
         refine aStAt st 1 rfl rfl rfl rfl rfl (by simp; omega) (row_set hlt) fun H54 st => ?_
         refine sE ?_
         show AWl _ _ _ _ _
         iterate 2 refine aN rfl rfl (by constructor) ?_
         refine sE ?_
         exact ⟨_, by omega, j + 1, rfl, by omega, congrArg (Value.int .i64) (wi _ (by omega)), (st.sel [0, 1, 2] (by decide))⟩
        ·have h52q := h52; try simp only [decide_eq_true_eq, decide_eq_false_iff_not, beq_iff_eq, beq_eq_false_iff_ne, bne_iff_ne, bne_eq_false_iff_eq, ne_eq, Decidable.not_not, Bool.not_eq_true, Bool.not_eq_false, gt_iff_lt, ge_iff_le, Int.not_lt, Int.not_le] at h52q
         have hge : j = 7 := by have := of_decide_eq_false h52; omega
         subst hge
         show AWl _ _ _ _ _
         refine aLdAll st 1 rfl rfl (rfl) ?_
         refine aN rfl rfl (by constructor) ?_
         refine aStAllA st 2 rfl rfl rfl (rfl) (rfl) fun H55 st => ?_
         iterate 2 refine aN rfl rfl (by constructor) ?_
         refine sE ?_
         refine ⟨_, out3 (r_cellA st 2 rfl rfl (by first | decide | simp [*]) (by repeat constructor)) (r_tmp rfl (by constructor)) (r_tmp rfl (by constructor)) ⟨rfl, rfl, rfl⟩, ?_⟩
         have he := e_0 (d := true) hat (fun hc => hc.2 (of_decide_eq_true h5n)) hc3 hend (fun hc => by have := hc.1.2; omega) hzr
         obtain ⟨hP, hN⟩ := decP_yes he
         have hdl : (decD xs true).data.length = nOf xs := by show (((xs.drop 52).take (nOf xs)) : List Int).length = _; rw [List.length_take, List.length_drop]; omega
         refine ⟨b144, ?_, ?_⟩
         ·rw [he, hP, hN, hdl, hE]; rfl
         ·rw [hP]; exact st.pick 0 rfl
       ·refine ⟨?_, trivial⟩
        refine aNewP st rfl rfl (by repeat constructor) fun b20 H56 st => ?_
        refine ⟨⟨(h_LdG rfl (g139 _ (st.slc hx))), (h_LdG rfl (g136 _ (st.slc hx))), (h_LdG rfl (g133 _ (st.slc hx))), (h_LdG rfl (g130 _ (st.slc hx))), (h_LdG rfl (g127 _ (st.slc hx))), trivial⟩, ?_⟩
        refine ⟨?_, trivial⟩
        have st := st.nil 5
        have hnil : (Value.slice none 0 0) = accV none 0 1 := rfl
        refine aApp st 0 (ob := none) (n := 0) rfl rfl rfl (by decide) (rfl) (st.slc s143).src (by rw [List.length_map, List.length_take, List.length_drop]; omega) (by omega) (by omega) fun b144 H57 hp144 st => ?_
        rw [show 0 + nOf xs = nOf xs from Nat.zero_add _]
        rw [List.nil_append] at st
        refine ⟨⟨(h_LdG rfl (g139 _ (st.slc hx))), (h_LdG rfl (g136 _ (st.slc hx))), (h_LdG rfl (g133 _ (st.slc hx))), (h_LdG rfl (g130 _ (st.slc hx))), (h_LdG rfl (g127 _ (st.slc hx))), trivial⟩, ?_⟩
        refine aBld (xs := [.int .u8 (xs.getD 0 0), .int .u8 (xs.getD 1 0), .int .u8 (xs.getD 2 0), .int .u8 (xs.getD 3 0), .int .u8 (xs.getD 9 0), .int .u32 0, .int .u32 0, .int .u32 0, .int .u32 0, .int .u32 0, .int .u32 0, .int .u32 0, .int .u32 0, accV b144 (nOf xs) 1]) (by cases b144 <;> rfl) (.any _) ?_
        refine ⟨?_, trivial⟩
        refine aSt st 1 rfl rfl rfl rfl (by first | rfl | simp [cellsOf, *]) (by first | decide | (simp [*]; done) | (simp [k8]; done)) (by repeat constructor) fun H58 st => ?_
        refine ⟨trivial, ?_⟩
        refine pE ?_
        show AWl _ _ _ _ _
        refine aMovV x rfl ?_
        refine aC (get_call (st.slc hx) hb (by omega) (by decide)) fun v148 H59 ⟨hv, st1⟩ => ?_
        subst hv
        replace st := st.call st1 rfl
        clear st1
        iterate 5 refine aN rfl rfl (by constructor) ?_
        refine sE ?_
        show AWl _ _ _ _ _
        iterate 2 refine aN rfl rfl (by constructor) ?_
        rw [show rgetV xs 16 4 = rgetV xs ((16 : Nat) : Int) 4 from rfl, w_conv hb (by omega)]
        refine aN rfl rfl (by constructor) ?_
        refine aSt st 1 rfl rfl rfl rfl (by first | rfl | simp [cellsOf, *]) (by first | decide | (simp [*]; done) | (simp [k8]; done)) (by repeat constructor) fun H60 st => ?_
        refine sE ?_
        show AWl _ _ _ _ _
        refine aN rfl rfl (by constructor) ?_
        refine sE ?_
        show AW _ (.loop _) _ _ _
        refine AW_loopN (fun m t1 H1 => ∃ (j : Nat), m = 7 - j ∧ (j ≤ 7) ∧ t1 154 = .int .i64 (j : Int) ∧ Stt [] H H1 [⟨b144, true, ⟨true, 5, ((xs.drop 52).take (nOf xs)).map (Value.int .u8)⟩⟩, ⟨some b20, true, ⟨true, 26, [.int .u8 (xs.getD 0 0), .int .u8 (xs.getD 1 0), .int .u8 (xs.getD 2 0), .int .u8 (xs.getD 3 0), .int .u8 (xs.getD 9 0), .int .u32 (beN ((xs.drop 16).take 4)), .int .u32 (wj xs j 0), .int .u32 (wj xs j 1), .int .u32 (wj xs j 2), .int .u32 (wj xs j 3), .int .u32 (wj xs j 4), .int .u32 (wj xs j 5), .int .u32 (wj xs j 6), accV b144 (nOf xs) 1]⟩⟩, ⟨some b6, true, ⟨true, 26, [.int .u8 0, .int .u8 0, .int .u8 0, .int .u8 0, .int .u8 0, .int .u32 0, .int .u32 0, .int .u32 0, .int .u32 0, .int .u32 0, .int .u32 0, .int .u32 0, .int .u32 0, .slice none 0 0]⟩⟩]) (7 - 0) ⟨0, rfl, by omega, rfl, (st.sel [0, 1, 2] (by decide))⟩ [23, 24, 25, 154, 155, 156, 157, 158, 159, 160, 161, 162, 163, 164, 165, 166, 167, 168, 169, 170] (by decide) ?_
        rintro m t1 H1 hk hI
        obtain ⟨j, rfl, hj, ht154, st⟩ := hI
        obtain ⟨u, rfl⟩ : ∃ u, t1 = (upd (mix [23, 24, 25, 154, 155, 156, 157, 158, 159, 160, 161, 162, 163, 164, 165, 166, 167, 168, 169, 170] _ u) (some 154) _) := ⟨t1, by rw [← hk, upd_self ht154]⟩
        clear hk ht154
        show AWl _ _ _ _ _
        refine aN rfl rfl (by constructor) ?_
        refine sE ?_
        show AW _ (.cond _ _ _) _ _ _
        refine cC' rfl (fun h61 => ?_) (fun h61 => ?_)
        ·have h61q := h61; try simp only [decide_eq_true_eq, decide_eq_false_iff_not, beq_iff_eq, beq_eq_false_iff_ne, bne_iff_ne, bne_eq_false_iff_eq, ne_eq, Decidable.not_not, Bool.not_eq_true, Bool.not_eq_false, gt_iff_lt, ge_iff_le, Int.not_lt, Int.not_le] at h61q
         have hlt : j < 7 := by have := of_decide_eq_true h61; omega
         show AWl _ _ _ _ _
         iterate 2 refine aN rfl rfl (by constructor) ?_
         refine sE ?_
         show AWl _ _ _ _ _
         refine aMovV x rfl ?_
         iterate 3 refine aN rfl rfl (by constructor) ?_
         refine aC (get_call (st.slc hx) hb (by omega) (by decide)) fun v162 H62 ⟨hv, st1⟩ => ?_
         subst hv
         replace st := st.call st1 rfl
         clear st1
         iterate 5 refine aN rfl rfl (by constructor) ?_
         refine sE ?_
         show AWl _ _ _ _ _
         iterate 3 refine aN rfl rfl (by constructor) ?_
         rw [wi (4 * (j : Int)) (by omega), wi (20 + 4 * (j : Int)) (by omega), show (20 + 4 * (j : Int)) = ((20 + 4 * j : Nat) : Int) by omega, w_conv hb (by omega)]
         refine aN rfl rfl (by constructor) ?_
         refine aIxA rfl rfl (by omega) ?_
         refine aStAt st 1 rfl rfl rfl rfl rfl (by simp; omega) (row_set hlt) fun H63 st => ?_
         refine sE ?_
         show AWl _ _ _ _ _
         iterate 2 refine aN rfl rfl (by constructor) ?_
         refine sE ?_
         exact ⟨_, by omega, j + 1, rfl, by omega, congrArg (Value.int .i64) (wi _ (by omega)), (st.sel [0, 1, 2] (by decide))⟩
        ·have h61q := h61; try simp only [decide_eq_true_eq, decide_eq_false_iff_not, beq_iff_eq, beq_eq_false_iff_ne, bne_iff_ne, bne_eq_false_iff_eq, ne_eq, Decidable.not_not, Bool.not_eq_true, Bool.not_eq_false, gt_iff_lt, ge_iff_le, Int.not_lt, Int.not_le] at h61q
         have hge : j = 7 := by have := of_decide_eq_false h61; omega
         subst hge
         show AWl _ _ _ _ _
         refine aLdAll st 1 rfl rfl (rfl) ?_
         refine aN rfl rfl (by constructor) ?_
         refine aStAllA st 2 rfl rfl rfl (rfl) (rfl) fun H64 st => ?_
         iterate 2 refine aN rfl rfl (by constructor) ?_
         refine sE ?_
         refine ⟨_, out3 (r_cellA st 2 rfl rfl (by first | decide | simp [*]) (by repeat constructor)) (r_tmp rfl (by constructor)) (r_tmp rfl (by constructor)) ⟨rfl, rfl, rfl⟩, ?_⟩
         have he := e_0 (d := true) hat (fun hc => hc.2 (of_decide_eq_true h5n)) hc3 hend (fun hc => by have := hc.1.2; omega) hzr
         obtain ⟨hP, hN⟩ := decP_yes he
         have hdl : (decD xs true).data.length = nOf xs := by show (((xs.drop 52).take (nOf xs)) : List Int).length = _; rw [List.length_take, List.length_drop]; omega
         refine ⟨b144, ?_, ?_⟩
         ·rw [he, hP, hN, hdl, hE]; rfl
         ·rw [hP]; exact st.pick 0 rfl
theorem pdec_call_tf {H : Hp} {xs : List Int} {x : Value} (hx : Sl H 1 xs.length (xs.map (Value.int .u8)) x) (hb : ByteL xs) (hl : xs.length ≤ 140737488351232) :
  ACalls Try.prog 12 [x, .bool true, .bool false] H (fun v H' => ∃ ob, v = .tuple #[.agg #[.int .u8 (decP xs true false).op, .int .u8 (decP xs true false).fl, .int .u8 (decP xs true false).res, .int .u8 (decP xs true false).st, .int .u8 (decP xs true false).lun, .int .u32 (decP xs true false).tag, .int .u32 (decP xs true false).w0, .int .u32 (decP xs true false).w1, .int .u32 (decP xs true false).w2, .int .u32 (decP xs true false).w3, .int .u32 (decP xs true false).w4, .int .u32 (decP xs true false).w5, .int .u32 (decP xs true false).w6, accV ob (decP xs true false).data.length 1], .int .i64 (decN xs true false), .int .i64 (decE xs true false)] ∧ Stt [] H H' [⟨ob, true, ⟨true, 5, (decP xs true false).data.map (Value.int .u8)⟩⟩]) := by
 refine acallsW Try.func12 f12_ok (Nat.le_of_ble_eq_true rfl) fun hw => ?_
 have st : Stt [] H H [] := Stt.start hw
 unfold f12c
 show AWl _ _ _ _ _
 refine aNewP st rfl rfl (by repeat constructor) fun b6 H1 st => ?_
 iterate 2 refine aN rfl rfl (by constructor) ?_
 refine sE ?_
 show AWl _ _ _ _ _
 refine aN rfl rfl (by constructor) ?_
 refine sE ?_
 show AWl _ _ _ _ _
 refine aN rfl rfl (by constructor) ?_
 refine sE ?_
 show AW _ (.cond _ _ _) _ _ _
 refine cT rfl ?_
 show AWl _ _ _ _ _
 refine aN rfl rfl (by constructor) ?_
 refine aBinV (.int .i64 52) rfl rfl rfl ?_
 refine aN rfl rfl (by constructor) ?_
 refine sE ?_
 show AWl _ _ _ _ _
 refine aMovV x rfl ?_
 refine aLen (st.slc hx) rfl ?_
 iterate 2 refine aN rfl rfl (by constructor) ?_
 refine sE ?_
 show AW _ (.cond _ _ _) _ _ _
 refine cC' rfl (fun h2 => ?_) (fun h2 => ?_)
 ·have h2q := h2; try simp only [decide_eq_true_eq, decide_eq_false_iff_not, beq_iff_eq, beq_eq_false_iff_ne, bne_iff_ne, bne_eq_false_iff_eq, ne_eq, Decidable.not_not, Bool.not_eq_true, Bool.not_eq_false, gt_iff_lt, ge_iff_le, Int.not_lt, Int.not_le] at h2q
  have hat : (xs.length < atN true) := by have := of_decide_eq_true h2; show (xs.length < 52); omega
  have hat2 : xs.length < 52 := by have : atN true = 52 := rfl; omega
  show AWl _ _ _ _ _
  refine aBld rfl (by repeat constructor) ?_
  refine aSt st 0 rfl rfl rfl rfl (by first | rfl | simp [cellsOf, *]) (by first | decide | (simp [*]; done) | (simp [k8]; done)) (by repeat constructor) fun H3 st => ?_
  iterate 2 refine aN rfl rfl (by constructor) ?_
  refine sE ?_
  refine ⟨_, out3 (r_cellA st 0 rfl rfl (by first | decide | simp [*]) (by repeat constructor)) (r_tmp rfl (by constructor)) (r_tmp rfl (by constructor)) ⟨rfl, rfl, rfl⟩, ?_⟩
  have he := e_8 (d := false) hat
  obtain ⟨hP, hN⟩ := decP_no he (by decide)
  exact ⟨none, by rw [he, hP, hN]; rfl, by rw [hP]; exact (st.nil 5).pick 0 rfl⟩
 ·have h2q := h2; try simp only [decide_eq_true_eq, decide_eq_false_iff_not, beq_iff_eq, beq_eq_false_iff_ne, bne_iff_ne, bne_eq_false_iff_eq, ne_eq, Decidable.not_not, Bool.not_eq_true, Bool.not_eq_false, gt_iff_lt, ge_iff_le, Int.not_lt, Int.not_le] at h2q
  have hat : ¬ (xs.length < atN true) := by have := of_decide_eq_false h2; show ¬ (xs.length < 52); omega
  have hat2 : 52 ≤ xs.length := by have : atN true = 52 := rfl; omega
  show AWp _ _ _ _ _
  iterate 2 refine aN rfl rfl (by constructor) ?_
  refine gT rfl ?_
  refine aMovV x rfl ?_
  refine gT rfl ?_
  refine aCutH (st.slc hx) rfl rfl (by omega) fun v37 s37 => ?_
  replace s37 := s37 _ hx
  replace s37 : Sl H 1 (xs.take 48).length ((xs.take 48).map (Value.int .u8)) v37 := by rw [show (xs.take 48).length = 48 by rw [List.length_take]; omega]; exact s37
  refine gT rfl ?_
  refine aMovV x rfl ?_
  refine gT rfl ?_
  refine aN rfl rfl (by constructor) ?_
  refine gT rfl ?_
  refine aCutLH (st.slc hx) rfl rfl rfl (by omega) fun v42 s42 => ?_
  replace s42 := s42 _ hx
  replace s42 : Sl H 1 4 (((xs.drop 48).take 4).map (Value.int .u8)) v42 := s42
  refine gT rfl ?_
  refine aText (st.slc s42) rfl ?_
  refine ⟨?_, trivial⟩
  refine gT rfl ?_
  refine aC (sum_call (xs := xs.take 48) (st.slc s37) (hb.take 48) (by simp only [List.length_take, List.length_drop]; omega)) fun v38 H4 ⟨b38, hv, st1⟩ => ?_
  subst hv
  replace st := st.call st1 rfl
  clear st1
  refine ⟨⟨⟨some true, .bool true, (h_Text (st.slc s42) rfl)⟩, trivial⟩, ?_⟩
  refine gT rfl ?_
  refine aText (st.rowAll 0 rfl (by simp [beB_len])) rfl ?_
  refine gT rfl ?_
  refine aBinV (.bool (!decide (beB 4 (c32 (xs.take 48)) = (xs.drop 48).take 4))) (u := .string (ofInts (beB 4 (c32 (xs.take 48))))) (u' := .string (ofInts ((xs.drop 48).take 4))) rfl rfl (by show some (Value.bool (!((ofInts (beB 4 (c32 (xs.take 48)))).toList == (ofInts ((xs.drop 48).take 4)).toList))) = _; rw [texts_beq (beB_bytes _ _) ((hb.drop _).take _)]) ?_
  refine aN rfl rfl (by constructor) ?_
  refine pE ?_
  show AW _ (.cond _ _ _) _ _ _
  refine cC' rfl (fun h5 => ?_) (fun h5 => ?_)
  ·have h5q := h5; try simp only [decide_eq_true_eq, decide_eq_false_iff_not, beq_iff_eq, beq_eq_false_iff_ne, bne_iff_ne, bne_eq_false_iff_eq, ne_eq, Decidable.not_not, Bool.not_eq_true, Bool.not_eq_false, gt_iff_lt, ge_iff_le, Int.not_lt, Int.not_le] at h5q
   have h5n : decide (beB 4 (c32 (xs.take 48)) = (xs.drop 48).take 4) = false := Eq.mp (Bool.not_eq_true' _) h5
   show AWl _ _ _ _ _
   refine aBld rfl (by repeat constructor) ?_
   refine aSt st 1 rfl rfl rfl rfl (by first | rfl | simp [cellsOf, *]) (by first | decide | (simp [*]; done) | (simp [k8]; done)) (by repeat constructor) fun H6 st => ?_
   iterate 2 refine aN rfl rfl (by constructor) ?_
   refine sE ?_
   refine ⟨_, out3 (r_cellA st 1 rfl rfl (by first | decide | simp [*]) (by repeat constructor)) (r_tmp rfl (by constructor)) (r_tmp rfl (by constructor)) ⟨rfl, rfl, rfl⟩, ?_⟩
   have he := e_5 (d := false) hat ⟨rfl, of_decide_eq_false h5n⟩
   obtain ⟨hP, hN⟩ := decP_no he (by decide)
   exact ⟨none, by rw [he, hP, hN]; rfl, by rw [hP]; exact (st.nil 5).pick 0 rfl⟩
  ·have h5q := h5; try simp only [decide_eq_true_eq, decide_eq_false_iff_not, beq_iff_eq, beq_eq_false_iff_ne, bne_iff_ne, bne_eq_false_iff_eq, ne_eq, Decidable.not_not, Bool.not_eq_true, Bool.not_eq_false, gt_iff_lt, ge_iff_le, Int.not_lt, Int.not_le] at h5q
   have h5n : decide (beB 4 (c32 (xs.take 48)) = (xs.drop 48).take 4) = true := Eq.mp (Bool.not_eq_false' _) h5
   show AWl _ _ _ _ _
   refine aMovV x rfl ?_
   refine aC (get_call (st.slc hx) hb (by omega) (by decide)) fun v49 H7 ⟨hv, st1⟩ => ?_
   subst hv
   replace st := st.call st1 rfl
   clear st1
   iterate 5 refine aN rfl rfl (by constructor) ?_
   refine sE ?_
   show AWl _ _ _ _ _
   iterate 2 refine aN rfl rfl (by constructor) ?_
   rw [n_conv hb (by omega)]
   have hn24 := nOf_lt hb
   refine aN rfl rfl (by constructor) ?_
   refine sE ?_
   show AWl _ _ _ _ _
   refine aLit st rfl (by repeat constructor) fun b54 H8 st => ?_
   iterate 2 refine aN rfl rfl (by constructor) ?_
   refine sE ?_
   show AW _ (.loop _) _ _ _
   refine AW_loopN (fun m t1 H1 => ∃ (j : Nat), m = 8 - j ∧ (j ≤ 8) ∧ (Rsv xs j) ∧ (0 < j → nOf xs ≤ 8192) ∧ t1 56 = .int .i64 (j : Int) ∧ Stt [] H H1 [⟨some b54, true, ⟨true, 3, [.int .i64 4, .int .i64 8, .int .i64 10, .int .i64 11, .int .i64 12, .int .i64 13, .int .i64 14, .int .i64 15]⟩⟩, ⟨some b6, true, ⟨true, 26, [.int .u8 0, .int .u8 0, .int .u8 0, .int .u8 0, .int .u8 0, .int .u32 0, .int .u32 0, .int .u32 0, .int .u32 0, .int .u32 0, .int .u32 0, .int .u32 0, .int .u32 0, .slice none 0 0]⟩⟩]) (8 - 0) ⟨0, rfl, by omega, fun i hi => by omega, fun h => by omega, rfl, (st.sel [0, 2] (by decide))⟩ [7, 8, 14, 56, 57, 58, 59, 60, 61, 62, 63, 64, 65, 66, 67, 68, 69, 70] (by decide) ?_
   rintro m t1 H1 hk hI
   obtain ⟨j, rfl, hj, hrv, hn0, ht56, st⟩ := hI
   obtain ⟨u, rfl⟩ : ∃ u, t1 = (upd (mix [7, 8, 14, 56, 57, 58, 59, 60, 61, 62, 63, 64, 65, 66, 67, 68, 69, 70] _ u) (some 56) _) := ⟨t1, by rw [← hk, upd_self ht56]⟩
   clear hk ht56
   show AWl _ _ _ _ _
   refine aN rfl rfl (by constructor) ?_
   refine sE ?_
   show AW _ (.cond _ _ _) _ _ _
   refine cC' rfl (fun h9 => ?_) (fun h9 => ?_)
   ·have h9q := h9; try simp only [decide_eq_true_eq, decide_eq_false_iff_not, beq_iff_eq, beq_eq_false_iff_ne, bne_iff_ne, bne_eq_false_iff_eq, ne_eq, Decidable.not_not, Bool.not_eq_true, Bool.not_eq_false, gt_iff_lt, ge_iff_le, Int.not_lt, Int.not_le] at h9q
    have hlt : j < 8 := by have := of_decide_eq_true h9; simp at this; omega
    show AWl _ _ _ _ _
    refine aIxL rfl rfl (by omega) ?_
    refine aLd st 0 rfl rfl (rs_at hlt) (by constructor) ?_
    have hrs := rs_bd hlt
    refine aN rfl rfl (by constructor) ?_
    refine sE ?_
    show AWl _ _ _ _ _
    refine aMovV x rfl ?_
    refine aN rfl rfl (by constructor) ?_
    refine aIxBK (st.slc hx) rfl rfl (by omega) fun b62 o62 g62 => ?_
    refine aLdG rfl (g62 _ (st.slc hx)) ?_
    iterate 2 refine aN rfl rfl (by constructor) ?_
    refine gCase 65 rfl (fun h10 => ?_) (fun h10 => ?_)
    ·have h10q := h10; try simp only [decide_eq_true_eq, decide_eq_false_iff_not, beq_iff_eq, beq_eq_false_iff_ne, bne_iff_ne, bne_eq_false_iff_eq, ne_eq, Decidable.not_not, Bool.not_eq_true, Bool.not_eq_false, gt_iff_lt, ge_iff_le, Int.not_lt, Int.not_le] at h10q
     refine gF rfl (by decide) ?_
     refine gF rfl (by decide) ?_
     refine aN rfl rfl (by constructor) ?_
     refine sE ?_
     show AW _ (.cond _ _ _) _ _ _
     refine cT rfl ?_
     show AWl _ _ _ _ _
     refine aBld rfl (by repeat constructor) ?_
     refine aSt st 1 rfl rfl rfl rfl (by first | rfl | simp [cellsOf, *]) (by first | decide | (simp [*]; done) | (simp [k8]; done)) (by repeat constructor) fun H11 st => ?_
     iterate 2 refine aN rfl rfl (by constructor) ?_
     refine sE ?_
     refine ⟨_, out3 (r_cellA st 1 rfl rfl (by first | decide | simp [*]) (by repeat constructor)) (r_tmp rfl (by constructor)) (r_tmp rfl (by constructor)) ⟨rfl, rfl, rfl⟩, ?_⟩
     have he := e_3 (d := false) hat (fun hc => hc.2 (of_decide_eq_true h5n)) (.inr fun hr => h10q (hr j hlt))
     obtain ⟨hP, hN⟩ := decP_no he (by decide)
     exact ⟨none, by rw [he, hP, hN]; rfl, by rw [hP]; exact (st.nil 5).pick 0 rfl⟩
    ·have h10q := h10; try simp only [decide_eq_true_eq, decide_eq_false_iff_not, beq_iff_eq, beq_eq_false_iff_ne, bne_iff_ne, bne_eq_false_iff_eq, ne_eq, Decidable.not_not, Bool.not_eq_true, Bool.not_eq_false, gt_iff_lt, ge_iff_le, Int.not_lt, Int.not_le] at h10q
     refine gT rfl ?_
     refine aN rfl rfl (by constructor) ?_
     refine gT rfl ?_
     iterate 2 refine aN rfl rfl (by constructor) ?_
     refine sE ?_
     show AW _ (.cond _ _ _) _ _ _
     refine cC' rfl (fun h12 => ?_) (fun h12 => ?_)
     ·have h12q := h12; try simp only [decide_eq_true_eq, decide_eq_false_iff_not, beq_iff_eq, beq_eq_false_iff_ne, bne_iff_ne, bne_eq_false_iff_eq, ne_eq, Decidable.not_not, Bool.not_eq_true, Bool.not_eq_false, gt_iff_lt, ge_iff_le, Int.not_lt, Int.not_le] at h12q
      show AWl _ _ _ _ _
      refine aBld rfl (by repeat constructor) ?_
      refine aSt st 1 rfl rfl rfl rfl (by first | rfl | simp [cellsOf, *]) (by first | decide | (simp [*]; done) | (simp [k8]; done)) (by repeat constructor) fun H13 st => ?_
      iterate 2 refine aN rfl rfl (by constructor) ?_
      refine sE ?_
      refine ⟨_, out3 (r_cellA st 1 rfl rfl (by first | decide | simp [*]) (by repeat constructor)) (r_tmp rfl (by constructor)) (r_tmp rfl (by constructor)) ⟨rfl, rfl, rfl⟩, ?_⟩
      have he := e_3 (d := false) hat (fun hc => hc.2 (of_decide_eq_true h5n)) (.inl (by omega))
      obtain ⟨hP, hN⟩ := decP_no he (by decide)
      exact ⟨none, by rw [he, hP, hN]; rfl, by rw [hP]; exact (st.nil 5).pick 0 rfl⟩
     ·have h12q := h12; try simp only [decide_eq_true_eq, decide_eq_false_iff_not, beq_iff_eq, beq_eq_false_iff_ne, bne_iff_ne, bne_eq_false_iff_eq, ne_eq, Decidable.not_not, Bool.not_eq_true, Bool.not_eq_false, gt_iff_lt, ge_iff_le, Int.not_lt, Int.not_le] at h12q
      show AWl _ _ _ _ _
      iterate 2 refine aN rfl rfl (by constructor) ?_
      refine sE ?_
      exact ⟨_, by omega, j + 1, rfl, by omega, hrv.step h10q, fun _ => by omega, congrArg (Value.int .i64) (wi _ (by omega)), (st.sel [0, 1] (by decide))⟩
   ·have h9q := h9; try simp only [decide_eq_true_eq, decide_eq_false_iff_not, beq_iff_eq, beq_eq_false_iff_ne, bne_iff_ne, bne_eq_false_iff_eq, ne_eq, Decidable.not_not, Bool.not_eq_true, Bool.not_eq_false, gt_iff_lt, ge_iff_le, Int.not_lt, Int.not_le] at h9q
    have hge : j = 8 := by have := of_decide_eq_false h9; simp at this; omega
    subst hge
    have hn8 := hn0 (by decide)
    have hc3 : ¬ (nOf xs > 8192 ∨ ¬ Rsv xs 8) := fun hc => hc.elim (fun h => by omega) (fun h => h hrv)
    show AWl _ _ _ _ _
    iterate 2 refine aN rfl rfl (by constructor) ?_
    refine aC (pad_call (by omega)) fun v73 H14 ⟨hv, st1⟩ => ?_
    subst hv
    replace st := st.call st1 rfl
    clear st1
    refine aBinV (.int .i64 (mOf xs : Int)) (u := .int .i64 (nOf xs : Int)) (u' := .int .i64 (padN (nOf xs) : Int)) rfl rfl (congrArg (fun z => some (Value.int .i64 z)) (by have := padN_le (nOf xs); rw [wi _ (by omega)]; unfold mOf; omega)) ?_
    have hm := mOf_le xs
    have hpl := padN_le (nOf xs)
    have hmd : mOf xs = nOf xs + padN (nOf xs) := rfl
    refine aN rfl rfl (by constructor) ?_
    refine sE ?_
    show AWl _ _ _ _ _
    iterate 2 refine aN rfl rfl (by constructor) ?_
    refine aBinV (.int .i64 ((52 + mOf xs : Nat) : Int)) (u := .int .i64 52) (u' := .int .i64 (mOf xs : Int)) rfl rfl (congrArg (fun z => some (Value.int .i64 z)) (by rw [wi _ (by omega)]; omega)) ?_
    refine aN rfl rfl (by constructor) ?_
    refine sE ?_
    show AWl _ _ _ _ _
    iterate 2 refine aN rfl rfl (by constructor) ?_
    refine gF rfl (by decide) ?_
    refine gF rfl (by decide) ?_
    refine aN rfl rfl (by constructor) ?_
    refine sE ?_
    show AW _ (.cond _ _ _) _ _ _
    refine cF' rfl ?_
    show AWl _ _ _ _ _
    refine aMovV x rfl ?_
    have hE : endN xs true false = 52 + mOf xs + 0 := by unfold endN; rw [if_neg (fun hc => by cases hc.1)]; rfl
    refine aLen (st.slc hx) rfl ?_
    iterate 2 refine aN rfl rfl (by constructor) ?_
    refine sE ?_
    show AW _ (.cond _ _ _) _ _ _
    refine cC' rfl (fun h15 => ?_) (fun h15 => ?_)
    ·have h15q := h15; try simp only [decide_eq_true_eq, decide_eq_false_iff_not, beq_iff_eq, beq_eq_false_iff_ne, bne_iff_ne, bne_eq_false_iff_eq, ne_eq, Decidable.not_not, Bool.not_eq_true, Bool.not_eq_false, gt_iff_lt, ge_iff_le, Int.not_lt, Int.not_le] at h15q
     have hend : (xs.length < endN xs true false) := by have := of_decide_eq_true h15; rw [hE]; omega
     show AWl _ _ _ _ _
     refine aBld rfl (by repeat constructor) ?_
     refine aSt st 1 rfl rfl rfl rfl (by first | rfl | simp [cellsOf, *]) (by first | decide | (simp [*]; done) | (simp [k8]; done)) (by repeat constructor) fun H16 st => ?_
     iterate 2 refine aN rfl rfl (by constructor) ?_
     refine sE ?_
     refine ⟨_, out3 (r_cellA st 1 rfl rfl (by first | decide | simp [*]) (by repeat constructor)) (r_tmp rfl (by constructor)) (r_tmp rfl (by constructor)) ⟨rfl, rfl, rfl⟩, ?_⟩
     have he := e_8' (d := false) hat (fun hc => hc.2 (of_decide_eq_true h5n)) hc3 hend
     obtain ⟨hP, hN⟩ := decP_no he (by decide)
     exact ⟨none, by rw [he, hP, hN]; rfl, by rw [hP]; exact (st.nil 5).pick 0 rfl⟩
    ·have h15q := h15; try simp only [decide_eq_true_eq, decide_eq_false_iff_not, beq_iff_eq, beq_eq_false_iff_ne, bne_iff_ne, bne_eq_false_iff_eq, ne_eq, Decidable.not_not, Bool.not_eq_true, Bool.not_eq_false, gt_iff_lt, ge_iff_le, Int.not_lt, Int.not_le] at h15q
     have hend : ¬ (xs.length < endN xs true false) := by have := of_decide_eq_false h15; rw [hE]; omega
     show AWl _ _ _ _ _
     refine aMovV x rfl ?_
     iterate 3 refine aN rfl rfl (by constructor) ?_
     refine aBinV (.int .i64 ((52 + mOf xs : Nat) : Int)) (u := .int .i64 52) (u' := .int .i64 (mOf xs : Int)) rfl rfl (congrArg (fun z => some (Value.int .i64 z)) (by rw [wi _ (by omega)]; omega)) ?_
     refine aCutLH (st.slc hx) rfl rfl rfl (by omega) fun v95 s95 => ?_
     replace s95 := s95 _ hx
     replace s95 : Sl H 1 ((xs.drop 52).take (mOf xs)).length (((xs.drop 52).take (mOf xs)).map (Value.int .u8)) v95 := by rw [show ((xs.drop 52).take (mOf xs)).length = mOf xs by rw [List.length_take, List.length_drop]; omega]; have e : ((52 + mOf xs : Nat) : Int).toNat - (52 : Int).toNat = mOf xs := (by omega); rw [e] at s95; exact s95
     refine aMovV v95 rfl ?_
     refine sE ?_
     show AWp _ _ _ _ _
     iterate 2 refine aN rfl rfl (by constructor) ?_
     refine gF rfl (by decide) ?_
     refine gF rfl (by decide) ?_
     iterate 2 refine aN rfl rfl (by constructor) ?_
     refine gF rfl (by decide) ?_
     refine gF rfl (by decide) ?_
     refine gF rfl (by decide) ?_
     refine gF rfl (by decide) ?_
     refine gF rfl (by decide) ?_
     refine gF rfl (by decide) ?_
     refine gF rfl (by decide) ?_
     refine ⟨gF rfl (by decide) ?_, trivial⟩
     refine ⟨⟨⟨some false, .bool false, rfl⟩, trivial⟩, ?_⟩
     refine gF rfl (by decide) ?_
     refine gF rfl (by decide) ?_
     refine aN rfl rfl (by constructor) ?_
     refine pE ?_
     show AW _ (.cond _ _ _) _ _ _
     refine cF' rfl ?_
     show AWl _ _ _ _ _
     refine aMovV v95 rfl ?_
     refine aN rfl rfl (by constructor) ?_
     refine aCutL (st.slc s95) rfl rfl (by rw [List.length_take, List.length_drop]; omega) fun v116 s116 => ?_
     replace s116 := s116 _ s95
     replace s116 : Sl H 1 (padN (nOf xs)) ((((xs.drop 52).take (mOf xs)).drop (nOf xs)).map (Value.int .u8)) v116 := by have e : ((xs.drop 52).take (mOf xs)).length - ((nOf xs : Int)).toNat = padN (nOf xs) := (by rw [List.length_take, List.length_drop]; omega); rw [e] at s116; exact s116
     refine aLen (st.slc s116) rfl ?_
     refine aN rfl rfl (by constructor) ?_
     refine sE ?_
     show AW _ (.loop _) _ _ _
     refine AW_loopN (fun m t1 H1 => ∃ (j : Nat), m = padN (nOf xs) - j ∧ (j ≤ padN (nOf xs)) ∧ (Zer xs (52 + nOf xs) j) ∧ t1 118 = .int .i64 (j : Int) ∧ Stt [] H H1 [⟨some b6, true, ⟨true, 26, [.int .u8 0, .int .u8 0, .int .u8 0, .int .u8 0, .int .u8 0, .int .u32 0, .int .u32 0, .int .u32 0, .int .u32 0, .int .u32 0, .int .u32 0, .int .u32 0, .int .u32 0, .slice none 0 0]⟩⟩]) (padN (nOf xs) - 0) ⟨0, rfl, by omega, fun i hi => by omega, rfl, (st.sel [1] (by decide))⟩ [7, 8, 19, 118, 119, 120, 121, 122, 123, 124, 125] (by decide) ?_
     rintro m t1 H1 hk hI
     obtain ⟨j, rfl, hj, hzr, ht118, st⟩ := hI
     obtain ⟨u, rfl⟩ : ∃ u, t1 = (upd (mix [7, 8, 19, 118, 119, 120, 121, 122, 123, 124, 125] _ u) (some 118) _) := ⟨t1, by rw [← hk, upd_self ht118]⟩
     clear hk ht118
     show AWl _ _ _ _ _
     refine aN rfl rfl (by constructor) ?_
     refine sE ?_
     show AW _ (.cond _ _ _) _ _ _
     refine cC' rfl (fun h17 => ?_) (fun h17 => ?_)
     ·have h17q := h17; try simp only [decide_eq_true_eq, decide_eq_false_iff_not, beq_iff_eq, beq_eq_false_iff_ne, bne_iff_ne, bne_eq_false_iff_eq, ne_eq, Decidable.not_not, Bool.not_eq_true, Bool.not_eq_false, gt_iff_lt, ge_iff_le, Int.not_lt, Int.not_le] at h17q
      have hlt : j < padN (nOf xs) := by have := of_decide_eq_true h17; omega
      show AWl _ _ _ _ _
      refine aIxBK (st.slc s116) rfl rfl (by omega) fun b120 o120 g120 => ?_
      refine aLdG rfl (g120 _ (st.slc s116)) ?_
      refine aN rfl rfl (by constructor) ?_
      refine sE ?_
      show AWl _ _ _ _ _
      iterate 2 refine aN rfl rfl (by constructor) ?_
      refine sE ?_
      show AW _ (.cond _ _ _) _ _ _
      refine cC' rfl (fun h18 => ?_) (fun h18 => ?_)
      ·have h18q := h18; try simp only [decide_eq_true_eq, decide_eq_false_iff_not, beq_iff_eq, beq_eq_false_iff_ne, bne_iff_ne, bne_eq_false_iff_eq, ne_eq, Decidable.not_not, Bool.not_eq_true, Bool.not_eq_false, gt_iff_lt, ge_iff_le, Int.not_lt, Int.not_le] at h18q
       have hz0 : (((xs.drop 52).take (mOf xs)).drop (nOf xs)).getD j 0 ≠ 0 := by simpa using h18
       rw [zer_at (by omega) (by unfold mOf; omega)] at hz0
       show AWl _ _ _ _ _
       refine aBld rfl (by repeat constructor) ?_
       refine aSt st 0 rfl rfl rfl rfl (by first | rfl | simp [cellsOf, *]) (by first | decide | (simp [*]; done) | (simp [k8]; done)) (by repeat constructor) fun H19 st => ?_
       iterate 2 refine aN rfl rfl (by constructor) ?_
       refine sE ?_
       refine ⟨_, out3 (r_cellA st 0 rfl rfl (by first | decide | simp [*]) (by repeat constructor)) (r_tmp rfl (by constructor)) (r_tmp rfl (by constructor)) ⟨rfl, rfl, rfl⟩, ?_⟩
       have he := e_3' (d := false) hat (fun hc => hc.2 (of_decide_eq_true h5n)) hc3 hend (fun hc => by cases hc.1.1) (fun hz => hz0 (hz j hlt))
       obtain ⟨hP, hN⟩ := decP_no he (by decide)
       exact ⟨none, by rw [he, hP, hN]; rfl, by rw [hP]; exact (st.nil 5).pick 0 rfl⟩
      ·have h18q := h18; try simp only [decide_eq_true_eq, decide_eq_false_iff_not, beq_iff_eq, beq_eq_false_iff_ne, bne_iff_ne, bne_eq_false_iff_eq, ne_eq, Decidable.not_not, Bool.not_eq_true, Bool.not_eq_false, gt_iff_lt, ge_iff_le, Int.not_lt, Int.not_le] at h18q
       have hz0 : (((xs.drop 52).take (mOf xs)).drop (nOf xs)).getD j 0 = 0 := by simpa using h18
       rw [zer_at (by omega) (by unfold mOf; omega)] at hz0
       show AWl _ _ _ _ _
       iterate 2 refine aN rfl rfl (by constructor) ?_
       refine sE ?_
       exact ⟨_, by omega, j + 1, rfl, by omega, hzr.step hz0, congrArg (Value.int .i64) (wi _ (by omega)), (st.sel [0] (by decide))⟩
     ·have h17q := h17; try simp only [decide_eq_true_eq, decide_eq_false_iff_not, beq_iff_eq, beq_eq_false_iff_ne, bne_iff_ne, bne_eq_false_iff_eq, ne_eq, Decidable.not_not, Bool.not_eq_true, Bool.not_eq_false, gt_iff_lt, ge_iff_le, Int.not_lt, Int.not_le] at h17q
      have hge : j = padN (nOf xs) := by have := of_decide_eq_false h17; omega
      subst hge
      show AWp _ _ _ _ _
      refine aMovV x rfl ?_
      refine aIxBK (st.slc hx) rfl rfl (by omega) fun b127 o127 g127 => ?_
      refine aLdG rfl (g127 _ (st.slc hx)) ?_
      refine aMovV x rfl ?_
      refine aIxBK (st.slc hx) rfl rfl (by omega) fun b130 o130 g130 => ?_
      refine aLdG rfl (g130 _ (st.slc hx)) ?_
      refine aMovV x rfl ?_
      refine aIxBK (st.slc hx) rfl rfl (by omega) fun b133 o133 g133 => ?_
      refine aLdG rfl (g133 _ (st.slc hx)) ?_
      refine aMovV x rfl ?_
      refine aIxBK (st.slc hx) rfl rfl (by omega) fun b136 o136 g136 => ?_
      refine aLdG rfl (g136 _ (st.slc hx)) ?_
      refine aMovV x rfl ?_
      refine aIxBK (st.slc hx) rfl rfl (by omega) fun b139 o139 g139 => ?_
      refine aLdG rfl (g139 _ (st.slc hx)) ?_
      refine aMovV v95 rfl ?_
      refine aN rfl rfl (by constructor) ?_
      refine aCutH (st.slc s95) rfl rfl (by rw [List.length_take, List.length_drop]; omega) fun v143 s143 => ?_
      replace s143 := s143 _ s95
      replace s143 : Sl H 1 (nOf xs) (((xs.drop 52).take (nOf xs)).map (Value.int .u8)) v143 := by have e : ((xs.drop 52).take (mOf xs)).take ((nOf xs : Int)).toNat = (xs.drop 52).take (nOf xs) := (by rw [List.take_take]; congr 1; omega); rw [e] at s143; exact s143
      refine ⟨?_, ?_⟩
      ·have st := st.nil 5
       have hnil : (Value.slice none 0 0) = accV none 0 1 := rfl
       refine aApp st 0 (ob := none) (n := 0) rfl rfl rfl (by decide) (rfl) (st.slc s143).src (by rw [List.length_map, List.length_take, List.length_drop]; omega) (by omega) (by omega) fun b144 H20 hp144 st => ?_
       rw [show 0 + nOf xs = nOf xs from Nat.zero_add _]
       rw [List.nil_append] at st
       refine ⟨⟨(h_LdG rfl (g139 _ (st.slc hx))), (h_LdG rfl (g136 _ (st.slc hx))), (h_LdG rfl (g133 _ (st.slc hx))), (h_LdG rfl (g130 _ (st.slc hx))), (h_LdG rfl (g127 _ (st.slc hx))), trivial⟩, ?_⟩
       refine aBld (xs := [.int .u8 (xs.getD 0 0), .int .u8 (xs.getD 1 0), .int .u8 (xs.getD 2 0), .int .u8 (xs.getD 3 0), .int .u8 (xs.getD 9 0), .int .u32 0, .int .u32 0, .int .u32 0, .int .u32 0, .int .u32 0, .int .u32 0, .int .u32 0, .int .u32 0, accV b144 (nOf xs) 1]) (by cases b144 <;> rfl) (.any _) ?_
       refine ⟨?_, trivial⟩
       refine aNewP st rfl rfl (by repeat constructor) fun b20 H21 st => ?_
       refine ⟨⟨(h_LdG rfl (g139 _ (st.slc hx))), (h_LdG rfl (g136 _ (st.slc hx))), (h_LdG rfl (g133 _ (st.slc hx))), (h_LdG rfl (g130 _ (st.slc hx))), (h_LdG rfl (g127 _ (st.slc hx))), trivial⟩, ?_⟩
       refine ⟨?_, trivial⟩
       refine aSt st 0 rfl rfl rfl rfl (by first | rfl | simp [cellsOf, *]) (by first | decide | (simp [*]; done) | (simp [k8]; done)) (by repeat constructor) fun H22 st => ?_
       refine ⟨trivial, ?_⟩
       refine pE ?_
       show AWl _ _ _ _ _
       refine aMovV x rfl ?_
       refine aC (get_call (st.slc hx) hb (by omega) (by decide)) fun v148 H23 ⟨hv, st1⟩ => ?_
       subst hv
       replace st := st.call st1 rfl
       clear st1
       iterate 5 refine aN rfl rfl (by constructor) ?_
       refine sE ?_
       show AWl _ _ _ _ _
       iterate 2 refine aN rfl rfl (by constructor) ?_
       rw [show rgetV xs 16 4 = rgetV xs ((16 : Nat) : Int) 4 from rfl, w_conv hb (by omega)]
       refine aN rfl rfl (by constructor) ?_
       refine aSt st 0 rfl rfl rfl rfl (by first | rfl | simp [cellsOf, *]) (by first | decide | (simp [*]; done) | (simp [k8]; done)) (by repeat constructor) fun H24 st => ?_
       refine sE ?_
       show AWl _ _ _ _ _
       refine aN rfl rfl (by constructor) ?_
       refine sE ?_
       show AW _ (.loop _) _ _ _
       refine AW_loopN (fun m t1 H1 => ∃ (j : Nat), m = 7 - j ∧ (j ≤ 7) ∧ t1 154 = .int .i64 (j : Int) ∧ Stt [] H H1 [⟨b144, true, ⟨true, 5, ((xs.drop 52).take (nOf xs)).map (Value.int .u8)⟩⟩, ⟨some b20, true, ⟨true, 26, [.int .u8 (xs.getD 0 0), .int .u8 (xs.getD 1 0), .int .u8 (xs.getD 2 0), .int .u8 (xs.getD 3 0), .int .u8 (xs.getD 9 0), .int .u32 (beN ((xs.drop 16).take 4)), .int .u32 (wj xs j 0), .int .u32 (wj xs j 1), .int .u32 (wj xs j 2), .int .u32 (wj xs j 3), .int .u32 (wj xs j 4), .int .u32 (wj xs j 5), .int .u32 (wj xs j 6), accV b144 (nOf xs) 1]⟩⟩, ⟨some b6, true, ⟨true, 26, [.int .u8 0, .int .u8 0, .int .u8 0, .int .u8 0, .int .u8 0, .int .u32 0, .int .u32 0, .int .u32 0, .int .u32 0, .int .u32 0, .int .u32 0, .int .u32 0, .int .u32 0, .slice none 0 0]⟩⟩]) (7 - 0) ⟨0, rfl, by omega, rfl, (st.sel [1, 0, 2] (by decide))⟩ [23, 24, 25, 154, 155, 156, 157, 158, 159, 160, 161, 162, 163, 164, 165, 166, 167, 168, 169, 170] (by decide) ?_
       rintro m t1 H1 hk hI
       obtain ⟨j, rfl, hj, ht154, st⟩ := hI
       obtain ⟨u, rfl⟩ : ∃ u, t1 = (upd (mix [23, 24, 25, 154, 155, 156, 157, 158, 159, 160, 161, 162, 163, 164, 165, 166, 167, 168, 169, 170] _ u) (some 154) _) := ⟨t1, by rw [← hk, upd_self ht154]⟩
       clear hk ht154
       show AWl _ _ _ _ _
       refine aN rfl rfl (by constructor) ?_
       refine sE ?_
       show AW _ (.cond _ _ _) _ _ _
       refine cC' rfl (fun h25 => ?_) (fun h25 => ?_)
       ·have h25q := h25; try simp only [decide_eq_true_eq, decide_eq_false_iff_not, beq_iff_eq, beq_eq_false_iff_ne, bne_iff_ne, bne_eq_false_iff_eq, ne_eq, Decidable.not_not, Bool.not_eq_true, Bool.not_eq_false, gt_iff_lt, ge_iff_le, Int.not_lt, Int.not_le] at h25q
        have hlt : j < 7 := by have := of_decide_eq_true h25; omega
        show AWl _ _ _ _ _
        iterate 2 refine aN rfl rfl (by constructor) ?_
        refine sE ?_
        show AWl _ _ _ _ _
        refine aMovV x rfl ?_
        iterate 3 refine aN rfl rfl (by constructor) ?_
        refine aC (get_call (st.slc hx) hb (by omega) (by decide)) fun v162 H26 ⟨hv, st1⟩ => ?_
        subst hv
        replace st := st.call st1 rfl
        clear st1
        iterate 5 refine aN rfl rfl (by constructor) ?_
        refine sE ?_
        show AWl _ _ _ _ _
        iterate 3 refine aN rfl rfl (by constructor) ?_
        rw [wi (4 * (j : Int)) (by omega), wi (20 + 4 * (j : Int)) (by omega), show (20 + 4 * (j : Int)) = ((20 + 4 * j : Nat) : Int) by omega, w_conv hb (by omega)]
        refine aN rfl rfl (by constructor) ?_
        refine aIxA rfl rfl (by omega) ?_
        refine aStAt st 1 rfl rfl rfl rfl rfl (by simp; omega) (row_set hlt) fun H27 st => ?_
        refine sE ?_
        show AWl _ _ _ _ _
        iterate 2 refine aN rfl rfl (by constructor) ?_
        refine sE ?_
        exact ⟨_, by omega, j + 1, rfl, by omega, congrArg (Value.int .i64) (wi _ (by omega)), (st.sel [0, 1, 2] (by decide))⟩
       ·have h25q := h25; try simp only [decide_eq_true_eq, decide_eq_false_iff_not, beq_iff_eq, beq_eq_false_iff_ne, bne_iff_ne, bne_eq_false_iff_eq, ne_eq, Decidable.not_not, Bool.not_eq_true, Bool.not_eq_false, gt_iff_lt, ge_iff_le, Int.not_lt, Int.not_le] at h25q
        have hge : j = 7 := by have := of_decide_eq_false h25; omega
        subst hge
        show AWl _ _ _ _ _
        refine aLdAll st 1 rfl rfl (rfl) ?_
        refine aN rfl rfl (by constructor) ?_
        refine aStAllA st 2 rfl rfl rfl (rfl) (rfl) fun H28 st => ?_
        iterate 2 refine aN rfl rfl (by constructor) ?_
        refine sE ?_
        refine ⟨_, out3 (r_cellA st 2 rfl rfl (by first | decide | simp [*]) (by repeat constructor)) (r_tmp rfl (by constructor)) (r_tmp rfl (by constructor)) ⟨rfl, rfl, rfl⟩, ?_⟩
        have he := e_0 (d := false) hat (fun hc => hc.2 (of_decide_eq_true h5n)) hc3 hend (fun hc => by cases hc.1.1) hzr
        obtain ⟨hP, hN⟩ := decP_yes he
        have hdl : (decD xs true).data.length = nOf xs := by show (((xs.drop 52).take (nOf xs)) : List Int).length = _; rw [List.length_take, List.length_drop]; omega
        refine ⟨b144, ?_, ?_⟩
        ·rw [he, hP, hN, hdl, hE]; rfl
        ·rw [hP]; exact st.pick 0 rfl
      ·refine ⟨?_, trivial⟩
       refine aNewP st rfl rfl (by repeat constructor) fun b20 H29 st => ?_
       refine ⟨⟨(h_LdG rfl (g139 _ (st.slc hx))), (h_LdG rfl (g136 _ (st.slc hx))), (h_LdG rfl (g133 _ (st.slc hx))), (h_LdG rfl (g130 _ (st.slc hx))), (h_LdG rfl (g127 _ (st.slc hx))), trivial⟩, ?_⟩
       refine ⟨?_, trivial⟩
       have st := st.nil 5
       have hnil : (Value.slice none 0 0) = accV none 0 1 := rfl
       refine aApp st 0 (ob := none) (n := 0) rfl rfl rfl (by decide) (rfl) (st.slc s143).src (by rw [List.length_map, List.length_take, List.length_drop]; omega) (by omega) (by omega) fun b144 H30 hp144 st => ?_
       rw [show 0 + nOf xs = nOf xs from Nat.zero_add _]
       rw [List.nil_append] at st
       refine ⟨⟨(h_LdG rfl (g139 _ (st.slc hx))), (h_LdG rfl (g136 _ (st.slc hx))), (h_LdG rfl (g133 _ (st.slc hx))), (h_LdG rfl (g130 _ (st.slc hx))), (h_LdG rfl (g127 _ (st.slc hx))), trivial⟩, ?_⟩
       refine aBld (xs := [.int .u8 (xs.getD 0 0), .int .u8 (xs.getD 1 0), .int .u8 (xs.getD 2 0), .int .u8 (xs.getD 3 0), .int .u8 (xs.getD 9 0), .int .u32 0, .int .u32 0, .int .u32 0, .int .u32 0, .int .u32 0, .int .u32 0, .int .u32 0, .int .u32 0, accV b144 (nOf xs) 1]) (by cases b144 <;> rfl) (.any _) ?_
       refine ⟨?_, trivial⟩
       refine aSt st 1 rfl rfl rfl rfl (by first | rfl | simp [cellsOf, *]) (by first | decide | (simp [*]; done) | (simp [k8]; done)) (by repeat constructor) fun H31 st => ?_
       refine ⟨trivial, ?_⟩
       refine pE ?_
       show AWl _ _ _ _ _
       refine aMovV x rfl ?_
       refine aC (get_call (st.slc hx) hb (by omega) (by decide)) fun v148 H32 ⟨hv, st1⟩ => ?_
       subst hv
       replace st := st.call st1 rfl
       clear st1
       iterate 5 refine aN rfl rfl (by constructor) ?_
       refine sE ?_
       show AWl _ _ _ _ _
       iterate 2 refine aN rfl rfl (by constructor) ?_
       rw [show rgetV xs 16 4 = rgetV xs ((16 : Nat) : Int) 4 from rfl, w_conv hb (by omega)]
       refine aN rfl rfl (by constructor) ?_
       refine aSt st 1 rfl rfl rfl rfl (by first | rfl | simp [cellsOf, *]) (by first | decide | (simp [*]; done) | (simp [k8]; done)) (by repeat constructor) fun H33 st => ?_
       refine sE ?_
       show AWl _ _ _ _ _
       refine aN rfl rfl (by constructor) ?_
       refine sE ?_
       show AW _ (.loop _) _ _ _
       refine AW_loopN (fun m t1 H1 => ∃ (j : Nat), m = 7 - j ∧ (j ≤ 7) ∧ t1 154 = .int .i64 (j : Int) ∧ Stt [] H H1 [⟨b144, true, ⟨true, 5, ((xs.drop 52).take (nOf xs)).map (Value.int .u8)⟩⟩, ⟨some b20, true, ⟨true, 26, [.int .u8 (xs.getD 0 0), .int .u8 (xs.getD 1 0), .int .u8 (xs.getD 2 0), .int .u8 (xs.getD 3 0), .int .u8 (xs.getD 9 0), .int .u32 (beN ((xs.drop 16).take 4)), .int .u32 (wj xs j 0), .int .u32 (wj xs j 1), .int .u32 (wj xs j 2), .int .u32 (wj xs j 3), .int .u32 (wj xs j 4), .int .u32 (wj xs j 5), .int .u32 (wj xs j 6), accV b144 (nOf xs) 1]⟩⟩, ⟨some b6, true, ⟨true, 26, [.int .u8 0, .int .u8 0, .int .u8 0, .int .u8 0, .int .u8 0, .int .u32 0, .int .u32 0, .int .u32 0, .int .u32 0, .int .u32 0, .int .u32 0, .int .u32 0, .int .u32 0, .slice none 0 0]⟩⟩]) (7 - 0) ⟨0, rfl, by omega, rfl, (st.sel [0, 1, 2] (by decide))⟩ [23, 24, 25, 154, 155, 156, 157, 158, 159, 160, 161, 162, 163, 164, 165, 166, 167, 168, 169, 170] (by decide) ?_
       rintro m t1 H1 hk hI
       obtain ⟨j, rfl, hj, ht154, st⟩ := hI
       obtain ⟨u, rfl⟩ : ∃ u, t1 = (upd (mix [23, 24, 25, 154, 155, 156, 157, 158, 159, 160, 161, 162, 163, 164, 165, 166, 167, 168, 169, 170] _ u) (some 154) _) := ⟨t1, by rw [← hk, upd_self ht154]⟩
       clear hk ht154
       show AWl _ _ _ _ _
       refine aN rfl rfl (by constructor) ?_
       refine sE ?_
       show AW _ (.cond _ _ _) _ _ _
       refine cC' rfl (fun h34 => ?_) (fun h34 => ?_)
       ·have h34q := h34; try simp only [decide_eq_true_eq, decide_eq_false_iff_not, beq_iff_eq, beq_eq_false_iff_ne, bne_iff_ne, bne_eq_false_iff_eq, ne_eq, Decidable.not_not, Bool.not_eq_true, Bool.not_eq_false, gt_iff_lt, ge_iff_le, Int.not_lt, Int.not_le] at h34q
        have hlt : j < 7 := by have := of_decide_eq_true h34; omega
        show AWl _ _ _ _ _
        iterate 2 refine aN rfl rfl (by constructor) ?_
        refine sE ?_
        show AWl _ _ _ _ _
        refine aMovV x rfl ?_
        iterate 3 refine aN rfl rfl (by constructor) ?_
        refine aC (get_call (st.slc hx) hb (by omega) (by decide)) fun v162 H35 ⟨hv, st1⟩ => ?_
        subst hv
        replace st := st.call st1 rfl
        clear st1
        iterate 5 refine aN rfl rfl (by constructor) ?_
        refine sE ?_
        show AWl _ _ _ _ _
        iterate 3 refine aN rfl rfl (by constructor) ?_
        rw [wi (4 * (j : Int)) (by omega), wi (20 + 4 * (j : Int)) (by omega), show (20 + 4 * (j : Int)) = ((20 + 4 * j : Nat) : Int) by omega, w_conv hb (by omega)]
        refine aN rfl rfl (by constructor) ?_
        refine aIxA rfl rfl (by omega) ?_
        refine aStAt st 1 rfl rfl rfl rfl rfl (by simp; omega) (row_set hlt) fun H36 st => ?_
        refine sE ?_
        show AWl _ _ _ _ _
        iterate 2 refine aN rfl rfl (by constructor) ?_
        refine sE ?_
        exact ⟨_, by omega, j + 1, rfl, by omega, congrArg (Value.int .i64) (wi _ (by omega)), (st.sel [0, 1, 2] (by decide))⟩
       ·have h34q := h34; try simp only [decide_eq_true_eq, decide_eq_false_iff_not, beq_iff_eq, beq_eq_false_iff_ne, bne_iff_ne, bne_eq_false_iff_eq, ne_eq, Decidable.not_not, Bool.not_eq_true, Bool.not_eq_false, gt_iff_lt, ge_iff_le, Int.not_lt, Int.not_le] at h34q
        have hge : j = 7 := by have := of_decide_eq_false h34; omega
        subst hge
        show AWl _ _ _ _ _
        refine aLdAll st 1 rfl rfl (rfl) ?_
        refine aN rfl rfl (by constructor) ?_
        refine aStAllA st 2 rfl rfl rfl (rfl) (rfl) fun H37 st => ?_
        iterate 2 refine aN rfl rfl (by constructor) ?_
        refine sE ?_
        refine ⟨_, out3 (r_cellA st 2 rfl rfl (by first | decide | simp [*]) (by repeat constructor)) (r_tmp rfl (by constructor)) (r_tmp rfl (by constructor)) ⟨rfl, rfl, rfl⟩, ?_⟩
        have he := e_0 (d := false) hat (fun hc => hc.2 (of_decide_eq_true h5n)) hc3 hend (fun hc => by cases hc.1.1) hzr
        obtain ⟨hP, hN⟩ := decP_yes he
        have hdl : (decD xs true).data.length = nOf xs := by show (((xs.drop 52).take (nOf xs)) : List Int).length = _; rw [List.length_take, List.length_drop]; omega
        refine ⟨b144, ?_, ?_⟩
        ·rw [he, hP, hN, hdl, hE]; rfl
        ·rw [hP]; exact st.pick 0 rfl
theorem pdec_call_ft {H : Hp} {xs : List Int} {x : Value} (hx : Sl H 1 xs.length (xs.map (Value.int .u8)) x) (hb : ByteL xs) (hl : xs.length ≤ 140737488351232) :
  ACalls Try.prog 12 [x, .bool false, .bool true] H (fun v H' => ∃ ob, v = .tuple #[.agg #[.int .u8 (decP xs false true).op, .int .u8 (decP xs false true).fl, .int .u8 (decP xs false true).res, .int .u8 (decP xs false true).st, .int .u8 (decP xs false true).lun, .int .u32 (decP xs false true).tag, .int .u32 (decP xs false true).w0, .int .u32 (decP xs false true).w1, .int .u32 (decP xs false true).w2, .int .u32 (decP xs false true).w3, .int .u32 (decP xs false true).w4, .int .u32 (decP xs false true).w5, .int .u32 (decP xs false true).w6, accV ob (decP xs false true).data.length 1], .int .i64 (decN xs false true), .int .i64 (decE xs false true)] ∧ Stt [] H H' [⟨ob, true, ⟨true, 5, (decP xs false true).data.map (Value.int .u8)⟩⟩]) := by
 refine acallsW Try.func12 f12_ok (Nat.le_of_ble_eq_true rfl) fun hw => ?_
 have st : Stt [] H H [] := Stt.start hw
 unfold f12c
 show AWl _ _ _ _ _
 refine aNewP st rfl rfl (by repeat constructor) fun b6 H1 st => ?_
 iterate 2 refine aN rfl rfl (by constructor) ?_
 refine sE ?_
 show AWl _ _ _ _ _
 refine aN rfl rfl (by constructor) ?_
 refine sE ?_
 show AWl _ _ _ _ _
 refine aN rfl rfl (by constructor) ?_
 refine sE ?_
 show AW _ (.cond _ _ _) _ _ _
 refine cF' rfl ?_
 show AWl _ _ _ _ _
 refine aMovV x rfl ?_
 refine aLen (st.slc hx) rfl ?_
 iterate 2 refine aN rfl rfl (by constructor) ?_
 refine sE ?_
 show AW _ (.cond _ _ _) _ _ _
 refine cC' rfl (fun h2 => ?_) (fun h2 => ?_)
 ·have h2q := h2; try simp only [decide_eq_true_eq, decide_eq_false_iff_not, beq_iff_eq, beq_eq_false_iff_ne, bne_iff_ne, bne_eq_false_iff_eq, ne_eq, Decidable.not_not, Bool.not_eq_true, Bool.not_eq_false, gt_iff_lt, ge_iff_le, Int.not_lt, Int.not_le] at h2q
  have hat : (xs.length < atN false) := by have := of_decide_eq_true h2; show (xs.length < 48); omega
  have hat2 : xs.length < 48 := by have : atN false = 48 := rfl; omega
  show AWl _ _ _ _ _
  refine aBld rfl (by repeat constructor) ?_
  refine aSt st 0 rfl rfl rfl rfl (by first | rfl | simp [cellsOf, *]) (by first | decide | (simp [*]; done) | (simp [k8]; done)) (by repeat constructor) fun H3 st => ?_
  iterate 2 refine aN rfl rfl (by constructor) ?_
  refine sE ?_
  refine ⟨_, out3 (r_cellA st 0 rfl rfl (by first | decide | simp [*]) (by repeat constructor)) (r_tmp rfl (by constructor)) (r_tmp rfl (by constructor)) ⟨rfl, rfl, rfl⟩, ?_⟩
  have he := e_8 (d := true) hat
  obtain ⟨hP, hN⟩ := decP_no he (by decide)
  exact ⟨none, by rw [he, hP, hN]; rfl, by rw [hP]; exact (st.nil 5).pick 0 rfl⟩
 ·have h2q := h2; try simp only [decide_eq_true_eq, decide_eq_false_iff_not, beq_iff_eq, beq_eq_false_iff_ne, bne_iff_ne, bne_eq_false_iff_eq, ne_eq, Decidable.not_not, Bool.not_eq_true, Bool.not_eq_false, gt_iff_lt, ge_iff_le, Int.not_lt, Int.not_le] at h2q
  have hat : ¬ (xs.length < atN false) := by have := of_decide_eq_false h2; show ¬ (xs.length < 48); omega
  have hat2 : 48 ≤ xs.length := by have : atN false = 48 := rfl; omega
  show AWp _ _ _ _ _
  iterate 2 refine aN rfl rfl (by constructor) ?_
  refine gF rfl (by decide) ?_
  refine gF rfl (by decide) ?_
  refine gF rfl (by decide) ?_
  refine gF rfl (by decide) ?_
  refine gF rfl (by decide) ?_
  refine gF rfl (by decide) ?_
  refine ⟨gF rfl (by decide) ?_, trivial⟩
  refine ⟨⟨⟨some false, .bool false, rfl⟩, trivial⟩, ?_⟩
  refine gF rfl (by decide) ?_
  refine gF rfl (by decide) ?_
  refine aN rfl rfl (by constructor) ?_
  refine pE ?_
  show AW _ (.cond _ _ _) _ _ _
  refine cF' rfl ?_
  show AWl _ _ _ _ _
  refine aMovV x rfl ?_
  refine aC (get_call (st.slc hx) hb (by omega) (by decide)) fun v49 H4 ⟨hv, st1⟩ => ?_
  subst hv
  replace st := st.call st1 rfl
  clear st1
  iterate 5 refine aN rfl rfl (by constructor) ?_
  refine sE ?_
  show AWl _ _ _ _ _
  iterate 2 refine aN rfl rfl (by constructor) ?_
  rw [n_conv hb (by omega)]
  have hn24 := nOf_lt hb
  refine aN rfl rfl (by constructor) ?_
  refine sE ?_
  show AWl _ _ _ _ _
  refine aLit st rfl (by repeat constructor) fun b54 H5 st => ?_
  iterate 2 refine aN rfl rfl (by constructor) ?_
  refine sE ?_
  show AW _ (.loop _) _ _ _
  refine AW_loopN (fun m t1 H1 => ∃ (j : Nat), m = 8 - j ∧ (j ≤ 8) ∧ (Rsv xs j) ∧ (0 < j → nOf xs ≤ 8192) ∧ t1 56 = .int .i64 (j : Int) ∧ Stt [] H H1 [⟨some b54, true, ⟨true, 3, [.int .i64 4, .int .i64 8, .int .i64 10, .int .i64 11, .int .i64 12, .int .i64 13, .int .i64 14, .int .i64 15]⟩⟩, ⟨some b6, true, ⟨true, 26, [.int .u8 0, .int .u8 0, .int .u8 0, .int .u8 0, .int .u8 0, .int .u32 0, .int .u32 0, .int .u32 0, .int .u32 0, .int .u32 0, .int .u32 0, .int .u32 0, .int .u32 0, .slice none 0 0]⟩⟩]) (8 - 0) ⟨0, rfl, by omega, fun i hi => by omega, fun h => by omega, rfl, (st.sel [0, 1] (by decide))⟩ [7, 8, 14, 56, 57, 58, 59, 60, 61, 62, 63, 64, 65, 66, 67, 68, 69, 70] (by decide) ?_
  rintro m t1 H1 hk hI
  obtain ⟨j, rfl, hj, hrv, hn0, ht56, st⟩ := hI
  obtain ⟨u, rfl⟩ : ∃ u, t1 = (upd (mix [7, 8, 14, 56, 57, 58, 59, 60, 61, 62, 63, 64, 65, 66, 67, 68, 69, 70] _ u) (some 56) _) := ⟨t1, by rw [← hk, upd_self ht56]⟩
  clear hk ht56
  show AWl _ _ _ _ _
  refine aN rfl rfl (by constructor) ?_
  refine sE ?_
  show AW _ (.cond _ _ _) _ _ _
  refine cC' rfl (fun h6 => ?_) (fun h6 => ?_)
  ·have h6q := h6; try simp only [decide_eq_true_eq, decide_eq_false_iff_not, beq_iff_eq, beq_eq_false_iff_ne, bne_iff_ne, bne_eq_false_iff_eq, ne_eq, Decidable.not_not, Bool.not_eq_true, Bool.not_eq_false, gt_iff_lt, ge_iff_le, Int.not_lt, Int.not_le] at h6q
   have hlt : j < 8 := by have := of_decide_eq_true h6; simp at this; omega
   show AWl _ _ _ _ _
   refine aIxL rfl rfl (by omega) ?_
   refine aLd st 0 rfl rfl (rs_at hlt) (by constructor) ?_
   have hrs := rs_bd hlt
   refine aN rfl rfl (by constructor) ?_
   refine sE ?_
   show AWl _ _ _ _ _
   refine aMovV x rfl ?_
   refine aN rfl rfl (by constructor) ?_
   refine aIxBK (st.slc hx) rfl rfl (by omega) fun b62 o62 g62 => ?_
   refine aLdG rfl (g62 _ (st.slc hx)) ?_
   iterate 2 refine aN rfl rfl (by constructor) ?_
   refine gCase 65 rfl (fun h7 => ?_) (fun h7 => ?_)
   ·have h7q := h7; try simp only [decide_eq_true_eq, decide_eq_false_iff_not, beq_iff_eq, beq_eq_false_iff_ne, bne_iff_ne, bne_eq_false_iff_eq, ne_eq, Decidable.not_not, Bool.not_eq_true, Bool.not_eq_false, gt_iff_lt, ge_iff_le, Int.not_lt, Int.not_le] at h7q
    refine gF rfl (by decide) ?_
    refine gF rfl (by decide) ?_
    refine aN rfl rfl (by constructor) ?_
    refine sE ?_
    show AW _ (.cond _ _ _) _ _ _
    refine cT rfl ?_
    show AWl _ _ _ _ _
    refine aBld rfl (by repeat constructor) ?_
    refine aSt st 1 rfl rfl rfl rfl (by first | rfl | simp [cellsOf, *]) (by first | decide | (simp [*]; done) | (simp [k8]; done)) (by repeat constructor) fun H8 st => ?_
    iterate 2 refine aN rfl rfl (by constructor) ?_
    refine sE ?_
    refine ⟨_, out3 (r_cellA st 1 rfl rfl (by first | decide | simp [*]) (by repeat constructor)) (r_tmp rfl (by constructor)) (r_tmp rfl (by constructor)) ⟨rfl, rfl, rfl⟩, ?_⟩
    have he := e_3 (d := true) hat (fun hc => by cases hc.1) (.inr fun hr => h7q (hr j hlt))
    obtain ⟨hP, hN⟩ := decP_no he (by decide)
    exact ⟨none, by rw [he, hP, hN]; rfl, by rw [hP]; exact (st.nil 5).pick 0 rfl⟩
   ·have h7q := h7; try simp only [decide_eq_true_eq, decide_eq_false_iff_not, beq_iff_eq, beq_eq_false_iff_ne, bne_iff_ne, bne_eq_false_iff_eq, ne_eq, Decidable.not_not, Bool.not_eq_true, Bool.not_eq_false, gt_iff_lt, ge_iff_le, Int.not_lt, Int.not_le] at h7q
    refine gT rfl ?_
    refine aN rfl rfl (by constructor) ?_
    refine gT rfl ?_
    iterate 2 refine aN rfl rfl (by constructor) ?_
    refine sE ?_
    show AW _ (.cond _ _ _) _ _ _
    refine cC' rfl (fun h9 => ?_) (fun h9 => ?_)
    ·have h9q := h9; try simp only [decide_eq_true_eq, decide_eq_false_iff_not, beq_iff_eq, beq_eq_false_iff_ne, bne_iff_ne, bne_eq_false_iff_eq, ne_eq, Decidable.not_not, Bool.not_eq_true, Bool.not_eq_false, gt_iff_lt, ge_iff_le, Int.not_lt, Int.not_le] at h9q
     show AWl _ _ _ _ _
     refine aBld rfl (by repeat constructor) ?_
     refine aSt st 1 rfl rfl rfl rfl (by first | rfl | simp [cellsOf, *]) (by first | decide | (simp [*]; done) | (simp [k8]; done)) (by repeat constructor) fun H10 st => ?_
     iterate 2 refine aN rfl rfl (by constructor) ?_
     refine sE ?_
     refine ⟨_, out3 (r_cellA st 1 rfl rfl (by first | decide | simp [*]) (by repeat constructor)) (r_tmp rfl (by constructor)) (r_tmp rfl (by constructor)) ⟨rfl, rfl, rfl⟩, ?_⟩
     have he := e_3 (d := true) hat (fun hc => by cases hc.1) (.inl (by omega))
     obtain ⟨hP, hN⟩ := decP_no he (by decide)
     exact ⟨none, by rw [he, hP, hN]; rfl, by rw [hP]; exact (st.nil 5).pick 0 rfl⟩
    ·have h9q := h9; try simp only [decide_eq_true_eq, decide_eq_false_iff_not, beq_iff_eq, beq_eq_false_iff_ne, bne_iff_ne, bne_eq_false_iff_eq, ne_eq, Decidable.not_not, Bool.not_eq_true, Bool.not_eq_false, gt_iff_lt, ge_iff_le, Int.not_lt, Int.not_le] at h9q
     show AWl _ _ _ _ _
     iterate 2 refine aN rfl rfl (by constructor) ?_
     refine sE ?_
     exact ⟨_, by omega, j + 1, rfl, by omega, hrv.step h7q, fun _ => by omega, congrArg (Value.int .i64) (wi _ (by omega)), (st.sel [0, 1] (by decide))⟩
  ·have h6q := h6; try simp only [decide_eq_true_eq, decide_eq_false_iff_not, beq_iff_eq, beq_eq_false_iff_ne, bne_iff_ne, bne_eq_false_iff_eq, ne_eq, Decidable.not_not, Bool.not_eq_true, Bool.not_eq_false, gt_iff_lt, ge_iff_le, Int.not_lt, Int.not_le] at h6q
   have hge : j = 8 := by have := of_decide_eq_false h6; simp at this; omega
   subst hge
   have hn8 := hn0 (by decide)
   have hc3 : ¬ (nOf xs > 8192 ∨ ¬ Rsv xs 8) := fun hc => hc.elim (fun h => by omega) (fun h => h hrv)
   show AWl _ _ _ _ _
   iterate 2 refine aN rfl rfl (by constructor) ?_
   refine aC (pad_call (by omega)) fun v73 H11 ⟨hv, st1⟩ => ?_
   subst hv
   replace st := st.call st1 rfl
   clear st1
   refine aBinV (.int .i64 (mOf xs : Int)) (u := .int .i64 (nOf xs : Int)) (u' := .int .i64 (padN (nOf xs) : Int)) rfl rfl (congrArg (fun z => some (Value.int .i64 z)) (by have := padN_le (nOf xs); rw [wi _ (by omega)]; unfold mOf; omega)) ?_
   have hm := mOf_le xs
   have hpl := padN_le (nOf xs)
   have hmd : mOf xs = nOf xs + padN (nOf xs) := rfl
   refine aN rfl rfl (by constructor) ?_
   refine sE ?_
   show AWl _ _ _ _ _
   iterate 2 refine aN rfl rfl (by constructor) ?_
   refine aBinV (.int .i64 ((48 + mOf xs : Nat) : Int)) (u := .int .i64 48) (u' := .int .i64 (mOf xs : Int)) rfl rfl (congrArg (fun z => some (Value.int .i64 z)) (by rw [wi _ (by omega)]; omega)) ?_
   refine aN rfl rfl (by constructor) ?_
   refine sE ?_
   show AWl _ _ _ _ _
   iterate 2 refine aN rfl rfl (by constructor) ?_
   refine gT rfl ?_
   refine aN rfl rfl (by constructor) ?_
   refine gT rfl ?_
   iterate 2 refine aN rfl rfl (by constructor) ?_
   refine sE ?_
   show AW _ (.cond _ _ _) _ _ _
   refine cC' rfl (fun h12 => ?_) (fun h12 => ?_)
   ·have h12q := h12; try simp only [decide_eq_true_eq, decide_eq_false_iff_not, beq_iff_eq, beq_eq_false_iff_ne, bne_iff_ne, bne_eq_false_iff_eq, ne_eq, Decidable.not_not, Bool.not_eq_true, Bool.not_eq_false, gt_iff_lt, ge_iff_le, Int.not_lt, Int.not_le] at h12q
    show AWl _ _ _ _ _
    refine aN rfl rfl (by constructor) ?_
    refine aBinV (.int .i64 ((48 + mOf xs + 4 : Nat) : Int)) (u := .int .i64 ((48 + mOf xs : Nat) : Int)) (u' := .int .i64 4) rfl rfl (congrArg (fun z => some (Value.int .i64 z)) (by rw [wi _ (by omega)]; omega)) ?_
    refine aN rfl rfl (by constructor) ?_
    refine sE ?_
    show AWl _ _ _ _ _
    refine aMovV x rfl ?_
    have hE : endN xs false true = 48 + mOf xs + 4 := by unfold endN; rw [if_pos ⟨rfl, by omega⟩]; rfl
    refine aLen (st.slc hx) rfl ?_
    iterate 2 refine aN rfl rfl (by constructor) ?_
    refine sE ?_
    show AW _ (.cond _ _ _) _ _ _
    refine cC' rfl (fun h13 => ?_) (fun h13 => ?_)
    ·have h13q := h13; try simp only [decide_eq_true_eq, decide_eq_false_iff_not, beq_iff_eq, beq_eq_false_iff_ne, bne_iff_ne, bne_eq_false_iff_eq, ne_eq, Decidable.not_not, Bool.not_eq_true, Bool.not_eq_false, gt_iff_lt, ge_iff_le, Int.not_lt, Int.not_le] at h13q
     have hend : (xs.length < endN xs false true) := by have := of_decide_eq_true h13; rw [hE]; omega
     show AWl _ _ _ _ _
     refine aBld rfl (by repeat constructor) ?_
     refine aSt st 1 rfl rfl rfl rfl (by first | rfl | simp [cellsOf, *]) (by first | decide | (simp [*]; done) | (simp [k8]; done)) (by repeat constructor) fun H14 st => ?_
     iterate 2 refine aN rfl rfl (by constructor) ?_
     refine sE ?_
     refine ⟨_, out3 (r_cellA st 1 rfl rfl (by first | decide | simp [*]) (by repeat constructor)) (r_tmp rfl (by constructor)) (r_tmp rfl (by constructor)) ⟨rfl, rfl, rfl⟩, ?_⟩
     have he := e_8' (d := true) hat (fun hc => by cases hc.1) hc3 hend
     obtain ⟨hP, hN⟩ := decP_no he (by decide)
     exact ⟨none, by rw [he, hP, hN]; rfl, by rw [hP]; exact (st.nil 5).pick 0 rfl⟩
    ·have h13q := h13; try simp only [decide_eq_true_eq, decide_eq_false_iff_not, beq_iff_eq, beq_eq_false_iff_ne, bne_iff_ne, bne_eq_false_iff_eq, ne_eq, Decidable.not_not, Bool.not_eq_true, Bool.not_eq_false, gt_iff_lt, ge_iff_le, Int.not_lt, Int.not_le] at h13q
     have hend : ¬ (xs.length < endN xs false true) := by have := of_decide_eq_false h13; rw [hE]; omega
     show AWl _ _ _ _ _
     refine aMovV x rfl ?_
     iterate 3 refine aN rfl rfl (by constructor) ?_
     refine aBinV (.int .i64 ((48 + mOf xs : Nat) : Int)) (u := .int .i64 48) (u' := .int .i64 (mOf xs : Int)) rfl rfl (congrArg (fun z => some (Value.int .i64 z)) (by rw [wi _ (by omega)]; omega)) ?_
     refine aCutLH (st.slc hx) rfl rfl rfl (by omega) fun v95 s95 => ?_
     replace s95 := s95 _ hx
     replace s95 : Sl H 1 ((xs.drop 48).take (mOf xs)).length (((xs.drop 48).take (mOf xs)).map (Value.int .u8)) v95 := by rw [show ((xs.drop 48).take (mOf xs)).length = mOf xs by rw [List.length_take, List.length_drop]; omega]; have e : ((48 + mOf xs : Nat) : Int).toNat - (48 : Int).toNat = mOf xs := (by omega); rw [e] at s95; exact s95
     refine aMovV v95 rfl ?_
     refine sE ?_
     show AWp _ _ _ _ _
     iterate 2 refine aN rfl rfl (by constructor) ?_
     refine gT rfl ?_
     refine aN rfl rfl (by constructor) ?_
     refine gT rfl ?_
     iterate 2 refine aN rfl rfl (by constructor) ?_
     refine aMovV (.bool true) (congrArg Value.bool h12) ?_
     refine gT rfl ?_
     refine aMovV v95 rfl ?_
     refine gT rfl ?_
     refine aMovV x rfl ?_
     refine gT rfl ?_
     refine aN rfl rfl (by constructor) ?_
     refine gT rfl ?_
     refine aBinV (.int .i64 ((48 + mOf xs : Nat) : Int)) (u := .int .i64 ((48 + mOf xs + 4 : Nat) : Int)) (u' := .int .i64 4) rfl rfl (congrArg (fun z => some (Value.int .i64 z)) (by rw [wi _ (by omega)]; omega)) ?_
     refine gT rfl ?_
     refine aN rfl rfl (by constructor) ?_
     refine gT rfl ?_
     refine aCutLH (st.slc hx) rfl rfl rfl (by omega) fun v109 s109 => ?_
     replace s109 := s109 _ hx
     replace s109 : Sl H 1 4 (((xs.drop (48 + (mOf xs))).take 4).map (Value.int .u8)) v109 := by have e : ((48 + mOf xs + 4 : Nat) : Int).toNat - ((48 + mOf xs : Nat) : Int).toNat = 4 := (by omega); rw [e] at s109; exact s109
     refine gT rfl ?_
     refine aText (st.slc s109) rfl ?_
     refine ⟨?_, trivial⟩
     refine gT rfl ?_
     refine aC (sum_call (xs := (xs.drop 48).take (mOf xs)) (st.slc s95) ((hb.drop _).take _) (by simp only [List.length_take, List.length_drop]; omega)) fun v103 H15 ⟨b103, hv, st1⟩ => ?_
     subst hv
     replace st := st.call st1 rfl
     clear st1
     refine ⟨⟨⟨some true, .bool true, (h_Text (st.slc s109) rfl)⟩, trivial⟩, ?_⟩
     refine gT rfl ?_
     refine aText (st.rowAll 0 rfl (by simp [beB_len])) rfl ?_
     refine gT rfl ?_
     refine aBinV (.bool (!decide (beB 4 (c32 ((xs.drop 48).take (mOf xs))) = (xs.drop (48 + (mOf xs))).take 4))) (u := .string (ofInts (beB 4 (c32 ((xs.drop 48).take (mOf xs)))))) (u' := .string (ofInts ((xs.drop (48 + (mOf xs))).take 4))) rfl rfl (by show some (Value.bool (!((ofInts (beB 4 (c32 ((xs.drop 48).take (mOf xs))))).toList == (ofInts ((xs.drop (48 + (mOf xs))).take 4)).toList))) = _; rw [texts_beq (beB_bytes _ _) ((hb.drop _).take _)]) ?_
     refine aN rfl rfl (by constructor) ?_
     refine pE ?_
     show AW _ (.cond _ _ _) _ _ _
     refine cC' rfl (fun h16 => ?_) (fun h16 => ?_)
     ·have h16q := h16; try simp only [decide_eq_true_eq, decide_eq_false_iff_not, beq_iff_eq, beq_eq_false_iff_ne, bne_iff_ne, bne_eq_false_iff_eq, ne_eq, Decidable.not_not, Bool.not_eq_true, Bool.not_eq_false, gt_iff_lt, ge_iff_le, Int.not_lt, Int.not_le] at h16q
      have h16n : decide (beB 4 (c32 ((xs.drop 48).take (mOf xs))) = (xs.drop (48 + (mOf xs))).take 4) = false := Eq.mp (Bool.not_eq_true' _) h16
      show AWl _ _ _ _ _
      refine aBld rfl (by repeat constructor) ?_
      refine aSt st 2 rfl rfl rfl rfl (by first | rfl | simp [cellsOf, *]) (by first | decide | (simp [*]; done) | (simp [k8]; done)) (by repeat constructor) fun H17 st => ?_
      iterate 2 refine aN rfl rfl (by constructor) ?_
      refine sE ?_
      refine ⟨_, out3 (r_cellA st 2 rfl rfl (by first | decide | simp [*]) (by repeat constructor)) (r_tmp rfl (by constructor)) (r_tmp rfl (by constructor)) ⟨rfl, rfl, rfl⟩, ?_⟩
      have he := e_5' (d := true) hat (fun hc => by cases hc.1) hc3 hend ⟨⟨rfl, by omega⟩, of_decide_eq_false h16n⟩
      obtain ⟨hP, hN⟩ := decP_no he (by decide)
      exact ⟨none, by rw [he, hP, hN]; rfl, by rw [hP]; exact (st.nil 5).pick 0 rfl⟩
     ·have h16q := h16; try simp only [decide_eq_true_eq, decide_eq_false_iff_not, beq_iff_eq, beq_eq_false_iff_ne, bne_iff_ne, bne_eq_false_iff_eq, ne_eq, Decidable.not_not, Bool.not_eq_true, Bool.not_eq_false, gt_iff_lt, ge_iff_le, Int.not_lt, Int.not_le] at h16q
      have h16n : decide (beB 4 (c32 ((xs.drop 48).take (mOf xs))) = (xs.drop (48 + (mOf xs))).take 4) = true := Eq.mp (Bool.not_eq_false' _) h16
      show AWl _ _ _ _ _
      refine aMovV v95 rfl ?_
      refine aN rfl rfl (by constructor) ?_
      refine aCutL (st.slc s95) rfl rfl (by rw [List.length_take, List.length_drop]; omega) fun v116 s116 => ?_
      replace s116 := s116 _ s95
      replace s116 : Sl H 1 (padN (nOf xs)) ((((xs.drop 48).take (mOf xs)).drop (nOf xs)).map (Value.int .u8)) v116 := by have e : ((xs.drop 48).take (mOf xs)).length - ((nOf xs : Int)).toNat = padN (nOf xs) := (by rw [List.length_take, List.length_drop]; omega); rw [e] at s116; exact s116
      refine aLen (st.slc s116) rfl ?_
      refine aN rfl rfl (by constructor) ?_
      refine sE ?_
      show AW _ (.loop _) _ _ _
      refine AW_loopN (fun m t1 H1 => ∃ (j : Nat), m = padN (nOf xs) - j ∧ (j ≤ padN (nOf xs)) ∧ (Zer xs (48 + nOf xs) j) ∧ t1 118 = .int .i64 (j : Int) ∧ Stt [] H H1 [⟨some b6, true, ⟨true, 26, [.int .u8 0, .int .u8 0, .int .u8 0, .int .u8 0, .int .u8 0, .int .u32 0, .int .u32 0, .int .u32 0, .int .u32 0, .int .u32 0, .int .u32 0, .int .u32 0, .int .u32 0, .slice none 0 0]⟩⟩]) (padN (nOf xs) - 0) ⟨0, rfl, by omega, fun i hi => by omega, rfl, (st.sel [2] (by decide))⟩ [7, 8, 19, 118, 119, 120, 121, 122, 123, 124, 125] (by decide) ?_
      rintro m t1 H1 hk hI
      obtain ⟨j, rfl, hj, hzr, ht118, st⟩ := hI
      obtain ⟨u, rfl⟩ : ∃ u, t1 = (upd (mix [7, 8, 19, 118, 119, 120, 121, 122, 123, 124, 125] _ u) (some 118) _) := ⟨t1, by rw [← hk, upd_self ht118]⟩
      clear hk ht118
      show AWl _ _ _ _ _
      refine aN rfl rfl (by constructor) ?_
      refine sE ?_
      show AW _ (.cond _ _ _) _ _ _
      refine cC' rfl (fun h18 => ?_) (fun h18 => ?_)
      ·have h18q := h18; try simp only [decide_eq_true_eq, decide_eq_false_iff_not, beq_iff_eq, beq_eq_false_iff_ne, bne_iff_ne, bne_eq_false_iff_eq, ne_eq, Decidable.not_not, Bool.not_eq_true, Bool.not_eq_false, gt_iff_lt, ge_iff_le, Int.not_lt, Int.not_le] at h18q
       have hlt : j < padN (nOf xs) := by have := of_decide_eq_true h18; omega
       show AWl _ _ _ _ _
       refine aIxBK (st.slc s116) rfl rfl (by omega) fun b120 o120 g120 => ?_
       refine aLdG rfl (g120 _ (st.slc s116)) ?_
       refine aN rfl rfl (by constructor) ?_
       refine sE ?_
       show AWl _ _ _ _ _
       iterate 2 refine aN rfl rfl (by constructor) ?_
       refine sE ?_
       show AW _ (.cond _ _ _) _ _ _
       refine cC' rfl (fun h19 => ?_) (fun h19 => ?_)
       ·have h19q := h19; try simp only [decide_eq_true_eq, decide_eq_false_iff_not, beq_iff_eq, beq_eq_false_iff_ne, bne_iff_ne, bne_eq_false_iff_eq, ne_eq, Decidable.not_not, Bool.not_eq_true, Bool.not_eq_false, gt_iff_lt, ge_iff_le, Int.not_lt, Int.not_le] at h19q
        have hz0 : (((xs.drop 48).take (mOf xs)).drop (nOf xs)).getD j 0 ≠ 0 := by simpa using h19
        rw [zer_at (by omega) (by unfold mOf; omega)] at hz0
        show AWl _ _ _ _ _
        refine aBld rfl (by repeat constructor) ?_
        refine aSt st 0 rfl rfl rfl rfl (by first | rfl | simp [cellsOf, *]) (by first | decide | (simp [*]; done) | (simp [k8]; done)) (by repeat constructor) fun H20 st => ?_
        iterate 2 refine aN rfl rfl (by constructor) ?_
        refine sE ?_
        refine ⟨_, out3 (r_cellA st 0 rfl rfl (by first | decide | simp [*]) (by repeat constructor)) (r_tmp rfl (by constructor)) (r_tmp rfl (by constructor)) ⟨rfl, rfl, rfl⟩, ?_⟩
        have he := e_3' (d := true) hat (fun hc => by cases hc.1) hc3 hend (fun hc => hc.2 (of_decide_eq_true h16n)) (fun hz => hz0 (hz j hlt))
        obtain ⟨hP, hN⟩ := decP_no he (by decide)
        exact ⟨none, by rw [he, hP, hN]; rfl, by rw [hP]; exact (st.nil 5).pick 0 rfl⟩
       ·have h19q := h19; try simp only [decide_eq_true_eq, decide_eq_false_iff_not, beq_iff_eq, beq_eq_false_iff_ne, bne_iff_ne, bne_eq_false_iff_eq, ne_eq, Decidable.not_not, Bool.not_eq_true, Bool.not_eq_false, gt_iff_lt, ge_iff_le, Int.not_lt, Int.not_le] at h19q
        have hz0 : (((xs.drop 48).take (mOf xs)).drop (nOf xs)).getD j 0 = 0 := by simpa using h19
        rw [zer_at (by omega) (by unfold mOf; omega)] at hz0
        show AWl _ _ _ _ _
        iterate 2 refine aN rfl rfl (by constructor) ?_
        refine sE ?_
        exact ⟨_, by omega, j + 1, rfl, by omega, hzr.step hz0, congrArg (Value.int .i64) (wi _ (by omega)), (st.sel [0] (by decide))⟩
      ·have h18q := h18; try simp only [decide_eq_true_eq, decide_eq_false_iff_not, beq_iff_eq, beq_eq_false_iff_ne, bne_iff_ne, bne_eq_false_iff_eq, ne_eq, Decidable.not_not, Bool.not_eq_true, Bool.not_eq_false, gt_iff_lt, ge_iff_le, Int.not_lt, Int.not_le] at h18q
       have hge : j = padN (nOf xs) := by have := of_decide_eq_false h18; omega
       subst hge
       show AWp _ _ _ _ _
       refine aMovV x rfl ?_
       refine aIxBK (st.slc hx) rfl rfl (by omega) fun b127 o127 g127 => ?_
       refine aLdG rfl (g127 _ (st.slc hx)) ?_
       refine aMovV x rfl ?_
       refine aIxBK (st.slc hx) rfl rfl (by omega) fun b130 o130 g130 => ?_
       refine aLdG rfl (g130 _ (st.slc hx)) ?_
       refine aMovV x rfl ?_
       refine aIxBK (st.slc hx) rfl rfl (by omega) fun b133 o133 g133 => ?_
       refine aLdG rfl (g133 _ (st.slc hx)) ?_
       refine aMovV x rfl ?_
       refine aIxBK (st.slc hx) rfl rfl (by omega) fun b136 o136 g136 => ?_
       refine aLdG rfl (g136 _ (st.slc hx)) ?_
       refine aMovV x rfl ?_
       refine aIxBK (st.slc hx) rfl rfl (by omega) fun b139 o139 g139 => ?_
       refine aLdG rfl (g139 _ (st.slc hx)) ?_
       refine aMovV v95 rfl ?_
       refine aN rfl rfl (by constructor) ?_
       refine aCutH (st.slc s95) rfl rfl (by rw [List.length_take, List.length_drop]; omega) fun v143 s143 => ?_
       replace s143 := s143 _ s95
       replace s143 : Sl H 1 (nOf xs) (((xs.drop 48).take (nOf xs)).map (Value.int .u8)) v143 := by have e : ((xs.drop 48).take (mOf xs)).take ((nOf xs : Int)).toNat = (xs.drop 48).take (nOf xs) := (by rw [List.take_take]; congr 1; omega); rw [e] at s143; exact s143
       refine ⟨?_, ?_⟩
       ·have st := st.nil 5
        have hnil : (Value.slice none 0 0) = accV none 0 1 := rfl
        refine aApp st 0 (ob := none) (n := 0) rfl rfl rfl (by decide) (rfl) (st.slc s143).src (by rw [List.length_map, List.length_take, List.length_drop]; omega) (by omega) (by omega) fun b144 H21 hp144 st => ?_
        rw [show 0 + nOf xs = nOf xs from Nat.zero_add _]
        rw [List.nil_append] at st
        refine ⟨⟨(h_LdG rfl (g139 _ (st.slc hx))), (h_LdG rfl (g136 _ (st.slc hx))), (h_LdG rfl (g133 _ (st.slc hx))), (h_LdG rfl (g130 _ (st.slc hx))), (h_LdG rfl (g127 _ (st.slc hx))), trivial⟩, ?_⟩
        refine aBld (xs := [.int .u8 (xs.getD 0 0), .int .u8 (xs.getD 1 0), .int .u8 (xs.getD 2 0), .int .u8 (xs.getD 3 0), .int .u8 (xs.getD 9 0), .int .u32 0, .int .u32 0, .int .u32 0, .int .u32 0, .int .u32 0, .int .u32 0, .int .u32 0, .int .u32 0, accV b144 (nOf xs) 1]) (by cases b144 <;> rfl) (.any _) ?_
        refine ⟨?_, trivial⟩
        refine aNewP st rfl rfl (by repeat constructor) fun b20 H22 st => ?_
        refine ⟨⟨(h_LdG rfl (g139 _ (st.slc hx))), (h_LdG rfl (g136 _ (st.slc hx))), (h_LdG rfl (g133 _ (st.slc hx))), (h_LdG rfl (g130 _ (st.slc hx))), (h_LdG rfl (g127 _ (st.slc hx))), trivial⟩, ?_⟩
        refine ⟨?_, trivial⟩
        refine aSt st 0 rfl rfl rfl rfl (by first | rfl | simp [cellsOf, *]) (by first | decide | (simp [*]; done) | (simp [k8]; done)) (by repeat constructor) fun H23 st => ?_
        refine ⟨trivial, ?_⟩
        refine pE ?_
        show AWl _ _ _ _ _
        refine aMovV x rfl ?_
        refine aC (get_call (st.slc hx) hb (by omega) (by decide)) fun v148 H24 ⟨hv, st1⟩ => ?_
        subst hv
        replace st := st.call st1 rfl
        clear st1
        iterate 5 refine aN rfl rfl (by constructor) ?_
        refine sE ?_
        show AWl _ _ _ _ _
        iterate 2 refine aN rfl rfl (by constructor) ?_
        rw [show rgetV xs 16 4 = rgetV xs ((16 : Nat) : Int) 4 from rfl, w_conv hb (by omega)]
        refine aN rfl rfl (by constructor) ?_
        refine aSt st 0 rfl rfl rfl rfl (by first | rfl | simp [cellsOf, *]) (by first | decide | (simp [*]; done) | (simp [k8]; done)) (by repeat constructor) fun H25 st => ?_
        refine sE ?_
        show AWl _ _ _ _ _
        refine aN rfl rfl (by constructor) ?_
        refine sE ?_
        show AW _ (.loop _) _ _ _
        refine AW_loopN (fun m t1 H1 => ∃ (j : Nat), m = 7 - j ∧ (j ≤ 7) ∧ t1 154 = .int .i64 (j : Int) ∧ Stt [] H H1 [⟨b144, true, ⟨true, 5, ((xs.drop 48).take (nOf xs)).map (Value.int .u8)⟩⟩, ⟨some b20, true, ⟨true, 26, [.int .u8 (xs.getD 0 0), .int .u8 (xs.getD 1 0), .int .u8 (xs.getD 2 0), .int .u8 (xs.getD 3 0), .int .u8 (xs.getD 9 0), .int .u32 (beN ((xs.drop 16).take 4)), .int .u32 (wj xs j 0), .int .u32 (wj xs j 1), .int .u32 (wj xs j 2), .int .u32 (wj xs j 3), .int .u32 (wj xs j 4), .int .u32 (wj xs j 5), .int .u32 (wj xs j 6), accV b144 (nOf xs) 1]⟩⟩, ⟨some b6, true, ⟨true, 26, [.int .u8 0, .int .u8 0, .int .u8 0, .int .u8 0, .int .u8 0, .int .u32 0, .int .u32 0, .int .u32 0, .int .u32 0, .int .u32 0, .int .u32 0, .int .u32 0, .int .u32 0, .slice none 0 0]⟩⟩]) (7 - 0) ⟨0, rfl, by omega, rfl, (st.sel [1, 0, 2] (by decide))⟩ [23, 24, 25, 154, 155, 156, 157, 158, 159, 160, 161, 162, 163, 164, 165, 166, 167, 168, 169, 170] (by decide) ?_
        rintro m t1 H1 hk hI
        obtain ⟨j, rfl, hj, ht154, st⟩ := hI
        obtain ⟨u, rfl⟩ : ∃ u, t1 = (upd (mix [23, 24, 25, 154, 155, 156, 157, 158, 159, 160, 161, 162, 163, 164, 165, 166, 167, 168, 169, 170] _ u) (some 154) _) := ⟨t1, by rw [← hk, upd_self ht154]⟩
        clear hk ht154
        show AWl _ _ _ _ _
        refine aN rfl rfl (by constructor) ?_
        refine sE ?_
        show AW _ (.cond _ _ _) _ _ _
        refine cC' rfl (fun h26 => ?_) (fun h26 => ?_)
        ·have h26q := h26; try simp only [decide_eq_true_eq, decide_eq_false_iff_not, beq_iff_eq, beq_eq_false_iff_ne, bne_iff_ne, bne_eq_false_iff_eq, ne_eq, Decidable.not_not, Bool.not_eq_true, Bool.not_eq_false, gt_iff_lt, ge_iff_le, Int.not_lt, Int.not_le] at h26q
         have hlt : j < 7 := by have := of_decide_eq_true h26; omega
         show AWl _ _ _ _ _
         iterate 2 refine aN rfl rfl (by constructor) ?_
         refine sE ?_
         show AWl _ _ _ _ _
         refine aMovV x rfl ?_
         iterate 3 refine aN rfl rfl (by constructor) ?_
         refine aC (get_call (st.slc hx) hb (by omega) (by decide)) fun v162 H27 ⟨hv, st1⟩ => ?_
         subst hv
         replace st := st.call st1 rfl
         clear st1
         iterate 5 refine aN rfl rfl (by constructor) ?_
         refine sE ?_
         show AWl _ _ _ _ _
         iterate 3 refine aN rfl rfl (by constructor) ?_
         rw [wi (4 * (j : Int)) (by omega), wi (20 + 4 * (j : Int)) (by omega), show (20 + 4 * (j : Int)) = ((20 + 4 * j : Nat) : Int) by omega, w_conv hb (by omega)]
         refine aN rfl rfl (by constructor) ?_
         refine aIxA rfl rfl (by omega) ?_
         refine aStAt st 1 rfl rfl rfl rfl rfl (by simp; omega) (row_set hlt) fun H28 st => ?_
         refine sE ?_
         show AWl _ _ _ _ _
         iterate 2 refine aN rfl rfl (by constructor) ?_
         refine sE ?_
         exact ⟨_, by omega, j + 1, rfl, by omega, congrArg (Value.int .i64) (wi _ (by omega)), (st.sel [0, 1, 2] (by decide))⟩
        ·have h26q := h26; try simp only [decide_eq_true_eq, decide_eq_false_iff_not, beq_iff_eq, beq_eq_false_iff_ne, bne_iff_ne, bne_eq_false_iff_eq, ne_eq, Decidable.not_not, Bool.not_eq_true, Bool.not_eq_false, gt_iff_lt, ge_iff_le, Int.not_lt, Int.not_le] at h26q
         have hge : j = 7 := by have := of_decide_eq_false h26; omega
         subst hge
         show AWl _ _ _ _ _
         refine aLdAll st 1 rfl rfl (rfl) ?_
         refine aN rfl rfl (by constructor) ?_
         refine aStAllA st 2 rfl rfl rfl (rfl) (rfl) fun H29 st => ?_
         iterate 2 refine aN rfl rfl (by constructor) ?_
         refine sE ?_
         refine ⟨_, out3 (r_cellA st 2 rfl rfl (by first | decide | simp [*]) (by repeat constructor)) (r_tmp rfl (by constructor)) (r_tmp rfl (by constructor)) ⟨rfl, rfl, rfl⟩, ?_⟩
         have he := e_0 (d := true) hat (fun hc => by cases hc.1) hc3 hend (fun hc => hc.2 (of_decide_eq_true h16n)) hzr
         obtain ⟨hP, hN⟩ := decP_yes he
         have hdl : (decD xs false).data.length = nOf xs := by show (((xs.drop 48).take (nOf xs)) : List Int).length = _; rw [List.length_take, List.length_drop]; omega
         refine ⟨b144, ?_, ?_⟩
         ·rw [he, hP, hN, hdl, hE]; rfl
         ·rw [hP]; exact st.pick 0 rfl
       ·refine ⟨?_, trivial⟩
        refine aNewP st rfl rfl (by repeat constructor) fun b20 H30 st => ?_
        refine ⟨⟨(h_LdG rfl (g139 _ (st.slc hx))), (h_LdG rfl (g136 _ (st.slc hx))), (h_LdG rfl (g133 _ (st.slc hx))), (h_LdG rfl (g130 _ (st.slc hx))), (h_LdG rfl (g127 _ (st.slc hx))), trivial⟩, ?_⟩
        refine ⟨?_, trivial⟩
        have st := st.nil 5
        have hnil : (Value.slice none 0 0) = accV none 0 1 := rfl
        refine aApp st 0 (ob := none) (n := 0) rfl rfl rfl (by decide) (rfl) (st.slc s143).src (by rw [List.length_map, List.length_take, List.length_drop]; omega) (by omega) (by omega) fun b144 H31 hp144 st => ?_
        rw [show 0 + nOf xs = nOf xs from Nat.zero_add _]
        rw [List.nil_append] at st
        refine ⟨⟨(h_LdG rfl (g139 _ (st.slc hx))), (h_LdG rfl (g136 _ (st.slc hx))), (h_LdG rfl (g133 _ (st.slc hx))), (h_LdG rfl (g130 _ (st.slc hx))), (h_LdG rfl (g127 _ (st.slc hx))), trivial⟩, ?_⟩
        refine aBld (xs := [.int .u8 (xs.getD 0 0), .int .u8 (xs.getD 1 0), .int .u8 (xs.getD 2 0), .int .u8 (xs.getD 3 0), .int .u8 (xs.getD 9 0), .int .u32 0, .int .u32 0, .int .u32 0, .int .u32 0, .int .u32 0, .int .u32 0, .int .u32 0, .int .u32 0, accV b144 (nOf xs) 1]) (by cases b144 <;> rfl) (.any _) ?_
        refine ⟨?_, trivial⟩
        refine aSt st 1 rfl rfl rfl rfl (by first | rfl | simp [cellsOf, *]) (by first | decide | (simp [*]; done) | (simp [k8]; done)) (by repeat constructor) fun H32 st => ?_
        refine ⟨trivial, ?_⟩
        refine pE ?_
        show AWl _ _ _ _ _
        refine aMovV x rfl ?_
        refine aC (get_call (st.slc hx) hb (by omega) (by decide)) fun v148 H33 ⟨hv, st1⟩ => ?_
        subst hv
        replace st := st.call st1 rfl
        clear st1
        iterate 5 refine aN rfl rfl (by constructor) ?_
        refine sE ?_
        show AWl _ _ _ _ _
        iterate 2 refine aN rfl rfl (by constructor) ?_
        rw [show rgetV xs 16 4 = rgetV xs ((16 : Nat) : Int) 4 from rfl, w_conv hb (by omega)]
        refine aN rfl rfl (by constructor) ?_
        refine aSt st 1 rfl rfl rfl rfl (by first | rfl | simp [cellsOf, *]) (by first | decide | (simp [*]; done) | (simp [k8]; done)) (by repeat constructor) fun H34 st => ?_
        refine sE ?_
        show AWl _ _ _ _ _
        refine aN rfl rfl (by constructor) ?_
        refine sE ?_
        show AW _ (.loop _) _ _ _
        refine AW_loopN (fun m t1 H1 => ∃ (j : Nat), m = 7 - j ∧ (j ≤ 7) ∧ t1 154 = .int .i64 (j : Int) ∧ Stt [] H H1 [⟨b144, true, ⟨true, 5, ((xs.drop 48).take (nOf xs)).map (Value.int .u8)⟩⟩, ⟨some b20, true, ⟨true, 26, [.int .u8 (xs.getD 0 0), .int .u8 (xs.getD 1 0), .int .u8 (xs.getD 2 0), .int .u8 (xs.getD 3 0), .int .u8 (xs.getD 9 0), .int .u32 (beN ((xs.drop 16).take 4)), .int .u32 (wj xs j 0), .int .u32 (wj xs j 1), .int .u32 (wj xs j 2), .int .u32 (wj xs j 3), .int .u32 (wj xs j 4), .int .u32 (wj xs j 5), .int .u32 (wj xs j 6), accV b144 (nOf xs) 1]⟩⟩, ⟨some b6, true, ⟨true, 26, [.int .u8 0, .int .u8 0, .int .u8 0, .int .u8 0, .int .u8 0, .int .u32 0, .int .u32 0, .int .u32 0, .int .u32 0, .int .u32 0, .int .u32 0, .int .u32 0, .int .u32 0, .slice none 0 0]⟩⟩]) (7 - 0) ⟨0, rfl, by omega, rfl, (st.sel [0, 1, 2] (by decide))⟩ [23, 24, 25, 154, 155, 156, 157, 158, 159, 160, 161, 162, 163, 164, 165, 166, 167, 168, 169, 170] (by decide) ?_
        rintro m t1 H1 hk hI
        obtain ⟨j, rfl, hj, ht154, st⟩ := hI
        obtain ⟨u, rfl⟩ : ∃ u, t1 = (upd (mix [23, 24, 25, 154, 155, 156, 157, 158, 159, 160, 161, 162, 163, 164, 165, 166, 167, 168, 169, 170] _ u) (some 154) _) := ⟨t1, by rw [← hk, upd_self ht154]⟩
        clear hk ht154
        show AWl _ _ _ _ _
        refine aN rfl rfl (by constructor) ?_
        refine sE ?_
        show AW _ (.cond _ _ _) _ _ _
        refine cC' rfl (fun h35 => ?_) (fun h35 => ?_)
        ·have h35q := h35; try simp only [decide_eq_true_eq, decide_eq_false_iff_not, beq_iff_eq, beq_eq_false_iff_ne, bne_iff_ne, bne_eq_false_iff_eq, ne_eq, Decidable.not_not, Bool.not_eq_true, Bool.not_eq_false, gt_iff_lt, ge_iff_le, Int.not_lt, Int.not_le] at h35q
         have hlt : j < 7 := by have := of_decide_eq_true h35; omega
         show AWl _ _ _ _ _
         iterate 2 refine aN rfl rfl (by constructor) ?_
         refine sE ?_
         show AWl _ _ _ _ _
         refine aMovV x rfl ?_
         iterate 3 refine aN rfl rfl (by constructor) ?_
         refine aC (get_call (st.slc hx) hb (by omega) (by decide)) fun v162 H36 ⟨hv, st1⟩ => ?_
         subst hv
         replace st := st.call st1 rfl
         clear st1
         iterate 5 refine aN rfl rfl (by constructor) ?_
         refine sE ?_
         show AWl _ _ _ _ _
         iterate 3 refine aN rfl rfl (by constructor) ?_
         rw [wi (4 * (j : Int)) (by omega), wi (20 + 4 * (j : Int)) (by omega), show (20 + 4 * (j : Int)) = ((20 + 4 * j : Nat) : Int) by omega, w_conv hb (by omega)]
         refine aN rfl rfl (by constructor) ?_
         refine aIxA rfl rfl (by omega) ?_
         refine aStAt st 1 rfl rfl rfl rfl rfl (by simp; omega) (row_set hlt) fun H37 st => ?_
         refine sE ?_
         show AWl _ _ _ _ _
         iterate 2 refine aN rfl rfl (by constructor) ?_
         refine sE ?_
         exact ⟨_, by omega, j + 1, rfl, by omega, congrArg (Value.int .i64) (wi _ (by omega)), (st.sel [0, 1, 2] (by decide))⟩
        ·have h35q := h35; try simp only [decide_eq_true_eq, decide_eq_false_iff_not, beq_iff_eq, beq_eq_false_iff_ne, bne_iff_ne, bne_eq_false_iff_eq, ne_eq, Decidable.not_not, Bool.not_eq_true, Bool.not_eq_false, gt_iff_lt, ge_iff_le, Int.not_lt, Int.not_le] at h35q
         have hge : j = 7 := by have := of_decide_eq_false h35; omega
         subst hge
         show AWl _ _ _ _ _
         refine aLdAll st 1 rfl rfl (rfl) ?_
         refine aN rfl rfl (by constructor) ?_
         refine aStAllA st 2 rfl rfl rfl (rfl) (rfl) fun H38 st => ?_
         iterate 2 refine aN rfl rfl (by constructor) ?_
         refine sE ?_
         refine ⟨_, out3 (r_cellA st 2 rfl rfl (by first | decide | simp [*]) (by repeat constructor)) (r_tmp rfl (by constructor)) (r_tmp rfl (by constructor)) ⟨rfl, rfl, rfl⟩, ?_⟩
         have he := e_0 (d := true) hat (fun hc => by cases hc.1) hc3 hend (fun hc => hc.2 (of_decide_eq_true h16n)) hzr
         obtain ⟨hP, hN⟩ := decP_yes he
         have hdl : (decD xs false).data.length = nOf xs := by show (((xs.drop 48).take (nOf xs)) : List Int).length = _; rw [List.length_take, List.length_drop]; omega
         refine ⟨b144, ?_, ?_⟩
         ·rw [he, hP, hN, hdl, hE]; rfl
         ·rw [hP]; exact st.pick 0 rfl
   ·have h12q := h12; try simp only [decide_eq_true_eq, decide_eq_false_iff_not, beq_iff_eq, beq_eq_false_iff_ne, bne_iff_ne, bne_eq_false_iff_eq, ne_eq, Decidable.not_not, Bool.not_eq_true, Bool.not_eq_false, gt_iff_lt, ge_iff_le, Int.not_lt, Int.not_le] at h12q
    show AWl _ _ _ _ _
    refine aMovV x rfl ?_
    have hE : endN xs false true = 48 + mOf xs + 0 := by unfold endN; rw [if_neg (fun hc => by omega)]; rfl
    refine aLen (st.slc hx) rfl ?_
    iterate 2 refine aN rfl rfl (by constructor) ?_
    refine sE ?_
    show AW _ (.cond _ _ _) _ _ _
    refine cC' rfl (fun h39 => ?_) (fun h39 => ?_)
    ·have h39q := h39; try simp only [decide_eq_true_eq, decide_eq_false_iff_not, beq_iff_eq, beq_eq_false_iff_ne, bne_iff_ne, bne_eq_false_iff_eq, ne_eq, Decidable.not_not, Bool.not_eq_true, Bool.not_eq_false, gt_iff_lt, ge_iff_le, Int.not_lt, Int.not_le] at h39q
     have hend : (xs.length < endN xs false true) := by have := of_decide_eq_true h39; rw [hE]; omega
     show AWl _ _ _ _ _
     refine aBld rfl (by repeat constructor) ?_
     refine aSt st 1 rfl rfl rfl rfl (by first | rfl | simp [cellsOf, *]) (by first | decide | (simp [*]; done) | (simp [k8]; done)) (by repeat constructor) fun H40 st => ?_
     iterate 2 refine aN rfl rfl (by constructor) ?_
     refine sE ?_
     refine ⟨_, out3 (r_cellA st 1 rfl rfl (by first | decide | simp [*]) (by repeat constructor)) (r_tmp rfl (by constructor)) (r_tmp rfl (by constructor)) ⟨rfl, rfl, rfl⟩, ?_⟩
     have he := e_8' (d := true) hat (fun hc => by cases hc.1) hc3 hend
     obtain ⟨hP, hN⟩ := decP_no he (by decide)
     exact ⟨none, by rw [he, hP, hN]; rfl, by rw [hP]; exact (st.nil 5).pick 0 rfl⟩
    ·have h39q := h39; try simp only [decide_eq_true_eq, decide_eq_false_iff_not, beq_iff_eq, beq_eq_false_iff_ne, bne_iff_ne, bne_eq_false_iff_eq, ne_eq, Decidable.not_not, Bool.not_eq_true, Bool.not_eq_false, gt_iff_lt, ge_iff_le, Int.not_lt, Int.not_le] at h39q
     have hend : ¬ (xs.length < endN xs false true) := by have := of_decide_eq_false h39; rw [hE]; omega
     show AWl _ _ _ _ _
     refine aMovV x rfl ?_
     iterate 3 refine aN rfl rfl (by constructor) ?_
     refine aBinV (.int .i64 ((48 + mOf xs : Nat) : Int)) (u := .int .i64 48) (u' := .int .i64 (mOf xs : Int)) rfl rfl (congrArg (fun z => some (Value.int .i64 z)) (by rw [wi _ (by omega)]; omega)) ?_
     refine aCutLH (st.slc hx) rfl rfl rfl (by omega) fun v95 s95 => ?_
     replace s95 := s95 _ hx
     replace s95 : Sl H 1 ((xs.drop 48).take (mOf xs)).length (((xs.drop 48).take (mOf xs)).map (Value.int .u8)) v95 := by rw [show ((xs.drop 48).take (mOf xs)).length = mOf xs by rw [List.length_take, List.length_drop]; omega]; have e : ((48 + mOf xs : Nat) : Int).toNat - (48 : Int).toNat = mOf xs := (by omega); rw [e] at s95; exact s95
     refine aMovV v95 rfl ?_
     refine sE ?_
     show AWp _ _ _ _ _
     iterate 2 refine aN rfl rfl (by constructor) ?_
     refine gT rfl ?_
     refine aN rfl rfl (by constructor) ?_
     refine gT rfl ?_
     iterate 2 refine aN rfl rfl (by constructor) ?_
     refine aMovV (.bool false) (congrArg Value.bool h12) ?_
     refine gF rfl (by decide) ?_
     refine gF rfl (by decide) ?_
     refine gF rfl (by decide) ?_
     refine gF rfl (by decide) ?_
     refine gF rfl (by decide) ?_
     refine gF rfl (by decide) ?_
     refine gF rfl (by decide) ?_
     refine ⟨gF rfl (by decide) ?_, trivial⟩
     refine ⟨⟨⟨some false, .bool false, rfl⟩, trivial⟩, ?_⟩
     refine gF rfl (by decide) ?_
     refine gF rfl (by decide) ?_
     refine aN rfl rfl (by constructor) ?_
     refine pE ?_
     show AW _ (.cond _ _ _) _ _ _
     refine cF' rfl ?_
     show AWl _ _ _ _ _
     refine aMovV v95 rfl ?_
     refine aN rfl rfl (by constructor) ?_
     refine aCutL (st.slc s95) rfl rfl (by rw [List.length_take, List.length_drop]; omega) fun v116 s116 => ?_
     replace s116 := s116 _ s95
     replace s116 : Sl H 1 (padN (nOf xs)) ((((xs.drop 48).take (mOf xs)).drop (nOf xs)).map (Value.int .u8)) v116 := by have e : ((xs.drop 48).take (mOf xs)).length - ((nOf xs : Int)).toNat = padN (nOf xs) := (by rw [List.length_take, List.length_drop]; omega); rw [e] at s116; exact s116
     refine aLen (st.slc s116) rfl ?_
     refine aN rfl rfl (by constructor) ?_
     refine sE ?_
     show AW _ (.loop _) _ _ _
     refine AW_loopN (fun m t1 H1 => ∃ (j : Nat), m = padN (nOf xs) - j ∧ (j ≤ padN (nOf xs)) ∧ (Zer xs (48 + nOf xs) j) ∧ t1 118 = .int .i64 (j : Int) ∧ Stt [] H H1 [⟨some b6, true, ⟨true, 26, [.int .u8 0, .int .u8 0, .int .u8 0, .int .u8 0, .int .u8 0, .int .u32 0, .int .u32 0, .int .u32 0, .int .u32 0, .int .u32 0, .int .u32 0, .int .u32 0, .int .u32 0, .slice none 0 0]⟩⟩]) (padN (nOf xs) - 0) ⟨0, rfl, by omega, fun i hi => by omega, rfl, (st.sel [1] (by decide))⟩ [7, 8, 19, 118, 119, 120, 121, 122, 123, 124, 125] (by decide) ?_
     rintro m t1 H1 hk hI
     obtain ⟨j, rfl, hj, hzr, ht118, st⟩ := hI
     obtain ⟨u, rfl⟩ : ∃ u, t1 = (upd (mix [7, 8, 19, 118, 119, 120, 121, 122, 123, 124, 125] _ u) (some 118) _) := ⟨t1, by rw [← hk, upd_self ht118]⟩
     clear hk ht118
     show AWl _ _ _ _ _
     refine aN rfl rfl (by constructor) ?_
     refine sE ?_
     show AW _ (.cond _ _ _) _ _ _
     refine cC' rfl (fun h41 => ?_) (fun h41 => ?_)
     ·have h41q := h41; try simp only [decide_eq_true_eq, decide_eq_false_iff_not, beq_iff_eq, beq_eq_false_iff_ne, bne_iff_ne, bne_eq_false_iff_eq, ne_eq, Decidable.not_not, Bool.not_eq_true, Bool.not_eq_false, gt_iff_lt, ge_iff_le, Int.not_lt, Int.not_le] at h41q
      have hlt : j < padN (nOf xs) := by have := of_decide_eq_true h41; omega
      show AWl _ _ _ _ _
      refine aIxBK (st.slc s116) rfl rfl (by omega) fun b120 o120 g120 => ?_
      refine aLdG rfl (g120 _ (st.slc s116)) ?_
      refine aN rfl rfl (by constructor) ?_
      refine sE ?_
      show AWl _ _ _ _ _
      iterate 2 refine aN rfl rfl (by constructor) ?_
      refine sE ?_
      show AW _ (.cond _ _ _) _ _ _
      refine cC' rfl (fun h42 => ?_) (fun h42 => ?_)
      ·have h42q := h42; try simp only [decide_eq_true_eq, decide_eq_false_iff_not, beq_iff_eq, beq_eq_false_iff_ne, bne_iff_ne, bne_eq_false_iff_eq, ne_eq, Decidable.not_not, Bool.not_eq_true, Bool.not_eq_false, gt_iff_lt, ge_iff_le, Int.not_lt, Int.not_le] at h42q
       have hz0 : (((xs.drop 48).take (mOf xs)).drop (nOf xs)).getD j 0 ≠ 0 := by simpa using h42
       rw [zer_at (by omega) (by unfold mOf; omega)] at hz0
       show AWl _ _ _ _ _
       refine aBld rfl (by repeat constructor) ?_
       refine aSt st 0 rfl rfl rfl rfl (by first | rfl | simp [cellsOf, *]) (by first | decide | (simp [*]; done) | (simp [k8]; done)) (by repeat constructor) fun H43 st => ?_
       iterate 2 refine aN rfl rfl (by constructor) ?_
       refine sE ?_
       refine ⟨_, out3 (r_cellA st 0 rfl rfl (by first | decide | simp [*]) (by repeat constructor)) (r_tmp rfl (by constructor)) (r_tmp rfl (by constructor)) ⟨rfl, rfl, rfl⟩, ?_⟩
       have he := e_3' (d := true) hat (fun hc => by cases hc.1) hc3 hend (fun hc => by have := hc.1.2; omega) (fun hz => hz0 (hz j hlt))
       obtain ⟨hP, hN⟩ := decP_no he (by decide)
       exact ⟨none, by rw [he, hP, hN]; rfl, by rw [hP]; exact (st.nil 5).pick 0 rfl⟩
      ·have h42q := h42; try simp only [decide_eq_true_eq, decide_eq_false_iff_not, beq_iff_eq, beq_eq_false_iff_ne, bne_iff_ne, bne_eq_false_iff_eq, ne_eq, Decidable.not_not, Bool.not_eq_true, Bool.not_eq_false, gt_iff_lt, ge_iff_le, Int.not_lt, Int.not_le] at h42q
       have hz0 : (((xs.drop 48).take (mOf xs)).drop (nOf xs)).getD j 0 = 0 := by simpa using h42
       rw [zer_at (by omega) (by unfold mOf; omega)] at hz0
       show AWl _ _ _ _ _
       iterate 2 refine aN rfl rfl (by constructor) ?_
       refine sE ?_
       exact ⟨_, by omega, j + 1, rfl, by omega, hzr.step hz0, congrArg (Value.int .i64) (wi _ (by omega)), (st.sel [0] (by decide))⟩
     ·have h41q := h41; try simp only [decide_eq_true_eq, decide_eq_false_iff_not, beq_iff_eq, beq_eq_false_iff_ne, bne_iff_ne, bne_eq_false_iff_eq, ne_eq, Decidable.not_not, Bool.not_eq_true, Bool.not_eq_false, gt_iff_lt, ge_iff_le, Int.not_lt, Int.not_le] at h41q
      have hge : j = padN (nOf xs) := by have := of_decide_eq_false h41; omega
      subst hge
      show AWp _ _ _ _ _
      refine aMovV x rfl ?_
      refine aIxBK (st.slc hx) rfl rfl (by omega) fun b127 o127 g127 => ?_
      refine aLdG rfl (g127 _ (st.slc hx)) ?_
      refine aMovV x rfl ?_
      refine aIxBK (st.slc hx) rfl rfl (by omega) fun b130 o130 g130 => ?_
      refine aLdG rfl (g130 _ (st.slc hx)) ?_
      refine aMovV x rfl ?_
      refine aIxBK (st.slc hx) rfl rfl (by omega) fun b133 o133 g133 => ?_
      refine aLdG rfl (g133 _ (st.slc hx)) ?_
      refine aMovV x rfl ?_
      refine aIxBK (st.slc hx) rfl rfl (by omega) fun b136 o136 g136 => ?_
      refine aLdG rfl (g136 _ (st.slc hx)) ?_
      refine aMovV x rfl ?_
      refine aIxBK (st.slc hx) rfl rfl (by omega) fun b139 o139 g139 => ?_
      refine aLdG rfl (g139 _ (st.slc hx)) ?_
      refine aMovV v95 rfl ?_
      refine aN rfl rfl (by constructor) ?_
      refine aCutH (st.slc s95) rfl rfl (by rw [List.length_take, List.length_drop]; omega) fun v143 s143 => ?_
      replace s143 := s143 _ s95
      replace s143 : Sl H 1 (nOf xs) (((xs.drop 48).take (nOf xs)).map (Value.int .u8)) v143 := by have e : ((xs.drop 48).take (mOf xs)).take ((nOf xs : Int)).toNat = (xs.drop 48).take (nOf xs) := (by rw [List.take_take]; congr 1; omega); rw [e] at s143; exact s143
      refine ⟨?_, ?_⟩
      ·have st := st.nil 5
       have hnil : (Value.slice none 0 0) = accV none 0 1 := rfl
       refine aApp st 0 (ob := none) (n := 0) rfl rfl rfl (by decide) (rfl) (st.slc s143).src (by rw [List.length_map, List.length_take, List.length_drop]; omega) (by omega) (by omega) fun b144 H44 hp144 st => ?_
       rw [show 0 + nOf xs = nOf xs from Nat.zero_add _]
       rw [List.nil_append] at st
       refine ⟨⟨(h_LdG rfl (g139 _ (st.slc hx))), (h_LdG rfl (g136 _ (st.slc hx))), (h_LdG rfl (g133 _ (st.slc hx))), (h_LdG rfl (g130 _ (st.slc hx))), (h_LdG rfl (g127 _ (st.slc hx))), trivial⟩, ?_⟩
       refine aBld (xs := [.int .u8 (xs.getD 0 0), .int .u8 (xs.getD 1 0), .int .u8 (xs.getD 2 0), .int .u8 (xs.getD 3 0), .int .u8 (xs.getD 9 0), .int .u32 0, .int .u32 0, .int .u32 0, .int .u32 0, .int .u32 0, .int .u32 0, .int .u32 0, .int .u32 0, accV b144 (nOf xs) 1]) (by cases b144 <;> rfl) (.any _) ?_
       refine ⟨?_, trivial⟩
       refine aNewP st rfl rfl (by repeat constructor) fun b20 H45 st => ?_
       refine ⟨⟨(h_LdG rfl (g139 _ (st.slc hx))), (h_LdG rfl (g136 _ (st.slc hx))), (h_LdG rfl (g133 _ (st.slc hx))), (h_LdG rfl (g130 _ (st.slc hx))), (h_LdG rfl (g127 _ (st.slc hx))), trivial⟩, ?_⟩
       refine ⟨?_, trivial⟩
       refine aSt st 0 rfl rfl rfl rfl (by first | rfl | simp [cellsOf, *]) (by first | decide | (simp [*]; done) | (simp [k8]; done)) (by repeat constructor) fun H46 st => ?_
       refine ⟨trivial, ?_⟩
       refine pE ?_
       show AWl _ _ _ _ _
       refine aMovV x rfl ?_
       refine aC (get_call (st.slc hx) hb (by omega) (by decide)) fun v148 H47 ⟨hv, st1⟩ => ?_
       subst hv
       replace st := st.call st1 rfl
       clear st1
       iterate 5 refine aN rfl rfl (by constructor) ?_
       refine sE ?_
       show AWl _ _ _ _ _
       iterate 2 refine aN rfl rfl (by constructor) ?_
       rw [show rgetV xs 16 4 = rgetV xs ((16 : Nat) : Int) 4 from rfl, w_conv hb (by omega)]
       refine aN rfl rfl (by constructor) ?_
       refine aSt st 0 rfl rfl rfl rfl (by first | rfl | simp [cellsOf, *]) (by first | decide | (simp [*]; done) | (simp [k8]; done)) (by repeat constructor) fun H48 st => ?_
       refine sE ?_
       show AWl _ _ _ _ _
       refine aN rfl rfl (by constructor) ?_
       refine sE ?_
       show AW _ (.loop _) _ _ _
       refine AW_loopN (fun m t1 H1 => ∃ (j : Nat), m = 7 - j ∧ (j ≤ 7) ∧ t1 154 = .int .i64 (j : Int) ∧ Stt [] H H1 [⟨b144, true, ⟨true, 5, ((xs.drop 48).take (nOf xs)).map (Value.int .u8)⟩⟩, ⟨some b20, true, ⟨true, 26, [.int .u8 (xs.getD 0 0), .int .u8 (xs.getD 1 0), .int .u8 (xs.getD 2 0), .int .u8 (xs.getD 3 0), .int .u8 (xs.getD 9 0), .int .u32 (beN ((xs.drop 16).take 4)), .int .u32 (wj xs j 0), .int .u32 (wj xs j 1), .int .u32 (wj xs j 2), .int .u32 (wj xs j 3), .int .u32 (wj xs j 4), .int .u32 (wj xs j 5), .int .u32 (wj xs j 6), accV b144 (nOf xs) 1]⟩⟩, ⟨some b6, true, ⟨true, 26, [.int .u8 0, .int .u8 0, .int .u8 0, .int .u8 0, .int .u8 0, .int .u32 0, .int .u32 0, .int .u32 0, .int .u32 0, .int .u32 0, .int .u32 0, .int .u32 0, .int .u32 0, .slice none 0 0]⟩⟩]) (7 - 0) ⟨0, rfl, by omega, rfl, (st.sel [1, 0, 2] (by decide))⟩ [23, 24, 25, 154, 155, 156, 157, 158, 159, 160, 161, 162, 163, 164, 165, 166, 167, 168, 169, 170] (by decide) ?_
       rintro m t1 H1 hk hI
       obtain ⟨j, rfl, hj, ht154, st⟩ := hI
       obtain ⟨u, rfl⟩ : ∃ u, t1 = (upd (mix [23, 24, 25, 154, 155, 156, 157, 158, 159, 160, 161, 162, 163, 164, 165, 166, 167, 168, 169, 170] _ u) (some 154) _) := ⟨t1, by rw [← hk, upd_self ht154]⟩
       clear hk ht154
       show AWl _ _ _ _ _
       refine aN rfl rfl (by constructor) ?_
       refine sE ?_
       show AW _ (.cond _ _ _) _ _ _
       refine cC' rfl (fun h49 => ?_) (fun h49 => ?_)
       ·have h49q := h49; try simp only [decide_eq_true_eq, decide_eq_false_iff_not, beq_iff_eq, beq_eq_false_iff_ne, bne_iff_ne, bne_eq_false_iff_eq, ne_eq, Decidable.not_not, Bool.not_eq_true, Bool.not_eq_false, gt_iff_lt, ge_iff_le, Int.not_lt, Int.not_le] at h49q
        have hlt : j < 7 := by have := of_decide_eq_true h49; omega
        show AWl _ _ _ _ _
        iterate 2 refine aN rfl rfl (by constructor) ?_
        refine sE ?_
        show AWl _ _ _ _ _
        refine aMovV x rfl ?_
        iterate 3 refine aN rfl rfl (by constructor) ?_
        refine aC (get_call (st.slc hx) hb (by omega) (by decide)) fun v162 H50 ⟨hv, st1⟩ => ?_
        subst hv
        replace st := st.call st1 rfl
        clear st1
        iterate 5 refine aN rfl rfl (by constructor) ?_
        refine sE ?_
        show AWl _ _ _ _ _
        iterate 3 refine aN rfl rfl (by constructor) ?_
        rw [wi (4 * (j : Int)) (by omega), wi (20 + 4 * (j : Int)) (by omega), show (20 + 4 * (j : Int)) = ((20 + 4 * j : Nat) : Int) by omega, w_conv hb (by omega)]
        refine aN rfl rfl (by constructor) ?_
        refine aIxA rfl rfl (by omega) ?_
        refine aStAt st 1 rfl rfl rfl rfl rfl (by simp; omega) (row_set hlt) fun H51 st => ?_
        refine sE ?_
        show AWl _ _ _ _ _
        iterate 2 refine aN rfl rfl (by constructor) ?_
        refine sE ?_
        exact ⟨_, by omega, j + 1, rfl, by omega, congrArg (Value.int .i64) (wi _ (by omega)), (st.sel [0, 1, 2] (by decide))⟩
       ·have h49q := h49; try simp only [decide_eq_true_eq, decide_eq_false_iff_not, beq_iff_eq, beq_eq_false_iff_ne, bne_iff_ne, bne_eq_false_iff_eq, ne_eq, Decidable.not_not, Bool.not_eq_true, Bool.not_eq_false, gt_iff_lt, ge_iff_le, Int.not_lt, Int.not_le] at h49q
        have hge : j = 7 := by have := of_decide_eq_false h49; omega
        subst hge
        show AWl _ _ _ _ _
        refine aLdAll st 1 rfl rfl (rfl) ?_
        refine aN rfl rfl (by constructor) ?_
        refine aStAllA st 2 rfl rfl rfl (rfl) (rfl) fun H52 st => ?_
        iterate 2 refine aN rfl rfl (by constructor) ?_
        refine sE ?_
        refine ⟨_, out3 (r_cellA st 2 rfl rfl (by first | decide | simp [*]) (by repeat constructor)) (r_tmp rfl (by constructor)) (r_tmp rfl (by constructor)) ⟨rfl, rfl, rfl⟩, ?_⟩
        have he := e_0 (d := true) hat (fun hc => by cases hc.1) hc3 hend (fun hc => by have := hc.1.2; omega) hzr
        obtain ⟨hP, hN⟩ := decP_yes he
        have hdl : (decD xs false).data.length = nOf xs := by show (((xs.drop 48).take (nOf xs)) : List Int).length = _; rw [List.length_take, List.length_drop]; omega
        refine ⟨b144, ?_, ?_⟩
        ·rw [he, hP, hN, hdl, hE]; rfl
        ·rw [hP]; exact st.pick 0 rfl
      ·refine ⟨?_, trivial⟩
       refine aNewP st rfl rfl (by repeat constructor) fun b20 H53 st => ?_
       refine ⟨⟨(h_LdG rfl (g139 _ (st.slc hx))), (h_LdG rfl (g136 _ (st.slc hx))), (h_LdG rfl (g133 _ (st.slc hx))), (h_LdG rfl (g130 _ (st.slc hx))), (h_LdG rfl (g127 _ (st.slc hx))), trivial⟩, ?_⟩
       refine ⟨?_, trivial⟩
       have st := st.nil 5
       have hnil : (Value.slice none 0 0) = accV none 0 1 := rfl
       refine aApp st 0 (ob := none) (n := 0) rfl rfl rfl (by decide) (rfl) (st.slc s143).src (by rw [List.length_map, List.length_take, List.length_drop]; omega) (by omega) (by omega) fun b144 H54 hp144 st => ?_
       rw [show 0 + nOf xs = nOf xs from Nat.zero_add _]
       rw [List.nil_append] at st
       refine ⟨⟨(h_LdG rfl (g139 _ (st.slc hx))), (h_LdG rfl (g136 _ (st.slc hx))), (h_LdG rfl (g133 _ (st.slc hx))), (h_LdG rfl (g130 _ (st.slc hx))), (h_LdG rfl (g127 _ (st.slc hx))), trivial⟩, ?_⟩
       refine aBld (xs := [.int .u8 (xs.getD 0 0), .int .u8 (xs.getD 1 0), .int .u8 (xs.getD 2 0), .int .u8 (xs.getD 3 0), .int .u8 (xs.getD 9 0), .int .u32 0, .int .u32 0, .int .u32 0, .int .u32 0, .int .u32 0, .int .u32 0, .int .u32 0, .int .u32 0, accV b144 (nOf xs) 1]) (by cases b144 <;> rfl) (.any _) ?_
       refine ⟨?_, trivial⟩
       refine aSt st 1 rfl rfl rfl rfl (by first | rfl | simp [cellsOf, *]) (by first | decide | (simp [*]; done) | (simp [k8]; done)) (by repeat constructor) fun H55 st => ?_
       refine ⟨trivial, ?_⟩
       refine pE ?_
       show AWl _ _ _ _ _
       refine aMovV x rfl ?_
       refine aC (get_call (st.slc hx) hb (by omega) (by decide)) fun v148 H56 ⟨hv, st1⟩ => ?_
       subst hv
       replace st := st.call st1 rfl
       clear st1
       iterate 5 refine aN rfl rfl (by constructor) ?_
       refine sE ?_
       show AWl _ _ _ _ _
       iterate 2 refine aN rfl rfl (by constructor) ?_
       rw [show rgetV xs 16 4 = rgetV xs ((16 : Nat) : Int) 4 from rfl, w_conv hb (by omega)]
       refine aN rfl rfl (by constructor) ?_
       refine aSt st 1 rfl rfl rfl rfl (by first | rfl | simp [cellsOf, *]) (by first | decide | (simp [*]; done) | (simp [k8]; done)) (by repeat constructor) fun H57 st => ?_
       refine sE ?_
       show AWl _ _ _ _ _
       refine aN rfl rfl (by constructor) ?_
       refine sE ?_
       show AW _ (.loop _) _ _ _
       refine AW_loopN (fun m t1 H1 => ∃ (j : Nat), m = 7 - j ∧ (j ≤ 7) ∧ t1 154 = .int .i64 (j : Int) ∧ Stt [] H H1 [⟨b144, true, ⟨true, 5, ((xs.drop 48).take (nOf xs)).map (Value.int .u8)⟩⟩, ⟨some b20, true, ⟨true, 26, [.int .u8 (xs.getD 0 0), .int .u8 (xs.getD 1 0), .int .u8 (xs.getD 2 0), .int .u8 (xs.getD 3 0), .int .u8 (xs.getD 9 0), .int .u32 (beN ((xs.drop 16).take 4)), .int .u32 (wj xs j 0), .int .u32 (wj xs j 1), .int .u32 (wj xs j 2), .int .u32 (wj xs j 3), .int .u32 (wj xs j 4), .int .u32 (wj xs j 5), .int .u32 (wj xs j 6), accV b144 (nOf xs) 1]⟩⟩, ⟨some b6, true, ⟨true, 26, [.int .u8 0, .int .u8 0, .int .u8 0, .int .u8 0, .int .u8 0, .int .u32 0, .int .u32 0, .int .u32 0, .int .u32 0, .int .u32 0, .int .u32 0, .int .u32 0, .int .u32 0, .slice none 0 0]⟩⟩]) (7 - 0) ⟨0, rfl, by omega, rfl, (st.sel [0, 1, 2] (by decide))⟩ [23, 24, 25, 154, 155, 156, 157, 158, 159, 160, 161, 162, 163, 164, 165, 166, 167, 168, 169, 170] (by decide) ?_
       rintro m t1 H1 hk hI
       obtain ⟨j, rfl, hj, ht154, st⟩ := hI
       obtain ⟨u, rfl⟩ : ∃ u, t1 = (upd (mix [23, 24, 25, 154, 155, 156, 157, 158, 159, 160, 161, 162, 163, 164, 165, 166, 167, 168, 169, 170] _ u) (some 154) _) := ⟨t1, by rw [← hk, upd_self ht154]⟩
       clear hk ht154
       show AWl _ _ _ _ _
       refine aN rfl rfl (by constructor) ?_
       refine sE ?_
       show AW _ (.cond _ _ _) _ _ _
       refine cC' rfl (fun h58 => ?_) (fun h58 => ?_)
       ·have h58q := h58; try simp only [decide_eq_true_eq, decide_eq_false_iff_not, beq_iff_eq, beq_eq_false_iff_ne, bne_iff_ne, bne_eq_false_iff_eq, ne_eq, Decidable.not_not, Bool.not_eq_true, Bool.not_eq_false, gt_iff_lt, ge_iff_le, Int.not_lt, Int.not_le] at h58q
        have hlt : j < 7 := by have := of_decide_eq_true h58; omega
        show AWl _ _ _ _ _
        iterate 2 refine aN rfl rfl (by constructor) ?_
        refine sE ?_
        show AWl _ _ _ _ _
        refine aMovV x rfl ?_
        iterate 3 refine aN rfl rfl (by constructor) ?_
        refine aC (get_call (st.slc hx) hb (by omega) (by decide)) fun v162 H59 ⟨hv, st1⟩ => ?_
        subst hv
        replace st := st.call st1 rfl
        clear st1
        iterate 5 refine aN rfl rfl (by constructor) ?_
        refine sE ?_
        show AWl _ _ _ _ _
        iterate 3 refine aN rfl rfl (by constructor) ?_
        rw [wi (4 * (j : Int)) (by omega), wi (20 + 4 * (j : Int)) (by omega), show (20 + 4 * (j : Int)) = ((20 + 4 * j : Nat) : Int) by omega, w_conv hb (by omega)]
        refine aN rfl rfl (by constructor) ?_
        refine aIxA rfl rfl (by omega) ?_
        refine aStAt st 1 rfl rfl rfl rfl rfl (by simp; omega) (row_set hlt) fun H60 st => ?_
        refine sE ?_
        show AWl _ _ _ _ _
        iterate 2 refine aN rfl rfl (by constructor) ?_
        refine sE ?_
        exact ⟨_, by omega, j + 1, rfl, by omega, congrArg (Value.int .i64) (wi _ (by omega)), (st.sel [0, 1, 2] (by decide))⟩
       ·have h58q := h58; try simp only [decide_eq_true_eq, decide_eq_false_iff_not, beq_iff_eq, beq_eq_false_iff_ne, bne_iff_ne, bne_eq_false_iff_eq, ne_eq, Decidable.not_not, Bool.not_eq_true, Bool.not_eq_false, gt_iff_lt, ge_iff_le, Int.not_lt, Int.not_le] at h58q
        have hge : j = 7 := by have := of_decide_eq_false h58; omega
        subst hge
        show AWl _ _ _ _ _
        refine aLdAll st 1 rfl rfl (rfl) ?_
        refine aN rfl rfl (by constructor) ?_
        refine aStAllA st 2 rfl rfl rfl (rfl) (rfl) fun H61 st => ?_
        iterate 2 refine aN rfl rfl (by constructor) ?_
        refine sE ?_
        refine ⟨_, out3 (r_cellA st 2 rfl rfl (by first | decide | simp [*]) (by repeat constructor)) (r_tmp rfl (by constructor)) (r_tmp rfl (by constructor)) ⟨rfl, rfl, rfl⟩, ?_⟩
        have he := e_0 (d := true) hat (fun hc => by cases hc.1) hc3 hend (fun hc => by have := hc.1.2; omega) hzr
        obtain ⟨hP, hN⟩ := decP_yes he
        have hdl : (decD xs false).data.length = nOf xs := by show (((xs.drop 48).take (nOf xs)) : List Int).length = _; rw [List.length_take, List.length_drop]; omega
        refine ⟨b144, ?_, ?_⟩
        ·rw [he, hP, hN, hdl, hE]; rfl
        ·rw [hP]; exact st.pick 0 rfl
theorem pdec_call_ff {H : Hp} {xs : List Int} {x : Value} (hx : Sl H 1 xs.length (xs.map (Value.int .u8)) x) (hb : ByteL xs) (hl : xs.length ≤ 140737488351232) :
  ACalls Try.prog 12 [x, .bool false, .bool false] H (fun v H' => ∃ ob, v = .tuple #[.agg #[.int .u8 (decP xs false false).op, .int .u8 (decP xs false false).fl, .int .u8 (decP xs false false).res, .int .u8 (decP xs false false).st, .int .u8 (decP xs false false).lun, .int .u32 (decP xs false false).tag, .int .u32 (decP xs false false).w0, .int .u32 (decP xs false false).w1, .int .u32 (decP xs false false).w2, .int .u32 (decP xs false false).w3, .int .u32 (decP xs false false).w4, .int .u32 (decP xs false false).w5, .int .u32 (decP xs false false).w6, accV ob (decP xs false false).data.length 1], .int .i64 (decN xs false false), .int .i64 (decE xs false false)] ∧ Stt [] H H' [⟨ob, true, ⟨true, 5, (decP xs false false).data.map (Value.int .u8)⟩⟩]) := by
 refine acallsW Try.func12 f12_ok (Nat.le_of_ble_eq_true rfl) fun hw => ?_
 have st : Stt [] H H [] := Stt.start hw
 unfold f12c
 show AWl _ _ _ _ _
 refine aNewP st rfl rfl (by repeat constructor) fun b6 H1 st => ?_
 iterate 2 refine aN rfl rfl (by constructor) ?_
 refine sE ?_
 show AWl _ _ _ _ _
 refine aN rfl rfl (by constructor) ?_
 refine sE ?_
 show AWl _ _ _ _ _
 refine aN rfl rfl (by constructor) ?_
 refine sE ?_
 show AW _ (.cond _ _ _) _ _ _
 refine cF' rfl ?_
 show AWl _ _ _ _ _
 refine aMovV x rfl ?_
 refine aLen (st.slc hx) rfl ?_
 iterate 2 refine aN rfl rfl (by constructor) ?_
 refine sE ?_
 show AW _ (.cond _ _ _) _ _ _
 refine cC' rfl (fun h2 => ?_) (fun h2 => ?_)
 ·have h2q := h2; try simp only [decide_eq_true_eq, decide_eq_false_iff_not, beq_iff_eq, beq_eq_false_iff_ne, bne_iff_ne, bne_eq_false_iff_eq, ne_eq, Decidable.not_not, Bool.not_eq_true, Bool.not_eq_false, gt_iff_lt, ge_iff_le, Int.not_lt, Int.not_le] at h2q
  have hat : (xs.length < atN false) := by have := of_decide_eq_true h2; show (xs.length < 48); omega
  have hat2 : xs.length < 48 := by have : atN false = 48 := rfl; omega
  show AWl _ _ _ _ _
  refine aBld rfl (by repeat constructor) ?_
  refine aSt st 0 rfl rfl rfl rfl (by first | rfl | simp [cellsOf, *]) (by first | decide | (simp [*]; done) | (simp [k8]; done)) (by repeat constructor) fun H3 st => ?_
  iterate 2 refine aN rfl rfl (by constructor) ?_
  refine sE ?_
  refine ⟨_, out3 (r_cellA st 0 rfl rfl (by first | decide | simp [*]) (by repeat constructor)) (r_tmp rfl (by constructor)) (r_tmp rfl (by constructor)) ⟨rfl, rfl, rfl⟩, ?_⟩
  have he := e_8 (d := false) hat
  obtain ⟨hP, hN⟩ := decP_no he (by decide)
  exact ⟨none, by rw [he, hP, hN]; rfl, by rw [hP]; exact (st.nil 5).pick 0 rfl⟩
 ·have h2q := h2; try simp only [decide_eq_true_eq, decide_eq_false_iff_not, beq_iff_eq, beq_eq_false_iff_ne, bne_iff_ne, bne_eq_false_iff_eq, ne_eq, Decidable.not_not, Bool.not_eq_true, Bool.not_eq_false, gt_iff_lt, ge_iff_le, Int.not_lt, Int.not_le] at h2q
  have hat : ¬ (xs.length < atN false) := by have := of_decide_eq_false h2; show ¬ (xs.length < 48); omega
  have hat2 : 48 ≤ xs.length := by have : atN false = 48 := rfl; omega
  show AWp _ _ _ _ _
  iterate 2 refine aN rfl rfl (by constructor) ?_
  refine gF rfl (by decide) ?_
  refine gF rfl (by decide) ?_
  refine gF rfl (by decide) ?_
  refine gF rfl (by decide) ?_
  refine gF rfl (by decide) ?_
  refine gF rfl (by decide) ?_
  refine ⟨gF rfl (by decide) ?_, trivial⟩
  refine ⟨⟨⟨some false, .bool false, rfl⟩, trivial⟩, ?_⟩
  refine gF rfl (by decide) ?_
  refine gF rfl (by decide) ?_
  refine aN rfl rfl (by constructor) ?_
  refine pE ?_
  show AW _ (.cond _ _ _) _ _ _
  refine cF' rfl ?_
  show AWl _ _ _ _ _
  refine aMovV x rfl ?_
  refine aC (get_call (st.slc hx) hb (by omega) (by decide)) fun v49 H4 ⟨hv, st1⟩ => ?_
  subst hv
  replace st := st.call st1 rfl
  clear st1
  iterate 5 refine aN rfl rfl (by constructor) ?_
  refine sE ?_
  show AWl _ _ _ _ _
  iterate 2 refine aN rfl rfl (by constructor) ?_
  rw [n_conv hb (by omega)]
  have hn24 := nOf_lt hb
  refine aN rfl rfl (by constructor) ?_
  refine sE ?_
  show AWl _ _ _ _ _
  refine aLit st rfl (by repeat constructor) fun b54 H5 st => ?_
  iterate 2 refine aN rfl rfl (by constructor) ?_
  refine sE ?_
  show AW _ (.loop _) _ _ _
  refine AW_loopN (fun m t1 H1 => ∃ (j : Nat), m = 8 - j ∧ (j ≤ 8) ∧ (Rsv xs j) ∧ (0 < j → nOf xs ≤ 8192) ∧ t1 56 = .int .i64 (j : Int) ∧ Stt [] H H1 [⟨some b54, true, ⟨true, 3, [.int .i64 4, .int .i64 8, .int .i64 10, .int .i64 11, .int .i64 12, .int .i64 13, .int .i64 14, .int .i64 15]⟩⟩, ⟨some b6, true, ⟨true, 26, [.int .u8 0, .int .u8 0, .int .u8 0, .int .u8 0, .int .u8 0, .int .u32 0, .int .u32 0, .int .u32 0, .int .u32 0, .int .u32 0, .int .u32 0, .int .u32 0, .int .u32 0, .slice none 0 0]⟩⟩]) (8 - 0) ⟨0, rfl, by omega, fun i hi => by omega, fun h => by omega, rfl, (st.sel [0, 1] (by decide))⟩ [7, 8, 14, 56, 57, 58, 59, 60, 61, 62, 63, 64, 65, 66, 67, 68, 69, 70] (by decide) ?_
  rintro m t1 H1 hk hI
  obtain ⟨j, rfl, hj, hrv, hn0, ht56, st⟩ := hI
  obtain ⟨u, rfl⟩ : ∃ u, t1 = (upd (mix [7, 8, 14, 56, 57, 58, 59, 60, 61, 62, 63, 64, 65, 66, 67, 68, 69, 70] _ u) (some 56) _) := ⟨t1, by rw [← hk, upd_self ht56]⟩
  clear hk ht56
  show AWl _ _ _ _ _
  refine aN rfl rfl (by constructor) ?_
  refine sE ?_
  show AW _ (.cond _ _ _) _ _ _
  refine cC' rfl (fun h6 => ?_) (fun h6 => ?_)
  ·have h6q := h6; try simp only [decide_eq_true_eq, decide_eq_false_iff_not, beq_iff_eq, beq_eq_false_iff_ne, bne_iff_ne, bne_eq_false_iff_eq, ne_eq, Decidable.not_not, Bool.not_eq_true, Bool.not_eq_false, gt_iff_lt, ge_iff_le, Int.not_lt, Int.not_le] at h6q
   have hlt : j < 8 := by have := of_decide_eq_true h6; simp at this; omega
   show AWl _ _ _ _ _
   refine aIxL rfl rfl (by omega) ?_
   refine aLd st 0 rfl rfl (rs_at hlt) (by constructor) ?_
   have hrs := rs_bd hlt
   refine aN rfl rfl (by constructor) ?_
   refine sE ?_
   show AWl _ _ _ _ _
   refine aMovV x rfl ?_
   refine aN rfl rfl (by constructor) ?_
   refine aIxBK (st.slc hx) rfl rfl (by omega) fun b62 o62 g62 => ?_
   refine aLdG rfl (g62 _ (st.slc hx)) ?_
   iterate 2 refine aN rfl rfl (by constructor) ?_
   refine gCase 65 rfl (fun h7 => ?_) (fun h7 => ?_)
   ·have h7q := h7; try simp only [decide_eq_true_eq, decide_eq_false_iff_not, beq_iff_eq, beq_eq_false_iff_ne, bne_iff_ne, bne_eq_false_iff_eq, ne_eq, Decidable.not_not, Bool.not_eq_true, Bool.not_eq_false, gt_iff_lt, ge_iff_le, Int.not_lt, Int.not_le] at h7q
    refine gF rfl (by decide) ?_
    refine gF rfl (by decide) ?_
    refine aN rfl rfl (by constructor) ?_
    refine sE ?_
    show AW _ (.cond _ _ _) _ _ _
    refine cT rfl ?_
    show AWl _ _ _ _ _
    refine aBld rfl (by repeat constructor) ?_
    refine aSt st 1 rfl rfl rfl rfl (by first | rfl | simp [cellsOf, *]) (by first | decide | (simp [*]; done) | (simp [k8]; done)) (by repeat constructor) fun H8 st => ?_
    iterate 2 refine aN rfl rfl (by constructor) ?_
    refine sE ?_
    refine ⟨_, out3 (r_cellA st 1 rfl rfl (by first | decide | simp [*]) (by repeat constructor)) (r_tmp rfl (by constructor)) (r_tmp rfl (by constructor)) ⟨rfl, rfl, rfl⟩, ?_⟩
    have he := e_3 (d := false) hat (fun hc => by cases hc.1) (.inr fun hr => h7q (hr j hlt))
    obtain ⟨hP, hN⟩ := decP_no he (by decide)
    exact ⟨none, by rw [he, hP, hN]; rfl, by rw [hP]; exact (st.nil 5).pick 0 rfl⟩
   ·have h7q := h7; try simp only [decide_eq_true_eq, decide_eq_false_iff_not, beq_iff_eq, beq_eq_false_iff_ne, bne_iff_ne, bne_eq_false_iff_eq, ne_eq, Decidable.not_not, Bool.not_eq_true, Bool.not_eq_false, gt_iff_lt, ge_iff_le, Int.not_lt, Int.not_le] at h7q
    refine gT rfl ?_
    refine aN rfl rfl (by constructor) ?_
    refine gT rfl ?_
    iterate 2 refine aN rfl rfl (by constructor) ?_
    refine sE ?_
    show AW _ (.cond _ _ _) _ _ _
    refine cC' rfl (fun h9 => ?_) (fun h9 => ?_)
    ·have h9q := h9; try simp only [decide_eq_true_eq, decide_eq_false_iff_not, beq_iff_eq, beq_eq_false_iff_ne, bne_iff_ne, bne_eq_false_iff_eq, ne_eq, Decidable.not_not, Bool.not_eq_true, Bool.not_eq_false, gt_iff_lt, ge_iff_le, Int.not_lt, Int.not_le] at h9q
     show AWl _ _ _ _ _
     refine aBld rfl (by repeat constructor) ?_
     refine aSt st 1 rfl rfl rfl rfl (by first | rfl | simp [cellsOf, *]) (by first | decide | (simp [*]; done) | (simp [k8]; done)) (by repeat constructor) fun H10 st => ?_
     iterate 2 refine aN rfl rfl (by constructor) ?_
     refine sE ?_
     refine ⟨_, out3 (r_cellA st 1 rfl rfl (by first | decide | simp [*]) (by repeat constructor)) (r_tmp rfl (by constructor)) (r_tmp rfl (by constructor)) ⟨rfl, rfl, rfl⟩, ?_⟩
     have he := e_3 (d := false) hat (fun hc => by cases hc.1) (.inl (by omega))
     obtain ⟨hP, hN⟩ := decP_no he (by decide)
     exact ⟨none, by rw [he, hP, hN]; rfl, by rw [hP]; exact (st.nil 5).pick 0 rfl⟩
    ·have h9q := h9; try simp only [decide_eq_true_eq, decide_eq_false_iff_not, beq_iff_eq, beq_eq_false_iff_ne, bne_iff_ne, bne_eq_false_iff_eq, ne_eq, Decidable.not_not, Bool.not_eq_true, Bool.not_eq_false, gt_iff_lt, ge_iff_le, Int.not_lt, Int.not_le] at h9q
     show AWl _ _ _ _ _
     iterate 2 refine aN rfl rfl (by constructor) ?_
     refine sE ?_
     exact ⟨_, by omega, j + 1, rfl, by omega, hrv.step h7q, fun _ => by omega, congrArg (Value.int .i64) (wi _ (by omega)), (st.sel [0, 1] (by decide))⟩
  ·have h6q := h6; try simp only [decide_eq_true_eq, decide_eq_false_iff_not, beq_iff_eq, beq_eq_false_iff_ne, bne_iff_ne, bne_eq_false_iff_eq, ne_eq, Decidable.not_not, Bool.not_eq_true, Bool.not_eq_false, gt_iff_lt, ge_iff_le, Int.not_lt, Int.not_le] at h6q
   have hge : j = 8 := by have := of_decide_eq_false h6; simp at this; omega
   subst hge
   have hn8 := hn0 (by decide)
   have hc3 : ¬ (nOf xs > 8192 ∨ ¬ Rsv xs 8) := fun hc => hc.elim (fun h => by omega) (fun h => h hrv)
   show AWl _ _ _ _ _
   iterate 2 refine aN rfl rfl (by constructor) ?_
   refine aC (pad_call (by omega)) fun v73 H11 ⟨hv, st1⟩ => ?_
   subst hv
   replace st := st.call st1 rfl
   clear st1
   refine aBinV (.int .i64 (mOf xs : Int)) (u := .int .i64 (nOf xs : Int)) (u' := .int .i64 (padN (nOf xs) : Int)) rfl rfl (congrArg (fun z => some (Value.int .i64 z)) (by have := padN_le (nOf xs); rw [wi _ (by omega)]; unfold mOf; omega)) ?_
   have hm := mOf_le xs
   have hpl := padN_le (nOf xs)
   have hmd : mOf xs = nOf xs + padN (nOf xs) := rfl
   refine aN rfl rfl (by constructor) ?_
   refine sE ?_
   show AWl _ _ _ _ _
   iterate 2 refine aN rfl rfl (by constructor) ?_
   refine aBinV (.int .i64 ((48 + mOf xs : Nat) : Int)) (u := .int .i64 48) (u' := .int .i64 (mOf xs : Int)) rfl rfl (congrArg (fun z => some (Value.int .i64 z)) (by rw [wi _ (by omega)]; omega)) ?_
   refine aN rfl rfl (by constructor) ?_
   refine sE ?_
   show AWl _ _ _ _ _
   iterate 2 refine aN rfl rfl (by constructor) ?_
   refine gF rfl (by decide) ?_
   refine gF rfl (by decide) ?_
   refine aN rfl rfl (by constructor) ?_
   refine sE ?_
   show AW _ (.cond _ _ _) _ _ _
   refine cF' rfl ?_
   show AWl _ _ _ _ _
   refine aMovV x rfl ?_
   have hE : endN xs false false = 48 + mOf xs + 0 := by unfold endN; rw [if_neg (fun hc => by cases hc.1)]; rfl
   refine aLen (st.slc hx) rfl ?_
   iterate 2 refine aN rfl rfl (by constructor) ?_
   refine sE ?_
   show AW _ (.cond _ _ _) _ _ _
   refine cC' rfl (fun h12 => ?_) (fun h12 => ?_)
   ·have h12q := h12; try simp only [decide_eq_true_eq, decide_eq_false_iff_not, beq_iff_eq, beq_eq_false_iff_ne, bne_iff_ne, bne_eq_false_iff_eq, ne_eq, Decidable.not_not, Bool.not_eq_true, Bool.not_eq_false, gt_iff_lt, ge_iff_le, Int.not_lt, Int.not_le] at h12q
    have hend : (xs.length < endN xs false false) := by have := of_decide_eq_true h12; rw [hE]; omega
    show AWl _ _ _ _ _
    refine aBld rfl (by repeat constructor) ?_
    refine aSt st 1 rfl rfl rfl rfl (by first | rfl | simp [cellsOf, *]) (by first | decide | (simp [*]; done) | (simp [k8]; done)) (by repeat constructor) fun H13 st => ?_
    iterate 2 refine aN rfl rfl (by constructor) ?_
    refine sE ?_
    refine ⟨_, out3 (r_cellA st 1 rfl rfl (by first | decide | simp [*]) (by repeat constructor)) (r_tmp rfl (by constructor)) (r_tmp rfl (by constructor)) ⟨rfl, rfl, rfl⟩, ?_⟩
    have he := e_8' (d := false) hat (fun hc => by cases hc.1) hc3 hend
    obtain ⟨hP, hN⟩ := decP_no he (by decide)
    exact ⟨none, by rw [he, hP, hN]; rfl, by rw [hP]; exact (st.nil 5).pick 0 rfl⟩
   ·have h12q := h12; try simp only [decide_eq_true_eq, decide_eq_false_iff_not, beq_iff_eq, beq_eq_false_iff_ne, bne_iff_ne, bne_eq_false_iff_eq, ne_eq, Decidable.not_not, Bool.not_eq_true, Bool.not_eq_false, gt_iff_lt, ge_iff_le, Int.not_lt, Int.not_le] at h12q
    have hend : ¬ (xs.length < endN xs false false) := by have := of_decide_eq_false h12; rw [hE]; omega
    show AWl _ _ _ _ _
    refine aMovV x rfl ?_
    iterate 3 refine aN rfl rfl (by constructor) ?_
    refine aBinV (.int .i64 ((48 + mOf xs : Nat) : Int)) (u := .int .i64 48) (u' := .int .i64 (mOf xs : Int)) rfl rfl (congrArg (fun z => some (Value.int .i64 z)) (by rw [wi _ (by omega)]; omega)) ?_
    refine aCutLH (st.slc hx) rfl rfl rfl (by omega) fun v95 s95 => ?_
    replace s95 := s95 _ hx
    replace s95 : Sl H 1 ((xs.drop 48).take (mOf xs)).length (((xs.drop 48).take (mOf xs)).map (Value.int .u8)) v95 := by rw [show ((xs.drop 48).take (mOf xs)).length = mOf xs by rw [List.length_take, List.length_drop]; omega]; have e : ((48 + mOf xs : Nat) : Int).toNat - (48 : Int).toNat = mOf xs := (by omega); rw [e] at s95; exact s95
    refine aMovV v95 rfl ?_
    refine sE ?_
    show AWp _ _ _ _ _
    iterate 2 refine aN rfl rfl (by constructor) ?_
    refine gF rfl (by decide) ?_
    refine gF rfl (by decide) ?_
    iterate 2 refine aN rfl rfl (by constructor) ?_
    refine gF rfl (by decide) ?_
    refine gF rfl (by decide) ?_
    refine gF rfl (by decide) ?_
    refine gF rfl (by decide) ?_
    refine gF rfl (by decide) ?_
    refine gF rfl (by decide) ?_
    refine gF rfl (by decide) ?_
    refine ⟨gF rfl (by decide) ?_, trivial⟩
    refine ⟨⟨⟨some false, .bool false, rfl⟩, trivial⟩, ?_⟩
    refine gF rfl (by decide) ?_
    refine gF rfl (by decide) ?_
    refine aN rfl rfl (by constructor) ?_
    refine pE ?_
    show AW _ (.cond _ _ _) _ _ _
    refine cF' rfl ?_
    show AWl _ _ _ _ _
    refine aMovV v95 rfl ?_
    refine aN rfl rfl (by constructor) ?_
    refine aCutL (st.slc s95) rfl rfl (by rw [List.length_take, List.length_drop]; omega) fun v116 s116 => ?_
    replace s116 := s116 _ s95
    replace s116 : Sl H 1 (padN (nOf xs)) ((((xs.drop 48).take (mOf xs)).drop (nOf xs)).map (Value.int .u8)) v116 := by have e : ((xs.drop 48).take (mOf xs)).length - ((nOf xs : Int)).toNat = padN (nOf xs) := (by rw [List.length_take, List.length_drop]; omega); rw [e] at s116; exact s116
    refine aLen (st.slc s116) rfl ?_
    refine aN rfl rfl (by constructor) ?_
    refine sE ?_
    show AW _ (.loop _) _ _ _
    refine AW_loopN (fun m t1 H1 => ∃ (j : Nat), m = padN (nOf xs) - j ∧ (j ≤ padN (nOf xs)) ∧ (Zer xs (48 + nOf xs) j) ∧ t1 118 = .int .i64 (j : Int) ∧ Stt [] H H1 [⟨some b6, true, ⟨true, 26, [.int .u8 0, .int .u8 0, .int .u8 0, .int .u8 0, .int .u8 0, .int .u32 0, .int .u32 0, .int .u32 0, .int .u32 0, .int .u32 0, .int .u32 0, .int .u32 0, .int .u32 0, .slice none 0 0]⟩⟩]) (padN (nOf xs) - 0) ⟨0, rfl, by omega, fun i hi => by omega, rfl, (st.sel [1] (by decide))⟩ [7, 8, 19, 118, 119, 120, 121, 122, 123, 124, 125] (by decide) ?_
    rintro m t1 H1 hk hI
    obtain ⟨j, rfl, hj, hzr, ht118, st⟩ := hI
    obtain ⟨u, rfl⟩ : ∃ u, t1 = (upd (mix [7, 8, 19, 118, 119, 120, 121, 122, 123, 124, 125] _ u) (some 118) _) := ⟨t1, by rw [← hk, upd_self ht118]⟩
    clear hk ht118
    show AWl _ _ _ _ _
    refine aN rfl rfl (by constructor) ?_
    refine sE ?_
    show AW _ (.cond _ _ _) _ _ _
    refine cC' rfl (fun h14 => ?_) (fun h14 => ?_)
    ·have h14q := h14; try simp only [decide_eq_true_eq, decide_eq_false_iff_not, beq_iff_eq, beq_eq_false_iff_ne, bne_iff_ne, bne_eq_false_iff_eq, ne_eq, Decidable.not_not, Bool.not_eq_true, Bool.not_eq_false, gt_iff_lt, ge_iff_le, Int.not_lt, Int.not_le] at h14q
     have hlt : j < padN (nOf xs) := by have := of_decide_eq_true h14; omega
     show AWl _ _ _ _ _
     refine aIxBK (st.slc s116) rfl rfl (by omega) fun b120 o120 g120 => ?_
     refine aLdG rfl (g120 _ (st.slc s116)) ?_
     refine aN rfl rfl (by constructor) ?_
     refine sE ?_
     show AWl _ _ _ _ _
     iterate 2 refine aN rfl rfl (by constructor) ?_
     refine sE ?_
     show AW _ (.cond _ _ _) _ _ _
     refine cC' rfl (fun h15 => ?_) (fun h15 => ?_)
     ·have h15q := h15; try simp only [decide_eq_true_eq, decide_eq_false_iff_not, beq_iff_eq, beq_eq_false_iff_ne, bne_iff_ne, bne_eq_false_iff_eq, ne_eq, Decidable.not_not, Bool.not_eq_true, Bool.not_eq_false, gt_iff_lt, ge_iff_le, Int.not_lt, Int.not_le] at h15q
      have hz0 : (((xs.drop 48).take (mOf xs)).drop (nOf xs)).getD j 0 ≠ 0 := by simpa using h15
      rw [zer_at (by omega) (by unfold mOf; omega)] at hz0
      show AWl _ _ _ _ _
      refine aBld rfl (by repeat constructor) ?_
      refine aSt st 0 rfl rfl rfl rfl (by first | rfl | simp [cellsOf, *]) (by first | decide | (simp [*]; done) | (simp [k8]; done)) (by repeat constructor) fun H16 st => ?_
      iterate 2 refine aN rfl rfl (by constructor) ?_
      refine sE ?_
      refine ⟨_, out3 (r_cellA st 0 rfl rfl (by first | decide | simp [*]) (by repeat constructor)) (r_tmp rfl (by constructor)) (r_tmp rfl (by constructor)) ⟨rfl, rfl, rfl⟩, ?_⟩
      have he := e_3' (d := false) hat (fun hc => by cases hc.1) hc3 hend (fun hc => by cases hc.1.1) (fun hz => hz0 (hz j hlt))
      obtain ⟨hP, hN⟩ := decP_no he (by decide)
      exact ⟨none, by rw [he, hP, hN]; rfl, by rw [hP]; exact (st.nil 5).pick 0 rfl⟩
     ·have h15q := h15; try simp only [decide_eq_true_eq, decide_eq_false_iff_not, beq_iff_eq, beq_eq_false_iff_ne, bne_iff_ne, bne_eq_false_iff_eq, ne_eq, Decidable.not_not, Bool.not_eq_true, Bool.not_eq_false, gt_iff_lt, ge_iff_le, Int.not_lt, Int.not_le] at h15q
      have hz0 : (((xs.drop 48).take (mOf xs)).drop (nOf xs)).getD j 0 = 0 := by simpa using h15
      rw [zer_at (by omega) (by unfold mOf; omega)] at hz0
      show AWl _ _ _ _ _
      iterate 2 refine aN rfl rfl (by constructor) ?_
      refine sE ?_
      exact ⟨_, by omega, j + 1, rfl, by omega, hzr.step hz0, congrArg (Value.int .i64) (wi _ (by omega)), (st.sel [0] (by decide))⟩
    ·have h14q := h14; try simp only [decide_eq_true_eq, decide_eq_false_iff_not, beq_iff_eq, beq_eq_false_iff_ne, bne_iff_ne, bne_eq_false_iff_eq, ne_eq, Decidable.not_not, Bool.not_eq_true, Bool.not_eq_false, gt_iff_lt, ge_iff_le, Int.not_lt, Int.not_le] at h14q
     have hge : j = padN (nOf xs) := by have := of_decide_eq_false h14; omega
     subst hge
     show AWp _ _ _ _ _
     refine aMovV x rfl ?_
     refine aIxBK (st.slc hx) rfl rfl (by omega) fun b127 o127 g127 => ?_
     refine aLdG rfl (g127 _ (st.slc hx)) ?_
     refine aMovV x rfl ?_
     refine aIxBK (st.slc hx) rfl rfl (by omega) fun b130 o130 g130 => ?_
     refine aLdG rfl (g130 _ (st.slc hx)) ?_
     refine aMovV x rfl ?_
     refine aIxBK (st.slc hx) rfl rfl (by omega) fun b133 o133 g133 => ?_
     refine aLdG rfl (g133 _ (st.slc hx)) ?_
     refine aMovV x rfl ?_
     refine aIxBK (st.slc hx) rfl rfl (by omega) fun b136 o136 g136 => ?_
     refine aLdG rfl (g136 _ (st.slc hx)) ?_
     refine aMovV x rfl ?_
     refine aIxBK (st.slc hx) rfl rfl (by omega) fun b139 o139 g139 => ?_
     refine aLdG rfl (g139 _ (st.slc hx)) ?_
     refine aMovV v95 rfl ?_
     refine aN rfl rfl (by constructor) ?_
     refine aCutH (st.slc s95) rfl rfl (by rw [List.length_take, List.length_drop]; omega) fun v143 s143 => ?_
     replace s143 := s143 _ s95
     replace s143 : Sl H 1 (nOf xs) (((xs.drop 48).take (nOf xs)).map (Value.int .u8)) v143 := by have e : ((xs.drop 48).take (mOf xs)).take ((nOf xs : Int)).toNat = (xs.drop 48).take (nOf xs) := (by rw [List.take_take]; congr 1; omega); rw [e] at s143; exact s143
     refine ⟨?_, ?_⟩
     ·have st := st.nil 5
      have hnil : (Value.slice none 0 0) = accV none 0 1 := rfl
      refine aApp st 0 (ob := none) (n := 0) rfl rfl rfl (by decide) (rfl) (st.slc s143).src (by rw [List.length_map, List.length_take, List.length_drop]; omega) (by omega) (by omega) fun b144 H17 hp144 st => ?_
      rw [show 0 + nOf xs = nOf xs from Nat.zero_add _]
      rw [List.nil_append] at st
      refine ⟨⟨(h_LdG rfl (g139 _ (st.slc hx))), (h_LdG rfl (g136 _ (st.slc hx))), (h_LdG rfl (g133 _ (st.slc hx))), (h_LdG rfl (g130 _ (st.slc hx))), (h_LdG rfl (g127 _ (st.slc hx))), trivial⟩, ?_⟩
      refine aBld (xs := [.int .u8 (xs.getD 0 0), .int .u8 (xs.getD 1 0), .int .u8 (xs.getD 2 0), .int .u8 (xs.getD 3 0), .int .u8 (xs.getD 9 0), .int .u32 0, .int .u32 0, .int .u32 0, .int .u32 0, .int .u32 0, .int .u32 0, .int .u32 0, .int .u32 0, accV b144 (nOf xs) 1]) (by cases b144 <;> rfl) (.any _) ?_
      refine ⟨?_, trivial⟩
      refine aNewP st rfl rfl (by repeat constructor) fun b20 H18 st => ?_
      refine ⟨⟨(h_LdG rfl (g139 _ (st.slc hx))), (h_LdG rfl (g136 _ (st.slc hx))), (h_LdG rfl (g133 _ (st.slc hx))), (h_LdG rfl (g130 _ (st.slc hx))), (h_LdG rfl (g127 _ (st.slc hx))), trivial⟩, ?_⟩
      refine ⟨?_, trivial⟩
      refine aSt st 0 rfl rfl rfl rfl (by first | rfl | simp [cellsOf, *]) (by first | decide | (simp [*]; done) | (simp [k8]; done)) (by repeat constructor) fun H19 st => ?_
      refine ⟨trivial, ?_⟩
      refine pE ?_
      show AWl _ _ _ _ _
      refine aMovV x rfl ?_
      refine aC (get_call (st.slc hx) hb (by omega) (by decide)) fun v148 H20 ⟨hv, st1⟩ => ?_
      subst hv
      replace st := st.call st1 rfl
      clear st1
      iterate 5 refine aN rfl rfl (by constructor) ?_
      refine sE ?_
      show AWl _ _ _ _ _
      iterate 2 refine aN rfl rfl (by constructor) ?_
      rw [show rgetV xs 16 4 = rgetV xs ((16 : Nat) : Int) 4 from rfl, w_conv hb (by omega)]
      refine aN rfl rfl (by constructor) ?_
      refine aSt st 0 rfl rfl rfl rfl (by first | rfl | simp [cellsOf, *]) (by first | decide | (simp [*]; done) | (simp [k8]; done)) (by repeat constructor) fun H21 st => ?_
      refine sE ?_
      show AWl _ _ _ _ _
      refine aN rfl rfl (by constructor) ?_
      refine sE ?_
      show AW _ (.loop _) _ _ _
      refine AW_loopN (fun m t1 H1 => ∃ (j : Nat), m = 7 - j ∧ (j ≤ 7) ∧ t1 154 = .int .i64 (j : Int) ∧ Stt [] H H1 [⟨b144, true, ⟨true, 5, ((xs.drop 48).take (nOf xs)).map (Value.int .u8)⟩⟩, ⟨some b20, true, ⟨true, 26, [.int .u8 (xs.getD 0 0), .int .u8 (xs.getD 1 0), .int .u8 (xs.getD 2 0), .int .u8 (xs.getD 3 0), .int .u8 (xs.getD 9 0), .int .u32 (beN ((xs.drop 16).take 4)), .int .u32 (wj xs j 0), .int .u32 (wj xs j 1), .int .u32 (wj xs j 2), .int .u32 (wj xs j 3), .int .u32 (wj xs j 4), .int .u32 (wj xs j 5), .int .u32 (wj xs j 6), accV b144 (nOf xs) 1]⟩⟩, ⟨some b6, true, ⟨true, 26, [.int .u8 0, .int .u8 0, .int .u8 0, .int .u8 0, .int .u8 0, .int .u32 0, .int .u32 0, .int .u32 0, .int .u32 0, .int .u32 0, .int .u32 0, .int .u32 0, .int .u32 0, .slice none 0 0]⟩⟩]) (7 - 0) ⟨0, rfl, by omega, rfl, (st.sel [1, 0, 2] (by decide))⟩ [23, 24, 25, 154, 155, 156, 157, 158, 159, 160, 161, 162, 163, 164, 165, 166, 167, 168, 169, 170] (by decide) ?_
      rintro m t1 H1 hk hI
      obtain ⟨j, rfl, hj, ht154, st⟩ := hI
      obtain ⟨u, rfl⟩ : ∃ u, t1 = (upd (mix [23, 24, 25, 154, 155, 156, 157, 158, 159, 160, 161, 162, 163, 164, 165, 166, 167, 168, 169, 170] _ u) (some 154) _) := ⟨t1, by rw [← hk, upd_self ht154]⟩
      clear hk ht154
      show AWl _ _ _ _ _
      refine aN rfl rfl (by constructor) ?_
      refine sE ?_
      show AW _ (.cond _ _ _) _ _ _
      refine cC' rfl (fun h22 => ?_) (fun h22 => ?_)
      ·have h22q := h22; try simp only [decide_eq_true_eq, decide_eq_false_iff_not, beq_iff_eq, beq_eq_false_iff_ne, bne_iff_ne, bne_eq_false_iff_eq, ne_eq, Decidable.not_not, Bool.not_eq_true, Bool.not_eq_false, gt_iff_lt, ge_iff_le, Int.not_lt, Int.not_le] at h22q
       have hlt : j < 7 := by have := of_decide_eq_true h22; omega
       show AWl _ _ _ _ _
       iterate 2 refine aN rfl rfl (by constructor) ?_
       refine sE ?_
       show AWl _ _ _ _ _
       refine aMovV x rfl ?_
       iterate 3 refine aN rfl rfl (by constructor) ?_
       refine aC (get_call (st.slc hx) hb (by omega) (by decide)) fun v162 H23 ⟨hv, st1⟩ => ?_
       subst hv
       replace st := st.call st1 rfl
       clear st1
       iterate 5 refine aN rfl rfl (by constructor) ?_
       refine sE ?_
       show AWl _ _ _ _ _
       iterate 3 refine aN rfl rfl (by constructor) ?_
       rw [wi (4 * (j : Int)) (by omega), wi (20 + 4 * (j : Int)) (by omega), show (20 + 4 * (j : Int)) = ((20 + 4 * j : Nat) : Int) by omega, w_conv hb (by omega)]
       refine aN rfl rfl (by constructor) ?_
       refine aIxA rfl rfl (by omega) ?_
       refine aStAt st 1 rfl rfl rfl rfl rfl (by simp; omega) (row_set hlt) fun H24 st => ?_
       refine sE ?_
       show AWl _ _ _ _ _
       iterate 2 refine aN rfl rfl (by constructor) ?_
       refine sE ?_
       exact ⟨_, by omega, j + 1, rfl, by omega, congrArg (Value.int .i64) (wi _ (by omega)), (st.sel [0, 1, 2] (by decide))⟩
      ·have h22q := h22; try simp only [decide_eq_true_eq, decide_eq_false_iff_not, beq_iff_eq, beq_eq_false_iff_ne, bne_iff_ne, bne_eq_false_iff_eq, ne_eq, Decidable.not_not, Bool.not_eq_true, Bool.not_eq_false, gt_iff_lt, ge_iff_le, Int.not_lt, Int.not_le] at h22q
       have hge : j = 7 := by have := of_decide_eq_false h22; omega
       subst hge
       show AWl _ _ _ _ _
       refine aLdAll st 1 rfl rfl (rfl) ?_
       refine aN rfl rfl (by constructor) ?_
       refine aStAllA st 2 rfl rfl rfl (rfl) (rfl) fun H25 st => ?_
       iterate 2 refine aN rfl rfl (by constructor) ?_
       refine sE ?_
       refine ⟨_, out3 (r_cellA st 2 rfl rfl (by first | decide | simp [*]) (by repeat constructor)) (r_tmp rfl (by constructor)) (r_tmp rfl (by constructor)) ⟨rfl, rfl, rfl⟩, ?_⟩
       have he := e_0 (d := false) hat (fun hc => by cases hc.1) hc3 hend (fun hc => by cases hc.1.1) hzr
       obtain ⟨hP, hN⟩ := decP_yes he
       have hdl : (decD xs false).data.length = nOf xs := by show (((xs.drop 48).take (nOf xs)) : List Int).length = _; rw [List.length_take, List.length_drop]; omega
       refine ⟨b144, ?_, ?_⟩
       ·rw [he, hP, hN, hdl, hE]; rfl
       ·rw [hP]; exact st.pick 0 rfl
     ·refine ⟨?_, trivial⟩
      refine aNewP st rfl rfl (by repeat constructor) fun b20 H26 st => ?_
      refine ⟨⟨(h_LdG rfl (g139 _ (st.slc hx))), (h_LdG rfl (g136 _ (st.slc hx))), (h_LdG rfl (g133 _ (st.slc hx))), (h_LdG rfl (g130 _ (st.slc hx))), (h_LdG rfl (g127 _ (st.slc hx))), trivial⟩, ?_⟩
      refine ⟨?_, trivial⟩
      have st := st.nil 5
      have hnil : (Value.slice none 0 0) = accV none 0 1 := rfl
      refine aApp st 0 (ob := none) (n := 0) rfl rfl rfl (by decide) (rfl) (st.slc s143).src (by rw [List.length_map, List.length_take, List.length_drop]; omega) (by omega) (by omega) fun b144 H27 hp144 st => ?_
      rw [show 0 + nOf xs = nOf xs from Nat.zero_add _]
      rw [List.nil_append] at st
      refine ⟨⟨(h_LdG rfl (g139 _ (st.slc hx))), (h_LdG rfl (g136 _ (st.slc hx))), (h_LdG rfl (g133 _ (st.slc hx))), (h_LdG rfl (g130 _ (st.slc hx))), (h_LdG rfl (g127 _ (st.slc hx))), trivial⟩, ?_⟩
      refine aBld (xs := [.int .u8 (xs.getD 0 0), .int .u8 (xs.getD 1 0), .int .u8 (xs.getD 2 0), .int .u8 (xs.getD 3 0), .int .u8 (xs.getD 9 0), .int .u32 0, .int .u32 0, .int .u32 0, .int .u32 0, .int .u32 0, .int .u32 0, .int .u32 0, .int .u32 0, accV b144 (nOf xs) 1]) (by cases b144 <;> rfl) (.any _) ?_
      refine ⟨?_, trivial⟩
      refine aSt st 1 rfl rfl rfl rfl (by first | rfl | simp [cellsOf, *]) (by first | decide | (simp [*]; done) | (simp [k8]; done)) (by repeat constructor) fun H28 st => ?_
      refine ⟨trivial, ?_⟩
      refine pE ?_
      show AWl _ _ _ _ _
      refine aMovV x rfl ?_
      refine aC (get_call (st.slc hx) hb (by omega) (by decide)) fun v148 H29 ⟨hv, st1⟩ => ?_
      subst hv
      replace st := st.call st1 rfl
      clear st1
      iterate 5 refine aN rfl rfl (by constructor) ?_
      refine sE ?_
      show AWl _ _ _ _ _
      iterate 2 refine aN rfl rfl (by constructor) ?_
      rw [show rgetV xs 16 4 = rgetV xs ((16 : Nat) : Int) 4 from rfl, w_conv hb (by omega)]
      refine aN rfl rfl (by constructor) ?_
      refine aSt st 1 rfl rfl rfl rfl (by first | rfl | simp [cellsOf, *]) (by first | decide | (simp [*]; done) | (simp [k8]; done)) (by repeat constructor) fun H30 st => ?_
      refine sE ?_
      show AWl _ _ _ _ _
      refine aN rfl rfl (by constructor) ?_
      refine sE ?_
      show AW _ (.loop _) _ _ _
      refine AW_loopN (fun m t1 H1 => ∃ (j : Nat), m = 7 - j ∧ (j ≤ 7) ∧ t1 154 = .int .i64 (j : Int) ∧ Stt [] H H1 [⟨b144, true, ⟨true, 5, ((xs.drop 48).take (nOf xs)).map (Value.int .u8)⟩⟩, ⟨some b20, true, ⟨true, 26, [.int .u8 (xs.getD 0 0), .int .u8 (xs.getD 1 0), .int .u8 (xs.getD 2 0), .int .u8 (xs.getD 3 0), .int .u8 (xs.getD 9 0), .int .u32 (beN ((xs.drop 16).take 4)), .int .u32 (wj xs j 0), .int .u32 (wj xs j 1), .int .u32 (wj xs j 2), .int .u32 (wj xs j 3), .int .u32 (wj xs j 4), .int .u32 (wj xs j 5), .int .u32 (wj xs j 6), accV b144 (nOf xs) 1]⟩⟩, ⟨some b6, true, ⟨true, 26, [.int .u8 0, .int .u8 0, .int .u8 0, .int .u8 0, .int .u8 0, .int .u32 0, .int .u32 0, .int .u32 0, .int .u32 0, .int .u32 0, .int .u32 0, .int .u32 0, .int .u32 0, .slice none 0 0]⟩⟩]) (7 - 0) ⟨0, rfl, by omega, rfl, (st.sel [0, 1, 2] (by decide))⟩ [23, 24, 25, 154, 155, 156, 157, 158, 159, 160, 161, 162, 163, 164, 165, 166, 167, 168, 169, 170] (by decide) ?_
      rintro m t1 H1 hk hI
      obtain ⟨j, rfl, hj, ht154, st⟩ := hI
      obtain ⟨u, rfl⟩ : ∃ u, t1 = (upd (mix [23, 24, 25, 154, 155, 156, 157, 158, 159, 160, 161, 162, 163, 164, 165, 166, 167, 168, 169, 170] _ u) (some 154) _) := ⟨t1, by rw [← hk, upd_self ht154]⟩
      clear hk ht154
      show AWl _ _ _ _ _
      refine aN rfl rfl (by constructor) ?_
      refine sE ?_
      show AW _ (.cond _ _ _) _ _ _
      refine cC' rfl (fun h31 => ?_) (fun h31 => ?_)
      ·have h31q := h31; try simp only [decide_eq_true_eq, decide_eq_false_iff_not, beq_iff_eq, beq_eq_false_iff_ne, bne_iff_ne, bne_eq_false_iff_eq, ne_eq, Decidable.not_not, Bool.not_eq_true, Bool.not_eq_false, gt_iff_lt, ge_iff_le, Int.not_lt, Int.not_le] at h31q
       have hlt : j < 7 := by have := of_decide_eq_true h31; omega
       show AWl _ _ _ _ _
       iterate 2 refine aN rfl rfl (by constructor) ?_
       refine sE ?_
       show AWl _ _ _ _ _
       refine aMovV x rfl ?_
       iterate 3 refine aN rfl rfl (by constructor) ?_
       refine aC (get_call (st.slc hx) hb (by omega) (by decide)) fun v162 H32 ⟨hv, st1⟩ => ?_
       subst hv
       replace st := st.call st1 rfl
       clear st1
       iterate 5 refine aN rfl rfl (by constructor) ?_
       refine sE ?_
       show AWl _ _ _ _ _
       iterate 3 refine aN rfl rfl (by constructor) ?_
       rw [wi (4 * (j : Int)) (by omega), wi (20 + 4 * (j : Int)) (by omega), show (20 + 4 * (j : Int)) = ((20 + 4 * j : Nat) : Int) by omega, w_conv hb (by omega)]
       refine aN rfl rfl (by constructor) ?_
       refine aIxA rfl rfl (by omega) ?_
       refine aStAt st 1 rfl rfl rfl rfl rfl (by simp; omega) (row_set hlt) fun H33 st => ?_
       refine sE ?_
       show AWl _ _ _ _ _
       iterate 2 refine aN rfl rfl (by constructor) ?_
       refine sE ?_
       exact ⟨_, by omega, j + 1, rfl, by omega, congrArg (Value.int .i64) (wi _ (by omega)), (st.sel [0, 1, 2] (by decide))⟩
      ·have h31q := h31; try simp only [decide_eq_true_eq, decide_eq_false_iff_not, beq_iff_eq, beq_eq_false_iff_ne, bne_iff_ne, bne_eq_false_iff_eq, ne_eq, Decidable.not_not, Bool.not_eq_true, Bool.not_eq_false, gt_iff_lt, ge_iff_le, Int.not_lt, Int.not_le] at h31q
       have hge : j = 7 := by have := of_decide_eq_false h31; omega
       subst hge
       show AWl _ _ _ _ _
       refine aLdAll st 1 rfl rfl (rfl) ?_
       refine aN rfl rfl (by constructor) ?_
       refine aStAllA st 2 rfl rfl rfl (rfl) (rfl) fun H34 st => ?_
       iterate 2 refine aN rfl rfl (by constructor) ?_
       refine sE ?_
       refine ⟨_, out3 (r_cellA st 2 rfl rfl (by first | decide | simp [*]) (by repeat constructor)) (r_tmp rfl (by constructor)) (r_tmp rfl (by constructor)) ⟨rfl, rfl, rfl⟩, ?_⟩
       have he := e_0 (d := false) hat (fun hc => by cases hc.1) hc3 hend (fun hc => by cases hc.1.1) hzr
       obtain ⟨hP, hN⟩ := decP_yes he
       have hdl : (decD xs false).data.length = nOf xs := by show (((xs.drop 48).take (nOf xs)) : List Int).length = _; rw [List.length_take, List.length_drop]; omega
       refine ⟨b144, ?_, ?_⟩
       ·rw [he, hP, hN, hdl, hE]; rfl
       ·rw [hP]; exact st.pick 0 rfl
end Go.Proofs.Ytfjlniemgmimnaa.Abs
