/- PDUs: read, as the document has it. -/
import Derived.Test.YtfjlniemgmimnaaU3C
set_option linter.unusedVariables false
set_option linter.unusedSimpArgs false
set_option maxRecDepth 100000
namespace Go.Proofs.Ytfjlniemgmimnaa.Abs
open Go Go.RowKit
theorem rdec_call_tt {H : Hp} {xs : List Int} {x : Value} (hx : Sl H 1 xs.length (xs.map (Value.int .u8)) x) (hb : ByteL xs) (hl : xs.length ≤ 140737488351232) :
  ACalls Try.prog 14 [x, .bool true, .bool true] H (fun v H' => ∃ ob, v = .tuple #[.agg #[.int .u8 (decP xs true true).op, .int .u8 (decP xs true true).fl, .int .u8 (decP xs true true).res, .int .u8 (decP xs true true).st, .int .u8 (decP xs true true).lun, .int .u32 (decP xs true true).tag, .int .u32 (decP xs true true).w0, .int .u32 (decP xs true true).w1, .int .u32 (decP xs true true).w2, .int .u32 (decP xs true true).w3, .int .u32 (decP xs true true).w4, .int .u32 (decP xs true true).w5, .int .u32 (decP xs true true).w6, accV ob (decP xs true true).data.length 1], .int .i64 (decN xs true true), .int .i64 (decE xs true true)] ∧ Stt [] H H' [⟨ob, true, ⟨true, 5, (decP xs true true).data.map (Value.int .u8)⟩⟩]) := by
 refine acallsW Try.func14 f14_ok (Nat.le_of_ble_eq_true rfl) fun hw => ?_
 have st : Stt [] H H [] := Stt.start hw
 unfold f14c
 show AWl _ _ _ _ _
 refine aNewP st rfl rfl (by repeat constructor) fun b6 H1 st => ?_
 iterate 2 refine aN rfl rfl (by constructor) ?_
 refine sE ?_
 show AWl _ _ _ _ _
 refine aN rfl rfl (by constructor) ?_
 refine sE ?_
 show AWl _ _ _ _ _
 refine aN rfl rfl (by constructor) ?_
 refine sE ?_
 show AW _ (.cond _ _ _) _ _ _
 refine cT rfl ?_
 show AWl _ _ _ _ _
 refine aN rfl rfl (by constructor) ?_
 refine sE ?_
 show AWl _ _ _ _ _
 refine aMovV x rfl ?_
 refine aLen (st.slc hx) rfl ?_
 iterate 2 refine aN rfl rfl (by constructor) ?_
 refine sE ?_
 show AW _ (.cond _ _ _) _ _ _
 refine cC' rfl (fun h2 => ?_) (fun h2 => ?_)
 ·have h2q := h2; try simp only [decide_eq_true_eq, decide_eq_false_iff_not, beq_iff_eq, beq_eq_false_iff_ne, bne_iff_ne, bne_eq_false_iff_eq, ne_eq, Decidable.not_not, Bool.not_eq_true, Bool.not_eq_false, gt_iff_lt, ge_iff_le, Int.not_lt, Int.not_le] at h2q
  have hat : (xs.length < atN true) := by have := of_decide_eq_true h2; show (xs.length < 52); omega
  have hat2 : xs.length < 52 := by have : atN true = 52 := rfl; omega
  show AWl _ _ _ _ _
  refine aBld rfl (by repeat constructor) ?_
  refine aSt st 0 rfl rfl rfl rfl (by first | rfl | simp [cellsOf, *]) (by first | decide | (simp [*]; done) | (simp [k8]; done)) (by repeat constructor) fun H3 st => ?_
  iterate 2 refine aN rfl rfl (by constructor) ?_
  refine sE ?_
  refine ⟨_, out3 (r_cellA st 0 rfl rfl (by first | decide | simp [*]) (by repeat constructor)) (r_tmp rfl (by constructor)) (r_tmp rfl (by constructor)) ⟨rfl, rfl, rfl⟩, ?_⟩
  have he := e_8 (d := true) hat
  obtain ⟨hP, hN⟩ := decP_no he (by decide)
  exact ⟨none, by rw [he, hP, hN]; rfl, by rw [hP]; exact (st.nil 5).pick 0 rfl⟩
 ·have h2q := h2; try simp only [decide_eq_true_eq, decide_eq_false_iff_not, beq_iff_eq, beq_eq_false_iff_ne, bne_iff_ne, bne_eq_false_iff_eq, ne_eq, Decidable.not_not, Bool.not_eq_true, Bool.not_eq_false, gt_iff_lt, ge_iff_le, Int.not_lt, Int.not_le] at h2q
  have hat : ¬ (xs.length < atN true) := by have := of_decide_eq_false h2; show ¬ (xs.length < 52); omega
  have hat2 : 52 ≤ xs.length := by have : atN true = 52 := rfl; omega
  show AWp _ _ _ _ _
  iterate 2 refine aN rfl rfl (by constructor) ?_
  refine gT rfl ?_
  refine aMovV x rfl ?_
  refine gT rfl ?_
  refine aCutLH (st.slc hx) rfl rfl rfl (by omega) fun v25 s25 => ?_
  replace s25 := s25 _ hx
  replace s25 : Sl H 1 4 (((xs.drop 48).take 4).map (Value.int .u8)) v25 := s25
  refine gT rfl ?_
  refine aText (st.slc s25) rfl ?_
  refine gT rfl ?_
  refine aMovV x rfl ?_
  refine gT rfl ?_
  refine aCutH (st.slc hx) rfl rfl (by omega) fun v28 s28 => ?_
  replace s28 := s28 _ hx
  replace s28 : Sl H 1 (xs.take 48).length ((xs.take 48).map (Value.int .u8)) v28 := by rw [show (xs.take 48).length = 48 by rw [List.length_take]; omega]; exact s28
  refine ⟨?_, trivial⟩
  refine gT rfl ?_
  refine aC (rsum_call (xs := xs.take 48) (st.slc s28) (hb.take 48) (by simp only [List.length_take, List.length_drop]; omega)) fun v29 H4 ⟨b29, hv, st1⟩ => ?_
  subst hv
  replace st := st.call st1 rfl
  clear st1
  refine ⟨⟨⟨some true, .bool true, (h_Text (st.slc s25) rfl)⟩, trivial⟩, ?_⟩
  refine gT rfl ?_
  refine aText (st.rowAll 0 rfl (by simp [beB_len])) rfl ?_
  refine gT rfl ?_
  refine aBinV (.bool (!decide (beB 4 (c32 (xs.take 48)) = (xs.drop 48).take 4))) (u := .string (ofInts ((xs.drop 48).take 4))) (u' := .string (ofInts (beB 4 (c32 (xs.take 48))))) rfl rfl (by show some (Value.bool (!((ofInts ((xs.drop 48).take 4)).toList == (ofInts (beB 4 (c32 (xs.take 48)))).toList))) = _; rw [texts_beq' ((hb.drop _).take _) (beB_bytes _ _)]) ?_
  refine aN rfl rfl (by constructor) ?_
  refine pE ?_
  show AW _ (.cond _ _ _) _ _ _
  refine cC' rfl (fun h5 => ?_) (fun h5 => ?_)
  ·have h5q := h5; try simp only [decide_eq_true_eq, decide_eq_false_iff_not, beq_iff_eq, beq_eq_false_iff_ne, bne_iff_ne, bne_eq_false_iff_eq, ne_eq, Decidable.not_not, Bool.not_eq_true, Bool.not_eq_false, gt_iff_lt, ge_iff_le, Int.not_lt, Int.not_le] at h5q
   have h5n : decide (beB 4 (c32 (xs.take 48)) = (xs.drop 48).take 4) = false := Eq.mp (Bool.not_eq_true' _) h5
   show AWl _ _ _ _ _
   refine aBld rfl (by repeat constructor) ?_
   refine aSt st 1 rfl rfl rfl rfl (by first | rfl | simp [cellsOf, *]) (by first | decide | (simp [*]; done) | (simp [k8]; done)) (by repeat constructor) fun H6 st => ?_
   iterate 2 refine aN rfl rfl (by constructor) ?_
   refine sE ?_
   refine ⟨_, out3 (r_cellA st 1 rfl rfl (by first | decide | simp [*]) (by repeat constructor)) (r_tmp rfl (by constructor)) (r_tmp rfl (by constructor)) ⟨rfl, rfl, rfl⟩, ?_⟩
   have he := e_5 (d := true) hat ⟨rfl, of_decide_eq_false h5n⟩
   obtain ⟨hP, hN⟩ := decP_no he (by decide)
   exact ⟨none, by rw [he, hP, hN]; rfl, by rw [hP]; exact (st.nil 5).pick 0 rfl⟩
  ·have h5q := h5; try simp only [decide_eq_true_eq, decide_eq_false_iff_not, beq_iff_eq, beq_eq_false_iff_ne, bne_iff_ne, bne_eq_false_iff_eq, ne_eq, Decidable.not_not, Bool.not_eq_true, Bool.not_eq_false, gt_iff_lt, ge_iff_le, Int.not_lt, Int.not_le] at h5q
   have h5n : decide (beB 4 (c32 (xs.take 48)) = (xs.drop 48).take 4) = true := Eq.mp (Bool.not_eq_false' _) h5
   show AWl _ _ _ _ _
   refine aMovV x rfl ?_
   refine aC (rnum_call (st.slc hx) hb (by omega) (by first | omega | (rw [wi (4 * (j : Int)) (by omega), wi _ (by omega)]; omega))) fun v35 H7 ⟨hv, st1⟩ => ?_
   subst hv
   replace st := st.call st1 rfl
   clear st1
   refine aN rfl rfl (by constructor) ?_
   rw [n_conv hb (by omega)]
   have hn24 := nOf_lt hb
   refine aN rfl rfl (by constructor) ?_
   refine sE ?_
   show AWl _ _ _ _ _
   iterate 3 refine aN rfl rfl (by constructor) ?_
   refine gCase 39 rfl (fun h8 => ?_) (fun h8 => ?_)
   ·have h8q := h8; try simp only [decide_eq_true_eq, decide_eq_false_iff_not, beq_iff_eq, beq_eq_false_iff_ne, bne_iff_ne, bne_eq_false_iff_eq, ne_eq, Decidable.not_not, Bool.not_eq_true, Bool.not_eq_false, gt_iff_lt, ge_iff_le, Int.not_lt, Int.not_le] at h8q
    refine gF rfl (by decide) ?_
    refine gF rfl (by decide) ?_
    refine gF rfl (by decide) ?_
    refine gF rfl (by decide) ?_
    iterate 2 refine aN rfl rfl (by constructor) ?_
    refine gF rfl (by decide) ?_
    refine gF rfl (by decide) ?_
    refine gF rfl (by decide) ?_
    refine gF rfl (by decide) ?_
    iterate 2 refine aN rfl rfl (by constructor) ?_
    refine gF rfl (by decide) ?_
    refine gF rfl (by decide) ?_
    refine gF rfl (by decide) ?_
    refine aN rfl rfl (by constructor) ?_
    refine sE ?_
    show AW _ (.cond _ _ _) _ _ _
    refine cT rfl ?_
    show AWl _ _ _ _ _
    refine aBld rfl (by repeat constructor) ?_
    refine aSt st 1 rfl rfl rfl rfl (by first | rfl | simp [cellsOf, *]) (by first | decide | (simp [*]; done) | (simp [k8]; done)) (by repeat constructor) fun H9 st => ?_
    iterate 2 refine aN rfl rfl (by constructor) ?_
    refine sE ?_
    refine ⟨_, out3 (r_cellA st 1 rfl rfl (by first | decide | simp [*]) (by repeat constructor)) (r_tmp rfl (by constructor)) (r_tmp rfl (by constructor)) ⟨rfl, rfl, rfl⟩, ?_⟩
    have he := e_3 (d := true) hat (fun hc => hc.2 (of_decide_eq_true h5n)) (.inl (by omega))
    obtain ⟨hP, hN⟩ := decP_no he (by decide)
    exact ⟨none, by rw [he, hP, hN]; rfl, by rw [hP]; exact (st.nil 5).pick 0 rfl⟩
   ·have h8q := h8; try simp only [decide_eq_true_eq, decide_eq_false_iff_not, beq_iff_eq, beq_eq_false_iff_ne, bne_iff_ne, bne_eq_false_iff_eq, ne_eq, Decidable.not_not, Bool.not_eq_true, Bool.not_eq_false, gt_iff_lt, ge_iff_le, Int.not_lt, Int.not_le] at h8q
    refine gT rfl ?_
    refine aMovV x rfl ?_
    refine gT rfl ?_
    refine aIxBK (st.slc hx) rfl rfl (by omega) fun b41 o41 g41 => ?_
    refine gT rfl ?_
    refine aLdG rfl (g41 _ (st.slc hx)) ?_
    refine gT rfl ?_
    iterate 3 refine aN rfl rfl (by constructor) ?_
    refine gCase 45 rfl (fun h10 => ?_) (fun h10 => ?_)
    ·have h10q := h10; try simp only [decide_eq_true_eq, decide_eq_false_iff_not, beq_iff_eq, beq_eq_false_iff_ne, bne_iff_ne, bne_eq_false_iff_eq, ne_eq, Decidable.not_not, Bool.not_eq_true, Bool.not_eq_false, gt_iff_lt, ge_iff_le, Int.not_lt, Int.not_le] at h10q
     refine gF rfl (by decide) ?_
     refine gF rfl (by decide) ?_
     refine gF rfl (by decide) ?_
     refine gF rfl (by decide) ?_
     iterate 2 refine aN rfl rfl (by constructor) ?_
     refine gF rfl (by decide) ?_
     refine gF rfl (by decide) ?_
     refine gF rfl (by decide) ?_
     refine aN rfl rfl (by constructor) ?_
     refine sE ?_
     show AW _ (.cond _ _ _) _ _ _
     refine cT rfl ?_
     show AWl _ _ _ _ _
     refine aBld rfl (by repeat constructor) ?_
     refine aSt st 1 rfl rfl rfl rfl (by first | rfl | simp [cellsOf, *]) (by first | decide | (simp [*]; done) | (simp [k8]; done)) (by repeat constructor) fun H11 st => ?_
     iterate 2 refine aN rfl rfl (by constructor) ?_
     refine sE ?_
     refine ⟨_, out3 (r_cellA st 1 rfl rfl (by first | decide | simp [*]) (by repeat constructor)) (r_tmp rfl (by constructor)) (r_tmp rfl (by constructor)) ⟨rfl, rfl, rfl⟩, ?_⟩
     have he := e_3 (d := true) hat (fun hc => hc.2 (of_decide_eq_true h5n)) (.inr fun hr => by have hq := (rsv_iff hb (by omega)).1 hr; first | exact h10q hq.1 | exact h10q hq.2.1 | exact h10q hq.2.2)
     obtain ⟨hP, hN⟩ := decP_no he (by decide)
     exact ⟨none, by rw [he, hP, hN]; rfl, by rw [hP]; exact (st.nil 5).pick 0 rfl⟩
    ·have h10q := h10; try simp only [decide_eq_true_eq, decide_eq_false_iff_not, beq_iff_eq, beq_eq_false_iff_ne, bne_iff_ne, bne_eq_false_iff_eq, ne_eq, Decidable.not_not, Bool.not_eq_true, Bool.not_eq_false, gt_iff_lt, ge_iff_le, Int.not_lt, Int.not_le] at h10q
     refine gT rfl ?_
     refine aMovV x rfl ?_
     refine gT rfl ?_
     refine aIxBK (st.slc hx) rfl rfl (by omega) fun b47 o47 g47 => ?_
     refine gT rfl ?_
     refine aLdG rfl (g47 _ (st.slc hx)) ?_
     refine gT rfl ?_
     iterate 3 refine aN rfl rfl (by constructor) ?_
     refine gCase 51 rfl (fun h12 => ?_) (fun h12 => ?_)
     ·have h12q := h12; try simp only [decide_eq_true_eq, decide_eq_false_iff_not, beq_iff_eq, beq_eq_false_iff_ne, bne_iff_ne, bne_eq_false_iff_eq, ne_eq, Decidable.not_not, Bool.not_eq_true, Bool.not_eq_false, gt_iff_lt, ge_iff_le, Int.not_lt, Int.not_le] at h12q
      refine gF rfl (by decide) ?_
      refine gF rfl (by decide) ?_
      refine gF rfl (by decide) ?_
      refine aN rfl rfl (by constructor) ?_
      refine sE ?_
      show AW _ (.cond _ _ _) _ _ _
      refine cT rfl ?_
      show AWl _ _ _ _ _
      refine aBld rfl (by repeat constructor) ?_
      refine aSt st 1 rfl rfl rfl rfl (by first | rfl | simp [cellsOf, *]) (by first | decide | (simp [*]; done) | (simp [k8]; done)) (by repeat constructor) fun H13 st => ?_
      iterate 2 refine aN rfl rfl (by constructor) ?_
      refine sE ?_
      refine ⟨_, out3 (r_cellA st 1 rfl rfl (by first | decide | simp [*]) (by repeat constructor)) (r_tmp rfl (by constructor)) (r_tmp rfl (by constructor)) ⟨rfl, rfl, rfl⟩, ?_⟩
      have he := e_3 (d := true) hat (fun hc => hc.2 (of_decide_eq_true h5n)) (.inr fun hr => by have hq := (rsv_iff hb (by omega)).1 hr; first | exact h12q hq.1 | exact h12q hq.2.1 | exact h12q hq.2.2)
      obtain ⟨hP, hN⟩ := decP_no he (by decide)
      exact ⟨none, by rw [he, hP, hN]; rfl, by rw [hP]; exact (st.nil 5).pick 0 rfl⟩
     ·have h12q := h12; try simp only [decide_eq_true_eq, decide_eq_false_iff_not, beq_iff_eq, beq_eq_false_iff_ne, bne_iff_ne, bne_eq_false_iff_eq, ne_eq, Decidable.not_not, Bool.not_eq_true, Bool.not_eq_false, gt_iff_lt, ge_iff_le, Int.not_lt, Int.not_le] at h12q
      refine gT rfl ?_
      refine aMovV x rfl ?_
      refine gT rfl ?_
      refine aC (rnum_call (st.slc hx) hb (by omega) (by first | omega | (rw [wi (4 * (j : Int)) (by omega), wi _ (by omega)]; omega))) fun v53 H14 ⟨hv, st1⟩ => ?_
      subst hv
      replace st := st.call st1 rfl
      clear st1
      refine gT rfl ?_
      iterate 2 refine aN rfl rfl (by constructor) ?_
      refine sE ?_
      show AW _ (.cond _ _ _) _ _ _
      refine cC' rfl (fun h15 => ?_) (fun h15 => ?_)
      ·have h15q := h15; try simp only [decide_eq_true_eq, decide_eq_false_iff_not, beq_iff_eq, beq_eq_false_iff_ne, bne_iff_ne, bne_eq_false_iff_eq, ne_eq, Decidable.not_not, Bool.not_eq_true, Bool.not_eq_false, gt_iff_lt, ge_iff_le, Int.not_lt, Int.not_le] at h15q
       show AWl _ _ _ _ _
       refine aBld rfl (by repeat constructor) ?_
       refine aSt st 1 rfl rfl rfl rfl (by first | rfl | simp [cellsOf, *]) (by first | decide | (simp [*]; done) | (simp [k8]; done)) (by repeat constructor) fun H16 st => ?_
       iterate 2 refine aN rfl rfl (by constructor) ?_
       refine sE ?_
       refine ⟨_, out3 (r_cellA st 1 rfl rfl (by first | decide | simp [*]) (by repeat constructor)) (r_tmp rfl (by constructor)) (r_tmp rfl (by constructor)) ⟨rfl, rfl, rfl⟩, ?_⟩
       have he := e_3 (d := true) hat (fun hc => hc.2 (of_decide_eq_true h5n)) (.inr fun hr => by have hq := (rsv_iff hb (by omega)).1 hr; first | exact h15q hq.1 | exact h15q hq.2.1 | exact h15q hq.2.2)
       obtain ⟨hP, hN⟩ := decP_no he (by decide)
       exact ⟨none, by rw [he, hP, hN]; rfl, by rw [hP]; exact (st.nil 5).pick 0 rfl⟩
      ·have h15q := h15; try simp only [decide_eq_true_eq, decide_eq_false_iff_not, beq_iff_eq, beq_eq_false_iff_ne, bne_iff_ne, bne_eq_false_iff_eq, ne_eq, Decidable.not_not, Bool.not_eq_true, Bool.not_eq_false, gt_iff_lt, ge_iff_le, Int.not_lt, Int.not_le] at h15q
       show AWl _ _ _ _ _
       refine aN rfl rfl (by constructor) ?_
       have hrv : Rsv xs 8 := (rsv_iff hb (by omega)).2 ⟨by assumption, by assumption, by assumption⟩
       have hn8 : nOf xs ≤ 8192 := by omega
       have hc3 : ¬ (nOf xs > 8192 ∨ ¬ Rsv xs 8) := fun hc => hc.elim (fun h => by omega) (fun h => h hrv)
       have hm := mOf_le xs
       have hpl := padN_le (nOf xs)
       have hmd : mOf xs = nOf xs + padN (nOf xs) := rfl
       refine aN rfl rfl (by constructor) ?_
       refine sE ?_
       show AW _ (.loop _) _ _ _
       refine AW_loopN (fun m t1 H1 => ∃ (k : Nat), m = padN (nOf xs) - k ∧ (k ≤ padN (nOf xs)) ∧ t1 11 = .int .i64 ((nOf xs + k : Nat) : Int) ∧ Stt [] H H1 [⟨some b6, true, ⟨true, 26, [.int .u8 0, .int .u8 0, .int .u8 0, .int .u8 0, .int .u8 0, .int .u32 0, .int .u32 0, .int .u32 0, .int .u32 0, .int .u32 0, .int .u32 0, .int .u32 0, .int .u32 0, .slice none 0 0]⟩⟩]) (padN (nOf xs) - 0) ⟨0, rfl, Nat.zero_le _, rfl, (st.sel [1] (by decide))⟩ [11, 58, 59, 60, 61, 62] (by decide) ?_
       rintro m t1 H1 hk hI
       obtain ⟨k, rfl, hkp, ht11, st⟩ := hI
       obtain ⟨u, rfl⟩ : ∃ u, t1 = (upd (mix [11, 58, 59, 60, 61, 62] _ u) (some 11) _) := ⟨t1, by rw [← hk, upd_self ht11]⟩
       clear hk ht11
       show AWl _ _ _ _ _
       iterate 3 refine aN rfl rfl (by constructor) ?_
       refine sE ?_
       show AW _ (.cond _ _ _) _ _ _
       refine cC' rfl (fun h17 => ?_) (fun h17 => ?_)
       ·have h17q := h17; try simp only [decide_eq_true_eq, decide_eq_false_iff_not, beq_iff_eq, beq_eq_false_iff_ne, bne_iff_ne, bne_eq_false_iff_eq, ne_eq, Decidable.not_not, Bool.not_eq_true, Bool.not_eq_false, gt_iff_lt, ge_iff_le, Int.not_lt, Int.not_le] at h17q
        have hr : ((nOf xs + k : Nat) : Int).tmod 4 ≠ 0 := by simpa using h17
        rw [Int.tmod_eq_emod_of_nonneg (by omega)] at hr
        have hk : k < padN (nOf xs) := by unfold padN at *; omega
        show AWl _ _ _ _ _
        iterate 3 refine aN rfl rfl (by constructor) ?_
        refine sE ?_
        exact ⟨_, by omega, k + 1, rfl, by omega, congrArg (Value.int .i64) (by rw [wi _ (by omega)]; omega), (st.sel [0] (by decide))⟩
       ·have h17q := h17; try simp only [decide_eq_true_eq, decide_eq_false_iff_not, beq_iff_eq, beq_eq_false_iff_ne, bne_iff_ne, bne_eq_false_iff_eq, ne_eq, Decidable.not_not, Bool.not_eq_true, Bool.not_eq_false, gt_iff_lt, ge_iff_le, Int.not_lt, Int.not_le] at h17q
        have hr : ((nOf xs + k : Nat) : Int).tmod 4 = 0 := by simpa using h17
        rw [Int.tmod_eq_emod_of_nonneg (by omega)] at hr
        have hk : k = padN (nOf xs) := by unfold padN at *; omega
        subst hk
        rw [show nOf xs + padN (nOf xs) = mOf xs from rfl]
        show AWl _ _ _ _ _
        iterate 2 refine aN rfl rfl (by constructor) ?_
        refine aBinV (.int .i64 ((52 + mOf xs : Nat) : Int)) (u := .int .i64 52) (u' := .int .i64 (mOf xs : Int)) rfl rfl (congrArg (fun z => some (Value.int .i64 z)) (by rw [wi _ (by omega)]; omega)) ?_
        refine aN rfl rfl (by constructor) ?_
        refine sE ?_
        show AWl _ _ _ _ _
        iterate 2 refine aN rfl rfl (by constructor) ?_
        refine gT rfl ?_
        refine aN rfl rfl (by constructor) ?_
        refine gT rfl ?_
        iterate 2 refine aN rfl rfl (by constructor) ?_
        refine sE ?_
        show AW _ (.cond _ _ _) _ _ _
        refine cC' rfl (fun h18 => ?_) (fun h18 => ?_)
        ·have h18q := h18; try simp only [decide_eq_true_eq, decide_eq_false_iff_not, beq_iff_eq, beq_eq_false_iff_ne, bne_iff_ne, bne_eq_false_iff_eq, ne_eq, Decidable.not_not, Bool.not_eq_true, Bool.not_eq_false, gt_iff_lt, ge_iff_le, Int.not_lt, Int.not_le] at h18q
         show AWl _ _ _ _ _
         refine aN rfl rfl (by constructor) ?_
         refine aBinV (.int .i64 ((52 + mOf xs + 4 : Nat) : Int)) (u := .int .i64 ((52 + mOf xs : Nat) : Int)) (u' := .int .i64 4) rfl rfl (congrArg (fun z => some (Value.int .i64 z)) (by rw [wi _ (by omega)]; omega)) ?_
         refine aN rfl rfl (by constructor) ?_
         refine sE ?_
         show AWl _ _ _ _ _
         refine aMovV x rfl ?_
         have hE : endN xs true true = 52 + mOf xs + 4 := by unfold endN; rw [if_pos ⟨rfl, by omega⟩]; rfl
         refine aLen (st.slc hx) rfl ?_
         iterate 2 refine aN rfl rfl (by constructor) ?_
         refine sE ?_
         show AW _ (.cond _ _ _) _ _ _
         refine cC' rfl (fun h19 => ?_) (fun h19 => ?_)
         ·have h19q := h19; try simp only [decide_eq_true_eq, decide_eq_false_iff_not, beq_iff_eq, beq_eq_false_iff_ne, bne_iff_ne, bne_eq_false_iff_eq, ne_eq, Decidable.not_not, Bool.not_eq_true, Bool.not_eq_false, gt_iff_lt, ge_iff_le, Int.not_lt, Int.not_le] at h19q
          have hend : (xs.length < endN xs true true) := by have := of_decide_eq_true h19; rw [hE]; omega
          show AWl _ _ _ _ _
          refine aBld rfl (by repeat constructor) ?_
          refine aSt st 0 rfl rfl rfl rfl (by first | rfl | simp [cellsOf, *]) (by first | decide | (simp [*]; done) | (simp [k8]; done)) (by repeat constructor) fun H20 st => ?_
          iterate 2 refine aN rfl rfl (by constructor) ?_
          refine sE ?_
          refine ⟨_, out3 (r_cellA st 0 rfl rfl (by first | decide | simp [*]) (by repeat constructor)) (r_tmp rfl (by constructor)) (r_tmp rfl (by constructor)) ⟨rfl, rfl, rfl⟩, ?_⟩
          have he := e_8' (d := true) hat (fun hc => hc.2 (of_decide_eq_true h5n)) hc3 hend
          obtain ⟨hP, hN⟩ := decP_no he (by decide)
          exact ⟨none, by rw [he, hP, hN]; rfl, by rw [hP]; exact (st.nil 5).pick 0 rfl⟩
         ·have h19q := h19; try simp only [decide_eq_true_eq, decide_eq_false_iff_not, beq_iff_eq, beq_eq_false_iff_ne, bne_iff_ne, bne_eq_false_iff_eq, ne_eq, Decidable.not_not, Bool.not_eq_true, Bool.not_eq_false, gt_iff_lt, ge_iff_le, Int.not_lt, Int.not_le] at h19q
          have hend : ¬ (xs.length < endN xs true true) := by have := of_decide_eq_false h19; rw [hE]; omega
          show AWp _ _ _ _ _
          iterate 2 refine aN rfl rfl (by constructor) ?_
          refine gT rfl ?_
          refine aN rfl rfl (by constructor) ?_
          refine gT rfl ?_
          iterate 2 refine aN rfl rfl (by constructor) ?_
          refine aMovV (.bool true) (congrArg Value.bool h18) ?_
          refine gT rfl ?_
          refine aMovV x rfl ?_
          refine gT rfl ?_
          refine aN rfl rfl (by constructor) ?_
          refine gT rfl ?_
          refine aN rfl rfl (by constructor) ?_
          refine gT rfl ?_
          refine aBinV (.int .i64 ((52 + mOf xs : Nat) : Int)) (u := .int .i64 52) (u' := .int .i64 (mOf xs : Int)) rfl rfl (congrArg (fun z => some (Value.int .i64 z)) (by rw [wi _ (by omega)]; omega)) ?_
          refine gT rfl ?_
          refine aN rfl rfl (by constructor) ?_
          refine gT rfl ?_
          refine aCutLH (st.slc hx) rfl rfl rfl (by omega) fun v89 s89 => ?_
          replace s89 := s89 _ hx
          replace s89 : Sl H 1 4 (((xs.drop (52 + (mOf xs))).take 4).map (Value.int .u8)) v89 := by have e : ((52 + mOf xs + 4 : Nat) : Int).toNat - ((52 + mOf xs : Nat) : Int).toNat = 4 := (by omega); rw [e] at s89; exact s89
          refine gT rfl ?_
          refine aText (st.slc s89) rfl ?_
          refine gT rfl ?_
          refine aMovV x rfl ?_
          refine gT rfl ?_
          refine aN rfl rfl (by constructor) ?_
          refine gT rfl ?_
          refine aN rfl rfl (by constructor) ?_
          refine gT rfl ?_
          refine aN rfl rfl (by constructor) ?_
          refine gT rfl ?_
          refine aBinV (.int .i64 ((52 + mOf xs : Nat) : Int)) (u := .int .i64 52) (u' := .int .i64 (mOf xs : Int)) rfl rfl (congrArg (fun z => some (Value.int .i64 z)) (by rw [wi _ (by omega)]; omega)) ?_
          refine gT rfl ?_
          refine aCutLH (st.slc hx) rfl rfl rfl (by omega) fun v96 s96 => ?_
          replace s96 := s96 _ hx
          replace s96 : Sl H 1 ((xs.drop 52).take (mOf xs)).length (((xs.drop 52).take (mOf xs)).map (Value.int .u8)) v96 := by rw [show ((xs.drop 52).take (mOf xs)).length = mOf xs by rw [List.length_take, List.length_drop]; omega]; have e : ((52 + mOf xs : Nat) : Int).toNat - (52 : Int).toNat = mOf xs := (by omega); rw [e] at s96; exact s96
          refine ⟨?_, trivial⟩
          refine gT rfl ?_
          refine aC (rsum_call (xs := (xs.drop 52).take (mOf xs)) (st.slc s96) ((hb.drop _).take _) (by simp only [List.length_take, List.length_drop]; omega)) fun v97 H21 ⟨b97, hv, st1⟩ => ?_
          subst hv
          replace st := st.call st1 rfl
          clear st1
          refine ⟨⟨⟨some true, .bool true, (h_Text (st.slc s89) rfl)⟩, trivial⟩, ?_⟩
          refine gT rfl ?_
          refine aText (st.rowAll 0 rfl (by simp [beB_len])) rfl ?_
          refine gT rfl ?_
          refine aBinV (.bool (!decide (beB 4 (c32 ((xs.drop 52).take (mOf xs))) = (xs.drop (52 + (mOf xs))).take 4))) (u := .string (ofInts ((xs.drop (52 + (mOf xs))).take 4))) (u' := .string (ofInts (beB 4 (c32 ((xs.drop 52).take (mOf xs)))))) rfl rfl (by show some (Value.bool (!((ofInts ((xs.drop (52 + (mOf xs))).take 4)).toList == (ofInts (beB 4 (c32 ((xs.drop 52).take (mOf xs))))).toList))) = _; rw [texts_beq' ((hb.drop _).take _) (beB_bytes _ _)]) ?_
          refine aN rfl rfl (by constructor) ?_
          refine pE ?_
          show AW _ (.cond _ _ _) _ _ _
          refine cC' rfl (fun h22 => ?_) (fun h22 => ?_)
          ·have h22q := h22; try simp only [decide_eq_true_eq, decide_eq_false_iff_not, beq_iff_eq, beq_eq_false_iff_ne, bne_iff_ne, bne_eq_false_iff_eq, ne_eq, Decidable.not_not, Bool.not_eq_true, Bool.not_eq_false, gt_iff_lt, ge_iff_le, Int.not_lt, Int.not_le] at h22q
           have h22n : decide (beB 4 (c32 ((xs.drop 52).take (mOf xs))) = (xs.drop (52 + (mOf xs))).take 4) = false := Eq.mp (Bool.not_eq_true' _) h22
           show AWl _ _ _ _ _
           refine aBld rfl (by repeat constructor) ?_
           refine aSt st 1 rfl rfl rfl rfl (by first | rfl | simp [cellsOf, *]) (by first | decide | (simp [*]; done) | (simp [k8]; done)) (by repeat constructor) fun H23 st => ?_
           iterate 2 refine aN rfl rfl (by constructor) ?_
           refine sE ?_
           refine ⟨_, out3 (r_cellA st 1 rfl rfl (by first | decide | simp [*]) (by repeat constructor)) (r_tmp rfl (by constructor)) (r_tmp rfl (by constructor)) ⟨rfl, rfl, rfl⟩, ?_⟩
           have he := e_5' (d := true) hat (fun hc => hc.2 (of_decide_eq_true h5n)) hc3 hend ⟨⟨rfl, by omega⟩, of_decide_eq_false h22n⟩
           obtain ⟨hP, hN⟩ := decP_no he (by decide)
           exact ⟨none, by rw [he, hP, hN]; rfl, by rw [hP]; exact (st.nil 5).pick 0 rfl⟩
          ·have h22q := h22; try simp only [decide_eq_true_eq, decide_eq_false_iff_not, beq_iff_eq, beq_eq_false_iff_ne, bne_iff_ne, bne_eq_false_iff_eq, ne_eq, Decidable.not_not, Bool.not_eq_true, Bool.not_eq_false, gt_iff_lt, ge_iff_le, Int.not_lt, Int.not_le] at h22q
           have h22n : decide (beB 4 (c32 ((xs.drop 52).take (mOf xs))) = (xs.drop (52 + (mOf xs))).take 4) = true := Eq.mp (Bool.not_eq_false' _) h22
           show AWl _ _ _ _ _
           iterate 2 refine aN rfl rfl (by constructor) ?_
           refine aBinV (.int .i64 ((52 + nOf xs : Nat) : Int)) (u := .int .i64 52) (u' := .int .i64 (nOf xs : Int)) rfl rfl (congrArg (fun z => some (Value.int .i64 z)) (by rw [wi _ (by omega)]; omega)) ?_
           refine aN rfl rfl (by constructor) ?_
           refine sE ?_
           show AW _ (.loop _) _ _ _
           refine AW_loopN (fun m t1 H1 => ∃ (j : Nat), m = padN (nOf xs) - j ∧ (j ≤ padN (nOf xs)) ∧ (Zer xs (52 + nOf xs) j) ∧ t1 13 = .int .i64 ((52 + nOf xs + j : Nat) : Int) ∧ Stt [] H H1 [⟨some b6, true, ⟨true, 26, [.int .u8 0, .int .u8 0, .int .u8 0, .int .u8 0, .int .u8 0, .int .u32 0, .int .u32 0, .int .u32 0, .int .u32 0, .int .u32 0, .int .u32 0, .int .u32 0, .int .u32 0, .slice none 0 0]⟩⟩]) (padN (nOf xs) - 0) ⟨0, rfl, by omega, fun i hi => by omega, rfl, (st.sel [1] (by decide))⟩ [7, 8, 13, 105, 106, 107, 108, 109, 110, 111, 112, 113, 114, 115, 116, 117] (by decide) ?_
           rintro m t1 H1 hk hI
           obtain ⟨j, rfl, hj, hzr, ht13, st⟩ := hI
           obtain ⟨u, rfl⟩ : ∃ u, t1 = (upd (mix [7, 8, 13, 105, 106, 107, 108, 109, 110, 111, 112, 113, 114, 115, 116, 117] _ u) (some 13) _) := ⟨t1, by rw [← hk, upd_self ht13]⟩
           clear hk ht13
           show AWl _ _ _ _ _
           iterate 3 refine aN rfl rfl (by constructor) ?_
           refine aBinV (.int .i64 ((52 + mOf xs : Nat) : Int)) (u := .int .i64 52) (u' := .int .i64 (mOf xs : Int)) rfl rfl (congrArg (fun z => some (Value.int .i64 z)) (by rw [wi _ (by omega)]; omega)) ?_
           refine aN rfl rfl (by constructor) ?_
           refine sE ?_
           show AW _ (.cond _ _ _) _ _ _
           refine cC' rfl (fun h24 => ?_) (fun h24 => ?_)
           ·have h24q := h24; try simp only [decide_eq_true_eq, decide_eq_false_iff_not, beq_iff_eq, beq_eq_false_iff_ne, bne_iff_ne, bne_eq_false_iff_eq, ne_eq, Decidable.not_not, Bool.not_eq_true, Bool.not_eq_false, gt_iff_lt, ge_iff_le, Int.not_lt, Int.not_le] at h24q
            have hlt : j < padN (nOf xs) := by have := of_decide_eq_true h24; omega
            show AWl _ _ _ _ _
            refine aMovV x rfl ?_
            refine aN rfl rfl (by constructor) ?_
            refine aIxBK (st.slc hx) rfl rfl (by omega) fun b114 o114 g114 => ?_
            refine aLdG rfl (g114 _ (st.slc hx)) ?_
            refine aN rfl rfl (by constructor) ?_
            refine sE ?_
            show AW _ (.cond _ _ _) _ _ _
            refine cC' rfl (fun h25 => ?_) (fun h25 => ?_)
            ·have h25q := h25; try simp only [decide_eq_true_eq, decide_eq_false_iff_not, beq_iff_eq, beq_eq_false_iff_ne, bne_iff_ne, bne_eq_false_iff_eq, ne_eq, Decidable.not_not, Bool.not_eq_true, Bool.not_eq_false, gt_iff_lt, ge_iff_le, Int.not_lt, Int.not_le] at h25q
             have hz0 : xs.getD (52 + nOf xs + j) 0 ≠ 0 := by have hq := h25; rw [show (((52 + nOf xs + j : Nat) : Int)).toNat = 52 + nOf xs + j from rfl] at hq; simpa using hq
             show AWl _ _ _ _ _
             refine aBld rfl (by repeat constructor) ?_
             refine aSt st 0 rfl rfl rfl rfl (by first | rfl | simp [cellsOf, *]) (by first | decide | (simp [*]; done) | (simp [k8]; done)) (by repeat constructor) fun H26 st => ?_
             iterate 2 refine aN rfl rfl (by constructor) ?_
             refine sE ?_
             refine ⟨_, out3 (r_cellA st 0 rfl rfl (by first | decide | simp [*]) (by repeat constructor)) (r_tmp rfl (by constructor)) (r_tmp rfl (by constructor)) ⟨rfl, rfl, rfl⟩, ?_⟩
             have he := e_3' (d := true) hat (fun hc => hc.2 (of_decide_eq_true h5n)) hc3 hend (fun hc => hc.2 (of_decide_eq_true h22n)) (fun hz => hz0 (hz j hlt))
             obtain ⟨hP, hN⟩ := decP_no he (by decide)
             exact ⟨none, by rw [he, hP, hN]; rfl, by rw [hP]; exact (st.nil 5).pick 0 rfl⟩
            ·have h25q := h25; try simp only [decide_eq_true_eq, decide_eq_false_iff_not, beq_iff_eq, beq_eq_false_iff_ne, bne_iff_ne, bne_eq_false_iff_eq, ne_eq, Decidable.not_not, Bool.not_eq_true, Bool.not_eq_false, gt_iff_lt, ge_iff_le, Int.not_lt, Int.not_le] at h25q
             have hz0 : xs.getD (52 + nOf xs + j) 0 = 0 := by have hq := h25; rw [show (((52 + nOf xs + j : Nat) : Int)).toNat = 52 + nOf xs + j from rfl] at hq; simpa using hq
             show AWl _ _ _ _ _
             iterate 3 refine aN rfl rfl (by constructor) ?_
             refine sE ?_
             exact ⟨_, by omega, j + 1, rfl, by omega, hzr.step hz0, congrArg (Value.int .i64) (by rw [wi _ (by omega)]; omega), (st.sel [0] (by decide))⟩
           ·have h24q := h24; try simp only [decide_eq_true_eq, decide_eq_false_iff_not, beq_iff_eq, beq_eq_false_iff_ne, bne_iff_ne, bne_eq_false_iff_eq, ne_eq, Decidable.not_not, Bool.not_eq_true, Bool.not_eq_false, gt_iff_lt, ge_iff_le, Int.not_lt, Int.not_le] at h24q
            have hge : j = padN (nOf xs) := by have := of_decide_eq_false h24; omega
            subst hge
            show AWp _ _ _ _ _
            refine aMovV x rfl ?_
            refine aIxBK (st.slc hx) rfl rfl (by omega) fun b119 o119 g119 => ?_
            refine aLdG rfl (g119 _ (st.slc hx)) ?_
            refine aMovV x rfl ?_
            refine aIxBK (st.slc hx) rfl rfl (by omega) fun b122 o122 g122 => ?_
            refine aLdG rfl (g122 _ (st.slc hx)) ?_
            refine aMovV x rfl ?_
            refine aIxBK (st.slc hx) rfl rfl (by omega) fun b125 o125 g125 => ?_
            refine aLdG rfl (g125 _ (st.slc hx)) ?_
            refine aMovV x rfl ?_
            refine aIxBK (st.slc hx) rfl rfl (by omega) fun b128 o128 g128 => ?_
            refine aLdG rfl (g128 _ (st.slc hx)) ?_
            refine aMovV x rfl ?_
            refine aIxBK (st.slc hx) rfl rfl (by omega) fun b131 o131 g131 => ?_
            refine aLdG rfl (g131 _ (st.slc hx)) ?_
            refine aMovV x rfl ?_
            refine ⟨?_, ?_⟩
            ·refine aC (rnum_call (st.slc hx) hb (by omega) (by first | omega | (rw [wi (4 * (j : Int)) (by omega), wi _ (by omega)]; omega))) fun v134 H27 ⟨hv, st1⟩ => ?_
             subst hv
             replace st := st.call st1 rfl
             clear st1
             refine ⟨⟨(h_LdG rfl (g131 _ (st.slc hx))), (h_LdG rfl (g128 _ (st.slc hx))), (h_LdG rfl (g125 _ (st.slc hx))), (h_LdG rfl (g122 _ (st.slc hx))), (h_LdG rfl (g119 _ (st.slc hx))), trivial⟩, ?_⟩
             refine aN rfl rfl (by constructor) ?_
             rw [show rgetV xs 16 4 = rgetV xs ((16 : Nat) : Int) 4 from rfl, w_conv hb (by omega)]
             refine aBld rfl (by repeat constructor) ?_
             refine ⟨?_, trivial⟩
             refine aNewP st rfl rfl (by repeat constructor) fun b14 H28 st => ?_
             refine ⟨⟨(h_LdG rfl (g131 _ (st.slc hx))), (h_LdG rfl (g128 _ (st.slc hx))), (h_LdG rfl (g125 _ (st.slc hx))), (h_LdG rfl (g122 _ (st.slc hx))), (h_LdG rfl (g119 _ (st.slc hx))), trivial⟩, ?_⟩
             refine ⟨?_, trivial⟩
             refine aSt st 0 rfl rfl rfl rfl (by first | rfl | simp [cellsOf, *]) (by first | decide | (simp [*]; done) | (simp [k8]; done)) (by repeat constructor) fun H29 st => ?_
             refine ⟨trivial, ?_⟩
             refine pE ?_
             show AWl _ _ _ _ _
             refine aN rfl rfl (by constructor) ?_
             refine sE ?_
             show AW _ (.loop _) _ _ _
             refine AW_loopN (fun m t1 H1 => ∃ (j : Nat), m = 7 - j ∧ (j ≤ 7) ∧ t1 15 = .int .i64 (j : Int) ∧ Stt [] H H1 [⟨some b14, true, ⟨true, 26, [.int .u8 (xs.getD 0 0), .int .u8 (xs.getD 1 0), .int .u8 (xs.getD 2 0), .int .u8 (xs.getD 3 0), .int .u8 (xs.getD 9 0), .int .u32 (beN ((xs.drop 16).take 4)), .int .u32 (wj xs j 0), .int .u32 (wj xs j 1), .int .u32 (wj xs j 2), .int .u32 (wj xs j 3), .int .u32 (wj xs j 4), .int .u32 (wj xs j 5), .int .u32 (wj xs j 6), .slice none 0 0]⟩⟩, ⟨some b6, true, ⟨true, 26, [.int .u8 0, .int .u8 0, .int .u8 0, .int .u8 0, .int .u8 0, .int .u32 0, .int .u32 0, .int .u32 0, .int .u32 0, .int .u32 0, .int .u32 0, .int .u32 0, .int .u32 0, .slice none 0 0]⟩⟩]) (7 - 0) ⟨0, rfl, by omega, rfl, (st.sel [0, 1] (by decide))⟩ [15, 137, 138, 139, 140, 141, 142, 143, 144, 145, 146, 147, 148, 149] (by decide) ?_
             rintro m t1 H1 hk hI
             obtain ⟨j, rfl, hj, ht15, st⟩ := hI
             obtain ⟨u, rfl⟩ : ∃ u, t1 = (upd (mix [15, 137, 138, 139, 140, 141, 142, 143, 144, 145, 146, 147, 148, 149] _ u) (some 15) _) := ⟨t1, by rw [← hk, upd_self ht15]⟩
             clear hk ht15
             show AWl _ _ _ _ _
             iterate 2 refine aN rfl rfl (by constructor) ?_
             refine sE ?_
             show AW _ (.cond _ _ _) _ _ _
             refine cC' rfl (fun h30 => ?_) (fun h30 => ?_)
             ·have h30q := h30; try simp only [decide_eq_true_eq, decide_eq_false_iff_not, beq_iff_eq, beq_eq_false_iff_ne, bne_iff_ne, bne_eq_false_iff_eq, ne_eq, Decidable.not_not, Bool.not_eq_true, Bool.not_eq_false, gt_iff_lt, ge_iff_le, Int.not_lt, Int.not_le] at h30q
              have hlt : j < 7 := by have := of_decide_eq_true h30; omega
              show AWl _ _ _ _ _
              refine aN rfl rfl (by constructor) ?_
              refine aMovV x rfl ?_
              iterate 3 refine aN rfl rfl (by constructor) ?_
              refine aC (rnum_call (st.slc hx) hb (by omega) (by first | omega | (rw [wi (4 * (j : Int)) (by omega), wi _ (by omega)]; omega))) fun v146 H31 ⟨hv, st1⟩ => ?_
              subst hv
              replace st := st.call st1 rfl
              clear st1
              refine aN rfl rfl (by constructor) ?_
              rw [wi (4 * (j : Int)) (by omega), wi (20 + 4 * (j : Int)) (by omega), show (20 + 4 * (j : Int)) = ((20 + 4 * j : Nat) : Int) by omega, w_conv hb (by omega)]
              refine aN rfl rfl (by constructor) ?_
              refine aIxA rfl rfl (by omega) ?_
              refine aStAt st 0 rfl rfl rfl rfl rfl (by simp; omega) (row_set hlt) fun H32 st => ?_
              refine sE ?_
              show AWl _ _ _ _ _
              iterate 3 refine aN rfl rfl (by constructor) ?_
              refine sE ?_
              exact ⟨_, by omega, j + 1, rfl, by omega, congrArg (Value.int .i64) (wi _ (by omega)), (st.sel [0, 1] (by decide))⟩
             ·have h30q := h30; try simp only [decide_eq_true_eq, decide_eq_false_iff_not, beq_iff_eq, beq_eq_false_iff_ne, bne_iff_ne, bne_eq_false_iff_eq, ne_eq, Decidable.not_not, Bool.not_eq_true, Bool.not_eq_false, gt_iff_lt, ge_iff_le, Int.not_lt, Int.not_le] at h30q
              have hge : j = 7 := by have := of_decide_eq_false h30; omega
              subst hge
              show AWp _ _ _ _ _
              refine aN rfl rfl (by constructor) ?_
              refine aLd st 0 rfl rfl rfl (by constructor) ?_
              refine aMovV x rfl ?_
              iterate 3 refine aN rfl rfl (by constructor) ?_
              refine aBinV (.int .i64 ((52 + nOf xs : Nat) : Int)) (u := .int .i64 52) (u' := .int .i64 (nOf xs : Int)) rfl rfl (congrArg (fun z => some (Value.int .i64 z)) (by rw [wi _ (by omega)]; omega)) ?_
              refine aCutLH (st.slc hx) rfl rfl rfl (by omega) fun v157 s157 => ?_
              replace s157 := s157 _ hx
              replace s157 : Sl H 1 (nOf xs) (((xs.drop 52).take (nOf xs)).map (Value.int .u8)) v157 := by have e : ((52 + nOf xs : Nat) : Int).toNat - (52 : Int).toNat = nOf xs := (by omega); rw [e] at s157; exact s157
              refine ⟨?_, trivial⟩
              have st := st.nil 5
              have hnil : (Value.slice none 0 0) = accV none 0 1 := rfl
              refine aApp st 0 (ob := none) (n := 0) rfl rfl rfl (by decide) (rfl) (st.slc s157).src (by rw [List.length_map, List.length_take, List.length_drop]; omega) (by omega) (by omega) fun b158 H33 hp158 st => ?_
              rw [show 0 + nOf xs = nOf xs from Nat.zero_add _]
              rw [List.nil_append] at st
              refine ⟨trivial, ?_⟩
              refine aN rfl rfl (by constructor) ?_
              refine ⟨?_, trivial⟩
              refine aStAt st 1 rfl rfl rfl (by cases b158 <;> rfl) (by cases b158 <;> rfl) (by simp) (cs := [.int .u8 (xs.getD 0 0), .int .u8 (xs.getD 1 0), .int .u8 (xs.getD 2 0), .int .u8 (xs.getD 3 0), .int .u8 (xs.getD 9 0), .int .u32 (beN ((xs.drop 16).take 4)), .int .u32 (wj xs 7 0), .int .u32 (wj xs 7 1), .int .u32 (wj xs 7 2), .int .u32 (wj xs 7 3), .int .u32 (wj xs 7 4), .int .u32 (wj xs 7 5), .int .u32 (wj xs 7 6), accV b158 (nOf xs) 1]) rfl fun H34 st => ?_
              refine ⟨trivial, ?_⟩
              refine pE ?_
              show AWl _ _ _ _ _
              refine aLdAll st 1 rfl rfl (rfl) ?_
              refine aN rfl rfl (by constructor) ?_
              refine aStAllA st 2 rfl rfl rfl (rfl) (rfl) fun H35 st => ?_
              iterate 2 refine aN rfl rfl (by constructor) ?_
              refine sE ?_
              refine ⟨_, out3 (r_cellA st 2 rfl rfl (by first | decide | simp [*]) (by repeat constructor)) (r_tmp rfl (by constructor)) (r_tmp rfl (by constructor)) ⟨rfl, rfl, rfl⟩, ?_⟩
              have he := e_0 (d := true) hat (fun hc => hc.2 (of_decide_eq_true h5n)) hc3 hend (fun hc => hc.2 (of_decide_eq_true h22n)) hzr
              obtain ⟨hP, hN⟩ := decP_yes he
              have hdl : (decD xs true).data.length = nOf xs := by show (((xs.drop 52).take (nOf xs)) : List Int).length = _; rw [List.length_take, List.length_drop]; omega
              refine ⟨b158, ?_, ?_⟩
              ·rw [he, hP, hN, hdl, hE]; rfl
              ·rw [hP]; exact st.pick 0 rfl
            ·refine ⟨?_, trivial⟩
             refine aNewP st rfl rfl (by repeat constructor) fun b14 H36 st => ?_
             refine ⟨⟨(h_LdG rfl (g131 _ (st.slc hx))), (h_LdG rfl (g128 _ (st.slc hx))), (h_LdG rfl (g125 _ (st.slc hx))), (h_LdG rfl (g122 _ (st.slc hx))), (h_LdG rfl (g119 _ (st.slc hx))), trivial⟩, ?_⟩
             refine ⟨?_, trivial⟩
             refine aC (rnum_call (st.slc hx) hb (by omega) (by first | omega | (rw [wi (4 * (j : Int)) (by omega), wi _ (by omega)]; omega))) fun v134 H37 ⟨hv, st1⟩ => ?_
             subst hv
             replace st := st.call st1 rfl
             clear st1
             refine ⟨⟨(h_LdG rfl (g131 _ (st.slc hx))), (h_LdG rfl (g128 _ (st.slc hx))), (h_LdG rfl (g125 _ (st.slc hx))), (h_LdG rfl (g122 _ (st.slc hx))), (h_LdG rfl (g119 _ (st.slc hx))), trivial⟩, ?_⟩
             refine aN rfl rfl (by constructor) ?_
             rw [show rgetV xs 16 4 = rgetV xs ((16 : Nat) : Int) 4 from rfl, w_conv hb (by omega)]
             refine aBld rfl (by repeat constructor) ?_
             refine ⟨?_, trivial⟩
             refine aSt st 0 rfl rfl rfl rfl (by first | rfl | simp [cellsOf, *]) (by first | decide | (simp [*]; done) | (simp [k8]; done)) (by repeat constructor) fun H38 st => ?_
             refine ⟨trivial, ?_⟩
             refine pE ?_
             show AWl _ _ _ _ _
             refine aN rfl rfl (by constructor) ?_
             refine sE ?_
             show AW _ (.loop _) _ _ _
             refine AW_loopN (fun m t1 H1 => ∃ (j : Nat), m = 7 - j ∧ (j ≤ 7) ∧ t1 15 = .int .i64 (j : Int) ∧ Stt [] H H1 [⟨some b14, true, ⟨true, 26, [.int .u8 (xs.getD 0 0), .int .u8 (xs.getD 1 0), .int .u8 (xs.getD 2 0), .int .u8 (xs.getD 3 0), .int .u8 (xs.getD 9 0), .int .u32 (beN ((xs.drop 16).take 4)), .int .u32 (wj xs j 0), .int .u32 (wj xs j 1), .int .u32 (wj xs j 2), .int .u32 (wj xs j 3), .int .u32 (wj xs j 4), .int .u32 (wj xs j 5), .int .u32 (wj xs j 6), .slice none 0 0]⟩⟩, ⟨some b6, true, ⟨true, 26, [.int .u8 0, .int .u8 0, .int .u8 0, .int .u8 0, .int .u8 0, .int .u32 0, .int .u32 0, .int .u32 0, .int .u32 0, .int .u32 0, .int .u32 0, .int .u32 0, .int .u32 0, .slice none 0 0]⟩⟩]) (7 - 0) ⟨0, rfl, by omega, rfl, (st.sel [0, 1] (by decide))⟩ [15, 137, 138, 139, 140, 141, 142, 143, 144, 145, 146, 147, 148, 149] (by decide) ?_
             rintro m t1 H1 hk hI
             obtain ⟨j, rfl, hj, ht15, st⟩ := hI
             obtain ⟨u, rfl⟩ : ∃ u, t1 = (upd (mix [15, 137, 138, 139, 140, 141, 142, 143, 144, 145, 146, 147, 148, 149] _ u) (some 15) _) := ⟨t1, by rw [← hk, upd_self ht15]⟩
             clear hk ht15
             show AWl _ _ _ _ _
             iterate 2 refine aN rfl rfl (by constructor) ?_
             refine sE ?_
             show AW _ (.cond _ _ _) _ _ _
             refine cC' rfl (fun h39 => ?_) (fun h39 => ?_)
             ·have h39q := h39; try simp only [decide_eq_true_eq, decide_eq_false_iff_not, beq_iff_eq, beq_eq_false_iff_ne, bne_iff_ne, bne_eq_false_iff_eq, ne_eq, Decidable.not_not, Bool.not_eq_true, Bool.not_eq_false, gt_iff_lt, ge_iff_le, Int.not_lt, Int.not_le] at h39q
              have hlt : j < 7 := by have := of_decide_eq_true h39; omega
              show AWl _ _ _ _ _
              refine aN rfl rfl (by constructor) ?_
              refine aMovV x rfl ?_
              iterate 3 refine aN rfl rfl (by constructor) ?_
              refine aC (rnum_call (st.slc hx) hb (by omega) (by first | omega | (rw [wi (4 * (j : Int)) (by omega), wi _ (by omega)]; omega))) fun v146 H40 ⟨hv, st1⟩ => ?_
              subst hv
              replace st := st.call st1 rfl
              clear st1
              refine aN rfl rfl (by constructor) ?_
              rw [wi (4 * (j : Int)) (by omega), wi (20 + 4 * (j : Int)) (by omega), show (20 + 4 * (j : Int)) = ((20 + 4 * j : Nat) : Int) by omega, w_conv hb (by omega)]
              refine aN rfl rfl (by constructor) ?_
              refine aIxA rfl rfl (by omega) ?_
              refine aStAt st 0 rfl rfl rfl rfl rfl (by simp; omega) (row_set hlt) fun H41 st => ?_
              refine sE ?_
              show AWl _ _ _ _ _
              iterate 3 refine aN rfl rfl (by constructor) ?_
              refine sE ?_
              exact ⟨_, by omega, j + 1, rfl, by omega, congrArg (Value.int .i64) (wi _ (by omega)), (st.sel [0, 1] (by decide))⟩
             ·have h39q := h39; try simp only [decide_eq_true_eq, decide_eq_false_iff_not, beq_iff_eq, beq_eq_false_iff_ne, bne_iff_ne, bne_eq_false_iff_eq, ne_eq, Decidable.not_not, Bool.not_eq_true, Bool.not_eq_false, gt_iff_lt, ge_iff_le, Int.not_lt, Int.not_le] at h39q
              have hge : j = 7 := by have := of_decide_eq_false h39; omega
              subst hge
              show AWp _ _ _ _ _
              refine aN rfl rfl (by constructor) ?_
              refine aLd st 0 rfl rfl rfl (by constructor) ?_
              refine aMovV x rfl ?_
              iterate 3 refine aN rfl rfl (by constructor) ?_
              refine aBinV (.int .i64 ((52 + nOf xs : Nat) : Int)) (u := .int .i64 52) (u' := .int .i64 (nOf xs : Int)) rfl rfl (congrArg (fun z => some (Value.int .i64 z)) (by rw [wi _ (by omega)]; omega)) ?_
              refine aCutLH (st.slc hx) rfl rfl rfl (by omega) fun v157 s157 => ?_
              replace s157 := s157 _ hx
              replace s157 : Sl H 1 (nOf xs) (((xs.drop 52).take (nOf xs)).map (Value.int .u8)) v157 := by have e : ((52 + nOf xs : Nat) : Int).toNat - (52 : Int).toNat = nOf xs := (by omega); rw [e] at s157; exact s157
              refine ⟨?_, trivial⟩
              have st := st.nil 5
              have hnil : (Value.slice none 0 0) = accV none 0 1 := rfl
              refine aApp st 0 (ob := none) (n := 0) rfl rfl rfl (by decide) (rfl) (st.slc s157).src (by rw [List.length_map, List.length_take, List.length_drop]; omega) (by omega) (by omega) fun b158 H42 hp158 st => ?_
              rw [show 0 + nOf xs = nOf xs from Nat.zero_add _]
              rw [List.nil_append] at st
              refine ⟨trivial, ?_⟩
              refine aN rfl rfl (by constructor) ?_
              refine ⟨?_, trivial⟩
              refine aStAt st 1 rfl rfl rfl (by cases b158 <;> rfl) (by cases b158 <;> rfl) (by simp) (cs := [.int .u8 (xs.getD 0 0), .int .u8 (xs.getD 1 0), .int .u8 (xs.getD 2 0), .int .u8 (xs.getD 3 0), .int .u8 (xs.getD 9 0), .int .u32 (beN ((xs.drop 16).take 4)), .int .u32 (wj xs 7 0), .int .u32 (wj xs 7 1), .int .u32 (wj xs 7 2), .int .u32 (wj xs 7 3), .int .u32 (wj xs 7 4), .int .u32 (wj xs 7 5), .int .u32 (wj xs 7 6), accV b158 (nOf xs) 1]) rfl fun H43 st => ?_
              refine ⟨trivial, ?_⟩
              refine pE ?_
              show AWl _ _ _ _ _
              refine aLdAll st 1 rfl rfl (rfl) ?_
              refine aN rfl rfl (by constructor) ?_
              refine aStAllA st 2 rfl rfl rfl (rfl) (rfl) fun H44 st => ?_
              iterate 2 refine aN rfl rfl (by constructor) ?_
              refine sE ?_
              refine ⟨_, out3 (r_cellA st 2 rfl rfl (by first | decide | simp [*]) (by repeat constructor)) (r_tmp rfl (by constructor)) (r_tmp rfl (by constructor)) ⟨rfl, rfl, rfl⟩, ?_⟩
              have he := e_0 (d := true) hat (fun hc => hc.2 (of_decide_eq_true h5n)) hc3 hend (fun hc => hc.2 (of_decide_eq_true h22n)) hzr
              obtain ⟨hP, hN⟩ := decP_yes he
              have hdl : (decD xs true).data.length = nOf xs := by show (((xs.drop 52).take (nOf xs)) : List Int).length = _; rw [List.length_take, List.length_drop]; omega
              refine ⟨b158, ?_, ?_⟩
              ·rw [he, hP, hN, hdl, hE]; rfl
              ·rw [hP]; exact st.pick 0 rfl
        ·have h18q := h18; try simp only [decide_eq_true_eq, decide_eq_false_iff_not, beq_iff_eq, beq_eq_false_iff_ne, bne_iff_ne, bne_eq_false_iff_eq, ne_eq, Decidable.not_not, Bool.not_eq_true, Bool.not_eq_false, gt_iff_lt, ge_iff_le, Int.not_lt, Int.not_le] at h18q
         show AWl _ _ _ _ _
         refine aMovV x rfl ?_
         have hE : endN xs true true = 52 + mOf xs + 0 := by unfold endN; rw [if_neg (fun hc => by omega)]; rfl
         refine aLen (st.slc hx) rfl ?_
         iterate 2 refine aN rfl rfl (by constructor) ?_
         refine sE ?_
         show AW _ (.cond _ _ _) _ _ _
         refine cC' rfl (fun h45 => ?_) (fun h45 => ?_)
         ·have h45q := h45; try simp only [decide_eq_true_eq, decide_eq_false_iff_not, beq_iff_eq, beq_eq_false_iff_ne, bne_iff_ne, bne_eq_false_iff_eq, ne_eq, Decidable.not_not, Bool.not_eq_true, Bool.not_eq_false, gt_iff_lt, ge_iff_le, Int.not_lt, Int.not_le] at h45q
          have hend : (xs.length < endN xs true true) := by have := of_decide_eq_true h45; rw [hE]; omega
          show AWl _ _ _ _ _
          refine aBld rfl (by repeat constructor) ?_
          refine aSt st 0 rfl rfl rfl rfl (by first | rfl | simp [cellsOf, *]) (by first | decide | (simp [*]; done) | (simp [k8]; done)) (by repeat constructor) fun H46 st => ?_
          iterate 2 refine aN rfl rfl (by constructor) ?_
          refine sE ?_
          refine ⟨_, out3 (r_cellA st 0 rfl rfl (by first | decide | simp [*]) (by repeat constructor)) (r_tmp rfl (by constructor)) (r_tmp rfl (by constructor)) ⟨rfl, rfl, rfl⟩, ?_⟩
          have he := e_8' (d := true) hat (fun hc => hc.2 (of_decide_eq_true h5n)) hc3 hend
          obtain ⟨hP, hN⟩ := decP_no he (by decide)
          exact ⟨none, by rw [he, hP, hN]; rfl, by rw [hP]; exact (st.nil 5).pick 0 rfl⟩
         ·have h45q := h45; try simp only [decide_eq_true_eq, decide_eq_false_iff_not, beq_iff_eq, beq_eq_false_iff_ne, bne_iff_ne, bne_eq_false_iff_eq, ne_eq, Decidable.not_not, Bool.not_eq_true, Bool.not_eq_false, gt_iff_lt, ge_iff_le, Int.not_lt, Int.not_le] at h45q
          have hend : ¬ (xs.length < endN xs true true) := by have := of_decide_eq_false h45; rw [hE]; omega
          show AWp _ _ _ _ _
          iterate 2 refine aN rfl rfl (by constructor) ?_
          refine gT rfl ?_
          refine aN rfl rfl (by constructor) ?_
          refine gT rfl ?_
          iterate 2 refine aN rfl rfl (by constructor) ?_
          refine aMovV (.bool false) (congrArg Value.bool h18) ?_
          refine gF rfl (by decide) ?_
          refine gF rfl (by decide) ?_
          refine gF rfl (by decide) ?_
          refine gF rfl (by decide) ?_
          refine gF rfl (by decide) ?_
          refine gF rfl (by decide) ?_
          refine gF rfl (by decide) ?_
          refine gF rfl (by decide) ?_
          refine gF rfl (by decide) ?_
          refine gF rfl (by decide) ?_
          refine gF rfl (by decide) ?_
          refine gF rfl (by decide) ?_
          refine gF rfl (by decide) ?_
          refine ⟨gF rfl (by decide) ?_, trivial⟩
          refine ⟨⟨⟨some false, .bool false, rfl⟩, trivial⟩, ?_⟩
          refine gF rfl (by decide) ?_
          refine gF rfl (by decide) ?_
          refine aN rfl rfl (by constructor) ?_
          refine pE ?_
          show AW _ (.cond _ _ _) _ _ _
          refine cF' rfl ?_
          show AWl _ _ _ _ _
          iterate 2 refine aN rfl rfl (by constructor) ?_
          refine aBinV (.int .i64 ((52 + nOf xs : Nat) : Int)) (u := .int .i64 52) (u' := .int .i64 (nOf xs : Int)) rfl rfl (congrArg (fun z => some (Value.int .i64 z)) (by rw [wi _ (by omega)]; omega)) ?_
          refine aN rfl rfl (by constructor) ?_
          refine sE ?_
          show AW _ (.loop _) _ _ _
          refine AW_loopN (fun m t1 H1 => ∃ (j : Nat), m = padN (nOf xs) - j ∧ (j ≤ padN (nOf xs)) ∧ (Zer xs (52 + nOf xs) j) ∧ t1 13 = .int .i64 ((52 + nOf xs + j : Nat) : Int) ∧ Stt [] H H1 [⟨some b6, true, ⟨true, 26, [.int .u8 0, .int .u8 0, .int .u8 0, .int .u8 0, .int .u8 0, .int .u32 0, .int .u32 0, .int .u32 0, .int .u32 0, .int .u32 0, .int .u32 0, .int .u32 0, .int .u32 0, .slice none 0 0]⟩⟩]) (padN (nOf xs) - 0) ⟨0, rfl, by omega, fun i hi => by omega, rfl, (st.sel [0] (by decide))⟩ [7, 8, 13, 105, 106, 107, 108, 109, 110, 111, 112, 113, 114, 115, 116, 117] (by decide) ?_
          rintro m t1 H1 hk hI
          obtain ⟨j, rfl, hj, hzr, ht13, st⟩ := hI
          obtain ⟨u, rfl⟩ : ∃ u, t1 = (upd (mix [7, 8, 13, 105, 106, 107, 108, 109, 110, 111, 112, 113, 114, 115, 116, 117] _ u) (some 13) _) := ⟨t1, by rw [← hk, upd_self ht13]⟩
          clear hk ht13
          show AWl _ _ _ _ _
          iterate 3 refine aN rfl rfl (by constructor) ?_
          refine aBinV (.int .i64 ((52 + mOf xs : Nat) : Int)) (u := .int .i64 52) (u' := .int .i64 (mOf xs : Int)) rfl rfl (congrArg (fun z => some (Value.int .i64 z)) (by rw [wi _ (by omega)]; omega)) ?_
          refine aN rfl rfl (by constructor) ?_
          refine sE ?_
          show AW _ (.cond _ _ _) _ _ _
          refine cC' rfl (fun h47 => ?_) (fun h47 => ?_)
          ·have h47q := h47; try simp only [decide_eq_true_eq, decide_eq_false_iff_not, beq_iff_eq, beq_eq_false_iff_ne, bne_iff_ne, bne_eq_false_iff_eq, ne_eq, Decidable.not_not, Bool.not_eq_true, Bool.not_eq_false, gt_iff_lt, ge_iff_le, Int.not_lt, Int.not_le] at h47q
           have hlt : j < padN (nOf xs) := by have := of_decide_eq_true h47; omega
           show AWl _ _ _ _ _
           refine aMovV x rfl ?_
           refine aN rfl rfl (by constructor) ?_
           refine aIxBK (st.slc hx) rfl rfl (by omega) fun b114 o114 g114 => ?_
           refine aLdG rfl (g114 _ (st.slc hx)) ?_
           refine aN rfl rfl (by constructor) ?_
           refine sE ?_
           show AW _ (.cond _ _ _) _ _ _
           refine cC' rfl (fun h48 => ?_) (fun h48 => ?_)
           ·have h48q := h48; try simp only [decide_eq_true_eq, decide_eq_false_iff_not, beq_iff_eq, beq_eq_false_iff_ne, bne_iff_ne, bne_eq_false_iff_eq, ne_eq, Decidable.not_not, Bool.not_eq_true, Bool.not_eq_false, gt_iff_lt, ge_iff_le, Int.not_lt, Int.not_le] at h48q
            have hz0 : xs.getD (52 + nOf xs + j) 0 ≠ 0 := by have hq := h48; rw [show (((52 + nOf xs + j : Nat) : Int)).toNat = 52 + nOf xs + j from rfl] at hq; simpa using hq
            show AWl _ _ _ _ _
            refine aBld rfl (by repeat constructor) ?_
            refine aSt st 0 rfl rfl rfl rfl (by first | rfl | simp [cellsOf, *]) (by first | decide | (simp [*]; done) | (simp [k8]; done)) (by repeat constructor) fun H49 st => ?_
            iterate 2 refine aN rfl rfl (by constructor) ?_
            refine sE ?_
            refine ⟨_, out3 (r_cellA st 0 rfl rfl (by first | decide | simp [*]) (by repeat constructor)) (r_tmp rfl (by constructor)) (r_tmp rfl (by constructor)) ⟨rfl, rfl, rfl⟩, ?_⟩
            have he := e_3' (d := true) hat (fun hc => hc.2 (of_decide_eq_true h5n)) hc3 hend (fun hc => by have := hc.1.2; omega) (fun hz => hz0 (hz j hlt))
            obtain ⟨hP, hN⟩ := decP_no he (by decide)
            exact ⟨none, by rw [he, hP, hN]; rfl, by rw [hP]; exact (st.nil 5).pick 0 rfl⟩
           ·have h48q := h48; try simp only [decide_eq_true_eq, decide_eq_false_iff_not, beq_iff_eq, beq_eq_false_iff_ne, bne_iff_ne, bne_eq_false_iff_eq, ne_eq, Decidable.not_not, Bool.not_eq_true, Bool.not_eq_false, gt_iff_lt, ge_iff_le, Int.not_lt, Int.not_le] at h48q
            have hz0 : xs.getD (52 + nOf xs + j) 0 = 0 := by have hq := h48; rw [show (((52 + nOf xs + j : Nat) : Int)).toNat = 52 + nOf xs + j from rfl] at hq; simpa using hq
            show AWl _ _ _ _ _
            iterate 3 refine aN rfl rfl (by constructor) ?_
            refine sE ?_
            exact ⟨_, by omega, j + 1, rfl, by omega, hzr.step hz0, congrArg (Value.int .i64) (by rw [wi _ (by omega)]; omega), (st.sel [0] (by decide))⟩
          ·have h47q := h47; try simp only [decide_eq_true_eq, decide_eq_false_iff_not, beq_iff_eq, beq_eq_false_iff_ne, bne_iff_ne, bne_eq_false_iff_eq, ne_eq, Decidable.not_not, Bool.not_eq_true, Bool.not_eq_false, gt_iff_lt, ge_iff_le, Int.not_lt, Int.not_le] at h47q
           have hge : j = padN (nOf xs) := by have := of_decide_eq_false h47; omega
           subst hge
           show AWp _ _ _ _ _
           refine aMovV x rfl ?_
           refine aIxBK (st.slc hx) rfl rfl (by omega) fun b119 o119 g119 => ?_
           refine aLdG rfl (g119 _ (st.slc hx)) ?_
           refine aMovV x rfl ?_
           refine aIxBK (st.slc hx) rfl rfl (by omega) fun b122 o122 g122 => ?_
           refine aLdG rfl (g122 _ (st.slc hx)) ?_
           refine aMovV x rfl ?_
           refine aIxBK (st.slc hx) rfl rfl (by omega) fun b125 o125 g125 => ?_
           refine aLdG rfl (g125 _ (st.slc hx)) ?_
           refine aMovV x rfl ?_
           refine aIxBK (st.slc hx) rfl rfl (by omega) fun b128 o128 g128 => ?_
           refine aLdG rfl (g128 _ (st.slc hx)) ?_
           refine aMovV x rfl ?_
           refine aIxBK (st.slc hx) rfl rfl (by omega) fun b131 o131 g131 => ?_
           refine aLdG rfl (g131 _ (st.slc hx)) ?_
           refine aMovV x rfl ?_
           refine ⟨?_, ?_⟩
           ·refine aC (rnum_call (st.slc hx) hb (by omega) (by first | omega | (rw [wi (4 * (j : Int)) (by omega), wi _ (by omega)]; omega))) fun v134 H50 ⟨hv, st1⟩ => ?_
            subst hv
            replace st := st.call st1 rfl
            clear st1
            refine ⟨⟨(h_LdG rfl (g131 _ (st.slc hx))), (h_LdG rfl (g128 _ (st.slc hx))), (h_LdG rfl (g125 _ (st.slc hx))), (h_LdG rfl (g122 _ (st.slc hx))), (h_LdG rfl (g119 _ (st.slc hx))), trivial⟩, ?_⟩
            refine aN rfl rfl (by constructor) ?_
            rw [show rgetV xs 16 4 = rgetV xs ((16 : Nat) : Int) 4 from rfl, w_conv hb (by omega)]
            refine aBld rfl (by repeat constructor) ?_
            refine ⟨?_, trivial⟩
            refine aNewP st rfl rfl (by repeat constructor) fun b14 H51 st => ?_
            refine ⟨⟨(h_LdG rfl (g131 _ (st.slc hx))), (h_LdG rfl (g128 _ (st.slc hx))), (h_LdG rfl (g125 _ (st.slc hx))), (h_LdG rfl (g122 _ (st.slc hx))), (h_LdG rfl (g119 _ (st.slc hx))), trivial⟩, ?_⟩
            refine ⟨?_, trivial⟩
            refine aSt st 0 rfl rfl rfl rfl (by first | rfl | simp [cellsOf, *]) (by first | decide | (simp [*]; done) | (simp [k8]; done)) (by repeat constructor) fun H52 st => ?_
            refine ⟨trivial, ?_⟩
            refine pE ?_
            show AWl _ _ _ _ _
            refine aN rfl rfl (by constructor) ?_
            refine sE ?_
            show AW _ (.loop _) _ _ _
            refine AW_loopN (fun m t1 H1 => ∃ (j : Nat), m = 7 - j ∧ (j ≤ 7) ∧ t1 15 = .int .i64 (j : Int) ∧ Stt [] H H1 [⟨some b14, true, ⟨true, 26, [.int .u8 (xs.getD 0 0), .int .u8 (xs.getD 1 0), .int .u8 (xs.getD 2 0), .int .u8 (xs.getD 3 0), .int .u8 (xs.getD 9 0), .int .u32 (beN ((xs.drop 16).take 4)), .int .u32 (wj xs j 0), .int .u32 (wj xs j 1), .int .u32 (wj xs j 2), .int .u32 (wj xs j 3), .int .u32 (wj xs j 4), .int .u32 (wj xs j 5), .int .u32 (wj xs j 6), .slice none 0 0]⟩⟩, ⟨some b6, true, ⟨true, 26, [.int .u8 0, .int .u8 0, .int .u8 0, .int .u8 0, .int .u8 0, .int .u32 0, .int .u32 0, .int .u32 0, .int .u32 0, .int .u32 0, .int .u32 0, .int .u32 0, .int .u32 0, .slice none 0 0]⟩⟩]) (7 - 0) ⟨0, rfl, by omega, rfl, (st.sel [0, 1] (by decide))⟩ [15, 137, 138, 139, 140, 141, 142, 143, 144, 145, 146, 147, 148, 149] (by decide) ?_
            rintro m t1 H1 hk hI
            obtain ⟨j, rfl, hj, ht15, st⟩ := hI
            obtain ⟨u, rfl⟩ : ∃ u, t1 = (upd (mix [15, 137, 138, 139, 140, 141, 142, 143, 144, 145, 146, 147, 148, 149] _ u) (some 15) _) := ⟨t1, by rw [← hk, upd_self ht15]⟩
            clear hk ht15
            show AWl _ _ _ _ _
            iterate 2 refine aN rfl rfl (by constructor) ?_
            refine sE ?_
            show AW _ (.cond _ _ _) _ _ _
            refine cC' rfl (fun h53 => ?_) (fun h53 => ?_)
            ·have h53q := h53; try simp only [decide_eq_true_eq, decide_eq_false_iff_not, beq_iff_eq, beq_eq_false_iff_ne, bne_iff_ne, bne_eq_false_iff_eq, ne_eq, Decidable.not_not, Bool.not_eq_true, Bool.not_eq_false, gt_iff_lt, ge_iff_le, Int.not_lt, Int.not_le] at h53q
             have hlt : j < 7 := by have := of_decide_eq_true h53; omega
             show AWl _ _ _ _ _
             refine aN rfl rfl (by constructor) ?_
             refine aMovV x rfl ?_
             iterate 3 refine aN rfl rfl (by constructor) ?_
             refine aC (rnum_call (st.slc hx) hb (by omega) (by first | omega | (rw [wi (4 * (j : Int)) (by omega), wi _ (by omega)]; omega))) fun v146 H54 ⟨hv, st1⟩ => ?_
             subst hv
             replace st := st.call st1 rfl
             clear st1
             refine aN rfl rfl (by constructor) ?_
             rw [wi (4 * (j : Int)) (by omega), wi (20 + 4 * (j : Int)) (by omega), show (20 + 4 * (j : Int)) = ((20 + 4 * j : Nat) : Int) by omega, w_conv hb (by omega)]
             refine aN rfl rfl (by constructor) ?_
             refine aIxA rfl rfl (by omega) ?_
             refine aStAt st 0 rfl rfl rfl rfl rfl (by simp; omega) (row_set hlt) fun H55 st => ?_
             refine sE ?_
             show AWl _ _ _ _ _
             iterate 3 refine aN rfl rfl (by constructor) ?_
             refine sE ?_
             exact ⟨_, by omega, j + 1, rfl, by omega, congrArg (Value.int .i64) (wi _ (by omega)), (st.sel [0, 1] (by decide))⟩
            ·have h53q := h53; try simp only [decide_eq_true_eq, decide_eq_false_iff_not, beq_iff_eq, beq_eq_false_iff_ne, bne_iff_ne, bne_eq_false_iff_eq, ne_eq, Decidable.not_not, Bool.not_eq_true, Bool.not_eq_false, gt_iff_lt, ge_iff_le, Int.not_lt, Int.not_le] at h53q
             have hge : j = 7 := by have := of_decide_eq_false h53; omega
             subst hge
             show AWp _ _ _ _ _
             refine aN rfl rfl (by constructor) ?_
             refine aLd st 0 rfl rfl rfl (by constructor) ?_
             refine aMovV x rfl ?_
             iterate 3 refine aN rfl rfl (by constructor) ?_
             refine aBinV (.int .i64 ((52 + nOf xs : Nat) : Int)) (u := .int .i64 52) (u' := .int .i64 (nOf xs : Int)) rfl rfl (congrArg (fun z => some (Value.int .i64 z)) (by rw [wi _ (by omega)]; omega)) ?_
             refine aCutLH (st.slc hx) rfl rfl rfl (by omega) fun v157 s157 => ?_
             replace s157 := s157 _ hx
             replace s157 : Sl H 1 (nOf xs) (((xs.drop 52).take (nOf xs)).map (Value.int .u8)) v157 := by have e : ((52 + nOf xs : Nat) : Int).toNat - (52 : Int).toNat = nOf xs := (by omega); rw [e] at s157; exact s157
             refine ⟨?_, trivial⟩
             have st := st.nil 5
             have hnil : (Value.slice none 0 0) = accV none 0 1 := rfl
             refine aApp st 0 (ob := none) (n := 0) rfl rfl rfl (by decide) (rfl) (st.slc s157).src (by rw [List.length_map, List.length_take, List.length_drop]; omega) (by omega) (by omega) fun b158 H56 hp158 st => ?_
             rw [show 0 + nOf xs = nOf xs from Nat.zero_add _]
             rw [List.nil_append] at st
             refine ⟨trivial, ?_⟩
             refine aN rfl rfl (by constructor) ?_
             refine ⟨?_, trivial⟩
             refine aStAt st 1 rfl rfl rfl (by cases b158 <;> rfl) (by cases b158 <;> rfl) (by simp) (cs := [.int .u8 (xs.getD 0 0), .int .u8 (xs.getD 1 0), .int .u8 (xs.getD 2 0), .int .u8 (xs.getD 3 0), .int .u8 (xs.getD 9 0), .int .u32 (beN ((xs.drop 16).take 4)), .int .u32 (wj xs 7 0), .int .u32 (wj xs 7 1), .int .u32 (wj xs 7 2), .int .u32 (wj xs 7 3), .int .u32 (wj xs 7 4), .int .u32 (wj xs 7 5), .int .u32 (wj xs 7 6), accV b158 (nOf xs) 1]) rfl fun H57 st => ?_
             refine ⟨trivial, ?_⟩
             refine pE ?_
             show AWl _ _ _ _ _
             refine aLdAll st 1 rfl rfl (rfl) ?_
             refine aN rfl rfl (by constructor) ?_
             refine aStAllA st 2 rfl rfl rfl (rfl) (rfl) fun H58 st => ?_
             iterate 2 refine aN rfl rfl (by constructor) ?_
             refine sE ?_
             refine ⟨_, out3 (r_cellA st 2 rfl rfl (by first | decide | simp [*]) (by repeat constructor)) (r_tmp rfl (by constructor)) (r_tmp rfl (by constructor)) ⟨rfl, rfl, rfl⟩, ?_⟩
             have he := e_0 (d := true) hat (fun hc => hc.2 (of_decide_eq_true h5n)) hc3 hend (fun hc => by have := hc.1.2; omega) hzr
             obtain ⟨hP, hN⟩ := decP_yes he
             have hdl : (decD xs true).data.length = nOf xs := by show (((xs.drop 52).take (nOf xs)) : List Int).length = _; rw [List.length_take, List.length_drop]; omega
             refine ⟨b158, ?_, ?_⟩
             ·rw [he, hP, hN, hdl, hE]; rfl
             ·rw [hP]; exact st.pick 0 rfl
           ·refine ⟨?_, trivial⟩
            refine aNewP st rfl rfl (by repeat constructor) fun b14 H59 st => ?_
            refine ⟨⟨(h_LdG rfl (g131 _ (st.slc hx))), (h_LdG rfl (g128 _ (st.slc hx))), (h_LdG rfl (g125 _ (st.slc hx))), (h_LdG rfl (g122 _ (st.slc hx))), (h_LdG rfl (g119 _ (st.slc hx))), trivial⟩, ?_⟩
            refine ⟨?_, trivial⟩
            refine aC (rnum_call (st.slc hx) hb (by omega) (by first | omega | (rw [wi (4 * (j : Int)) (by omega), wi _ (by omega)]; omega))) fun v134 H60 ⟨hv, st1⟩ => ?_
            subst hv
            replace st := st.call st1 rfl
            clear st1
            refine ⟨⟨(h_LdG rfl (g131 _ (st.slc hx))), (h_LdG rfl (g128 _ (st.slc hx))), (h_LdG rfl (g125 _ (st.slc hx))), (h_LdG rfl (g122 _ (st.slc hx))), (h_LdG rfl (g119 _ (st.slc hx))), trivial⟩, ?_⟩
            refine aN rfl rfl (by constructor) ?_
            rw [show rgetV xs 16 4 = rgetV xs ((16 : Nat) : Int) 4 from rfl, w_conv hb (by omega)]
            refine aBld rfl (by repeat constructor) ?_
            refine ⟨?_, trivial⟩
            refine aSt st 0 rfl rfl rfl rfl (by first | rfl | simp [cellsOf, *]) (by first | decide | (simp [*]; done) | (simp [k8]; done)) (by repeat constructor) fun H61 st => ?_
            refine ⟨trivial, ?_⟩
            refine pE ?_
            show AWl _ _ _ _ _
            refine aN rfl rfl (by constructor) ?_
            refine sE ?_
            show AW _ (.loop _) _ _ _
            refine AW_loopN (fun m t1 H1 => ∃ (j : Nat), m = 7 - j ∧ (j ≤ 7) ∧ t1 15 = .int .i64 (j : Int) ∧ Stt [] H H1 [⟨some b14, true, ⟨true, 26, [.int .u8 (xs.getD 0 0), .int .u8 (xs.getD 1 0), .int .u8 (xs.getD 2 0), .int .u8 (xs.getD 3 0), .int .u8 (xs.getD 9 0), .int .u32 (beN ((xs.drop 16).take 4)), .int .u32 (wj xs j 0), .int .u32 (wj xs j 1), .int .u32 (wj xs j 2), .int .u32 (wj xs j 3), .int .u32 (wj xs j 4), .int .u32 (wj xs j 5), .int .u32 (wj xs j 6), .slice none 0 0]⟩⟩, ⟨some b6, true, ⟨true, 26, [.int .u8 0, .int .u8 0, .int .u8 0, .int .u8 0, .int .u8 0, .int .u32 0, .int .u32 0, .int .u32 0, .int .u32 0, .int .u32 0, .int .u32 0, .int .u32 0, .int .u32 0, .slice none 0 0]⟩⟩]) (7 - 0) ⟨0, rfl, by omega, rfl, (st.sel [0, 1] (by decide))⟩ [15, 137, 138, 139, 140, 141, 142, 143, 144, 145, 146, 147, 148, 149] (by decide) ?_
            rintro m t1 H1 hk hI
            obtain ⟨j, rfl, hj, ht15, st⟩ := hI
            obtain ⟨u, rfl⟩ : ∃ u, t1 = (upd (mix [15, 137, 138, 139, 140, 141, 142, 143, 144, 145, 146, 147, 148, 149] _ u) (some 15) _) := ⟨t1, by rw [← hk, upd_self ht15]⟩
            clear hk ht15
            show AWl _ _ _ _ _
            iterate 2 refine aN rfl rfl (by constructor) ?_
            refine sE ?_
            show AW _ (.cond _ _ _) _ _ _
            refine cC' rfl (fun h62 => ?_) (fun h62 => ?_)
            ·have h62q := h62; try simp only [decide_eq_true_eq, decide_eq_false_iff_not, beq_iff_eq, beq_eq_false_iff_ne, bne_iff_ne, bne_eq_false_iff_eq, ne_eq, Decidable.not_not, Bool.not_eq_true, Bool.not_eq_false, gt_iff_lt, ge_iff_le, Int.not_lt, Int.not_le] at h62q
             have hlt : j < 7 := by have := of_decide_eq_true h62; omega
             show AWl _ _ _ _ _
             refine aN rfl rfl (by constructor) ?_
             refine aMovV x rfl ?_
             iterate 3 refine aN rfl rfl (by constructor) ?_
             refine aC (rnum_call (st.slc hx) hb (by omega) (by first | omega | (rw [wi (4 * (j : Int)) (by omega), wi _ (by omega)]; omega))) fun v146 H63 ⟨hv, st1⟩ => ?_
             subst hv
             replace st := st.call st1 rfl
             clear st1
             refine aN rfl rfl (by constructor) ?_
             rw [wi (4 * (j : Int)) (by omega), wi (20 + 4 * (j : Int)) (by omega), show (20 + 4 * (j : Int)) = ((20 + 4 * j : Nat) : Int) by omega, w_conv hb (by omega)]
             refine aN rfl rfl (by constructor) ?_
             refine aIxA rfl rfl (by omega) ?_
             refine aStAt st 0 rfl rfl rfl rfl rfl (by simp; omega) (row_set hlt) fun H64 st => ?_
             refine sE ?_
             show AWl _ _ _ _ _
             iterate 3 refine aN rfl rfl (by constructor) ?_
             refine sE ?_
             exact ⟨_, by omega, j + 1, rfl, by omega, congrArg (Value.int .i64) (wi _ (by omega)), (st.sel [0, 1] (by decide))⟩
            ·have h62q := h62; try simp only [decide_eq_true_eq, decide_eq_false_iff_not, beq_iff_eq, beq_eq_false_iff_ne, bne_iff_ne, bne_eq_false_iff_eq, ne_eq, Decidable.not_not, Bool.not_eq_true, Bool.not_eq_false, gt_iff_lt, ge_iff_le, Int.not_lt, Int.not_le] at h62q
             have hge : j = 7 := by have := of_decide_eq_false h62; omega
             subst hge
             show AWp _ _ _ _ _
             refine aN rfl rfl (by constructor) ?_
             refine aLd st 0 rfl rfl rfl (by constructor) ?_
             refine aMovV x rfl ?_
             iterate 3 refine aN rfl rfl (by constructor) ?_
             refine aBinV (.int .i64 ((52 + nOf xs : Nat) : Int)) (u := .int .i64 52) (u' := .int .i64 (nOf xs : Int)) rfl rfl (congrArg (fun z => some (Value.int .i64 z)) (by rw [wi _ (by omega)]; omega)) ?_
             refine aCutLH (st.slc hx) rfl rfl rfl (by omega) fun v157 s157 => ?_
             replace s157 := s157 _ hx
             replace s157 : Sl H 1 (nOf xs) (((xs.drop 52).take (nOf xs)).map (Value.int .u8)) v157 := by have e : ((52 + nOf xs : Nat) : Int).toNat - (52 : Int).toNat = nOf xs := (by omega); rw [e] at s157; exact s157
             refine ⟨?_, trivial⟩
             have st := st.nil 5
             have hnil : (Value.slice none 0 0) = accV none 0 1 := rfl
             refine aApp st 0 (ob := none) (n := 0) rfl rfl rfl (by decide) (rfl) (st.slc s157).src (by rw [List.length_map, List.length_take, List.length_drop]; omega) (by omega) (by omega) fun b158 H65 hp158 st => ?_
             rw [show 0 + nOf xs = nOf xs from Nat.zero_add _]
             rw [List.nil_append] at st
             refine ⟨trivial, ?_⟩
             refine aN rfl rfl (by constructor) ?_
             refine ⟨?_, trivial⟩
             refine aStAt st 1 rfl rfl rfl (by cases b158 <;> rfl) (by cases b158 <;> rfl) (by simp) (cs := [.int .u8 (xs.getD 0 0), .int .u8 (xs.getD 1 0), .int .u8 (xs.getD 2 0), .int .u8 (xs.getD 3 0), .int .u8 (xs.getD 9 0), .int .u32 (beN ((xs.drop 16).take 4)), .int .u32 (wj xs 7 0), .int .u32 (wj xs 7 1), .int .u32 (wj xs 7 2), .int .u32 (wj xs 7 3), .int .u32 (wj xs 7 4), .int .u32 (wj xs 7 5), .int .u32 (wj xs 7 6), accV b158 (nOf xs) 1]) rfl fun H66 st => ?_
             refine ⟨trivial, ?_⟩
             refine pE ?_
             show AWl _ _ _ _ _
             refine aLdAll st 1 rfl rfl (rfl) ?_
             refine aN rfl rfl (by constructor) ?_
             refine aStAllA st 2 rfl rfl rfl (rfl) (rfl) fun H67 st => ?_
             iterate 2 refine aN rfl rfl (by constructor) ?_
             refine sE ?_
             refine ⟨_, out3 (r_cellA st 2 rfl rfl (by first | decide | simp [*]) (by repeat constructor)) (r_tmp rfl (by constructor)) (r_tmp rfl (by constructor)) ⟨rfl, rfl, rfl⟩, ?_⟩
             have he := e_0 (d := true) hat (fun hc => hc.2 (of_decide_eq_true h5n)) hc3 hend (fun hc => by have := hc.1.2; omega) hzr
             obtain ⟨hP, hN⟩ := decP_yes he
             have hdl : (decD xs true).data.length = nOf xs := by show (((xs.drop 52).take (nOf xs)) : List Int).length = _; rw [List.length_take, List.length_drop]; omega
             refine ⟨b158, ?_, ?_⟩
             ·rw [he, hP, hN, hdl, hE]; rfl
             ·rw [hP]; exact st.pick 0 rfl
theorem rdec_call_tf {H : Hp} {xs : List Int} {x : Value} (hx : Sl H 1 xs.length (xs.map (Value.int .u8)) x) (hb : ByteL xs) (hl : xs.length ≤ 140737488351232) :
  ACalls Try.prog 14 [x, .bool true, .bool false] H (fun v H' => ∃ ob, v = .tuple #[.agg #[.int .u8 (decP xs true false).op, .int .u8 (decP xs true false).fl, .int .u8 (decP xs true false).res, .int .u8 (decP xs true false).st, .int .u8 (decP xs true false).lun, .int .u32 (decP xs true false).tag, .int .u32 (decP xs true false).w0, .int .u32 (decP xs true false).w1, .int .u32 (decP xs true false).w2, .int .u32 (decP xs true false).w3, .int .u32 (decP xs true false).w4, .int .u32 (decP xs true false).w5, .int .u32 (decP xs true false).w6, accV ob (decP xs true false).data.length 1], .int .i64 (decN xs true false), .int .i64 (decE xs true false)] ∧ Stt [] H H' [⟨ob, true, ⟨true, 5, (decP xs true false).data.map (Value.int .u8)⟩⟩]) := by
 refine acallsW Try.func14 f14_ok (Nat.le_of_ble_eq_true rfl) fun hw => ?_
 have st : Stt [] H H [] := Stt.start hw
 unfold f14c
 show AWl _ _ _ _ _
 refine aNewP st rfl rfl (by repeat constructor) fun b6 H1 st => ?_
 iterate 2 refine aN rfl rfl (by constructor) ?_
 refine sE ?_
 show AWl _ _ _ _ _
 refine aN rfl rfl (by constructor) ?_
 refine sE ?_
 show AWl _ _ _ _ _
 refine aN rfl rfl (by constructor) ?_
 refine sE ?_
 show AW _ (.cond _ _ _) _ _ _
 refine cT rfl ?_
 show AWl _ _ _ _ _
 refine aN rfl rfl (by constructor) ?_
 refine sE ?_
 show AWl _ _ _ _ _
 refine aMovV x rfl ?_
 refine aLen (st.slc hx) rfl ?_
 iterate 2 refine aN rfl rfl (by constructor) ?_
 refine sE ?_
 show AW _ (.cond _ _ _) _ _ _
 refine cC' rfl (fun h2 => ?_) (fun h2 => ?_)
 ·have h2q := h2; try simp only [decide_eq_true_eq, decide_eq_false_iff_not, beq_iff_eq, beq_eq_false_iff_ne, bne_iff_ne, bne_eq_false_iff_eq, ne_eq, Decidable.not_not, Bool.not_eq_true, Bool.not_eq_false, gt_iff_lt, ge_iff_le, Int.not_lt, Int.not_le] at h2q
  have hat : (xs.length < atN true) := by have := of_decide_eq_true h2; show (xs.length < 52); omega
  have hat2 : xs.length < 52 := by have : atN true = 52 := rfl; omega
  show AWl _ _ _ _ _
  refine aBld rfl (by repeat constructor) ?_
  refine aSt st 0 rfl rfl rfl rfl (by first | rfl | simp [cellsOf, *]) (by first | decide | (simp [*]; done) | (simp [k8]; done)) (by repeat constructor) fun H3 st => ?_
  iterate 2 refine aN rfl rfl (by constructor) ?_
  refine sE ?_
  refine ⟨_, out3 (r_cellA st 0 rfl rfl (by first | decide | simp [*]) (by repeat constructor)) (r_tmp rfl (by constructor)) (r_tmp rfl (by constructor)) ⟨rfl, rfl, rfl⟩, ?_⟩
  have he := e_8 (d := false) hat
  obtain ⟨hP, hN⟩ := decP_no he (by decide)
  exact ⟨none, by rw [he, hP, hN]; rfl, by rw [hP]; exact (st.nil 5).pick 0 rfl⟩
 ·have h2q := h2; try simp only [decide_eq_true_eq, decide_eq_false_iff_not, beq_iff_eq, beq_eq_false_iff_ne, bne_iff_ne, bne_eq_false_iff_eq, ne_eq, Decidable.not_not, Bool.not_eq_true, Bool.not_eq_false, gt_iff_lt, ge_iff_le, Int.not_lt, Int.not_le] at h2q
  have hat : ¬ (xs.length < atN true) := by have := of_decide_eq_false h2; show ¬ (xs.length < 52); omega
  have hat2 : 52 ≤ xs.length := by have : atN true = 52 := rfl; omega
  show AWp _ _ _ _ _
  iterate 2 refine aN rfl rfl (by constructor) ?_
  refine gT rfl ?_
  refine aMovV x rfl ?_
  refine gT rfl ?_
  refine aCutLH (st.slc hx) rfl rfl rfl (by omega) fun v25 s25 => ?_
  replace s25 := s25 _ hx
  replace s25 : Sl H 1 4 (((xs.drop 48).take 4).map (Value.int .u8)) v25 := s25
  refine gT rfl ?_
  refine aText (st.slc s25) rfl ?_
  refine gT rfl ?_
  refine aMovV x rfl ?_
  refine gT rfl ?_
  refine aCutH (st.slc hx) rfl rfl (by omega) fun v28 s28 => ?_
  replace s28 := s28 _ hx
  replace s28 : Sl H 1 (xs.take 48).length ((xs.take 48).map (Value.int .u8)) v28 := by rw [show (xs.take 48).length = 48 by rw [List.length_take]; omega]; exact s28
  refine ⟨?_, trivial⟩
  refine gT rfl ?_
  refine aC (rsum_call (xs := xs.take 48) (st.slc s28) (hb.take 48) (by simp only [List.length_take, List.length_drop]; omega)) fun v29 H4 ⟨b29, hv, st1⟩ => ?_
  subst hv
  replace st := st.call st1 rfl
  clear st1
  refine ⟨⟨⟨some true, .bool true, (h_Text (st.slc s25) rfl)⟩, trivial⟩, ?_⟩
  refine gT rfl ?_
  refine aText (st.rowAll 0 rfl (by simp [beB_len])) rfl ?_
  refine gT rfl ?_
  refine aBinV (.bool (!decide (beB 4 (c32 (xs.take 48)) = (xs.drop 48).take 4))) (u := .string (ofInts ((xs.drop 48).take 4))) (u' := .string (ofInts (beB 4 (c32 (xs.take 48))))) rfl rfl (by show some (Value.bool (!((ofInts ((xs.drop 48).take 4)).toList == (ofInts (beB 4 (c32 (xs.take 48)))).toList))) = _; rw [texts_beq' ((hb.drop _).take _) (beB_bytes _ _)]) ?_
  refine aN rfl rfl (by constructor) ?_
  refine pE ?_
  show AW _ (.cond _ _ _) _ _ _
  refine cC' rfl (fun h5 => ?_) (fun h5 => ?_)
  ·have h5q := h5; try simp only [decide_eq_true_eq, decide_eq_false_iff_not, beq_iff_eq, beq_eq_false_iff_ne, bne_iff_ne, bne_eq_false_iff_eq, ne_eq, Decidable.not_not, Bool.not_eq_true, Bool.not_eq_false, gt_iff_lt, ge_iff_le, Int.not_lt, Int.not_le] at h5q
   have h5n : decide (beB 4 (c32 (xs.take 48)) = (xs.drop 48).take 4) = false := Eq.mp (Bool.not_eq_true' _) h5
   show AWl _ _ _ _ _
   refine aBld rfl (by repeat constructor) ?_
   refine aSt st 1 rfl rfl rfl rfl (by first | rfl | simp [cellsOf, *]) (by first | decide | (simp [*]; done) | (simp [k8]; done)) (by repeat constructor) fun H6 st => ?_
   iterate 2 refine aN rfl rfl (by constructor) ?_
   refine sE ?_
   refine ⟨_, out3 (r_cellA st 1 rfl rfl (by first | decide | simp [*]) (by repeat constructor)) (r_tmp rfl (by constructor)) (r_tmp rfl (by constructor)) ⟨rfl, rfl, rfl⟩, ?_⟩
   have he := e_5 (d := false) hat ⟨rfl, of_decide_eq_false h5n⟩
   obtain ⟨hP, hN⟩ := decP_no he (by decide)
   exact ⟨none, by rw [he, hP, hN]; rfl, by rw [hP]; exact (st.nil 5).pick 0 rfl⟩
  ·have h5q := h5; try simp only [decide_eq_true_eq, decide_eq_false_iff_not, beq_iff_eq, beq_eq_false_iff_ne, bne_iff_ne, bne_eq_false_iff_eq, ne_eq, Decidable.not_not, Bool.not_eq_true, Bool.not_eq_false, gt_iff_lt, ge_iff_le, Int.not_lt, Int.not_le] at h5q
   have h5n : decide (beB 4 (c32 (xs.take 48)) = (xs.drop 48).take 4) = true := Eq.mp (Bool.not_eq_false' _) h5
   show AWl _ _ _ _ _
   refine aMovV x rfl ?_
   refine aC (rnum_call (st.slc hx) hb (by omega) (by first | omega | (rw [wi (4 * (j : Int)) (by omega), wi _ (by omega)]; omega))) fun v35 H7 ⟨hv, st1⟩ => ?_
   subst hv
   replace st := st.call st1 rfl
   clear st1
   refine aN rfl rfl (by constructor) ?_
   rw [n_conv hb (by omega)]
   have hn24 := nOf_lt hb
   refine aN rfl rfl (by constructor) ?_
   refine sE ?_
   show AWl _ _ _ _ _
   iterate 3 refine aN rfl rfl (by constructor) ?_
   refine gCase 39 rfl (fun h8 => ?_) (fun h8 => ?_)
   ·have h8q := h8; try simp only [decide_eq_true_eq, decide_eq_false_iff_not, beq_iff_eq, beq_eq_false_iff_ne, bne_iff_ne, bne_eq_false_iff_eq, ne_eq, Decidable.not_not, Bool.not_eq_true, Bool.not_eq_false, gt_iff_lt, ge_iff_le, Int.not_lt, Int.not_le] at h8q
    refine gF rfl (by decide) ?_
    refine gF rfl (by decide) ?_
    refine gF rfl (by decide) ?_
    refine gF rfl (by decide) ?_
    iterate 2 refine aN rfl rfl (by constructor) ?_
    refine gF rfl (by decide) ?_
    refine gF rfl (by decide) ?_
    refine gF rfl (by decide) ?_
    refine gF rfl (by decide) ?_
    iterate 2 refine aN rfl rfl (by constructor) ?_
    refine gF rfl (by decide) ?_
    refine gF rfl (by decide) ?_
    refine gF rfl (by decide) ?_
    refine aN rfl rfl (by constructor) ?_
    refine sE ?_
    show AW _ (.cond _ _ _) _ _ _
    refine cT rfl ?_
    show AWl _ _ _ _ _
    refine aBld rfl (by repeat constructor) ?_
    refine aSt st 1 rfl rfl rfl rfl (by first | rfl | simp [cellsOf, *]) (by first | decide | (simp [*]; done) | (simp [k8]; done)) (by repeat constructor) fun H9 st => ?_
    iterate 2 refine aN rfl rfl (by constructor) ?_
    refine sE ?_
    refine ⟨_, out3 (r_cellA st 1 rfl rfl (by first | decide | simp [*]) (by repeat constructor)) (r_tmp rfl (by constructor)) (r_tmp rfl (by constructor)) ⟨rfl, rfl, rfl⟩, ?_⟩
    have he := e_3 (d := false) hat (fun hc => hc.2 (of_decide_eq_true h5n)) (.inl (by omega))
    obtain ⟨hP, hN⟩ := decP_no he (by decide)
    exact ⟨none, by rw [he, hP, hN]; rfl, by rw [hP]; exact (st.nil 5).pick 0 rfl⟩
   ·have h8q := h8; try simp only [decide_eq_true_eq, decide_eq_false_iff_not, beq_iff_eq, beq_eq_false_iff_ne, bne_iff_ne, bne_eq_false_iff_eq, ne_eq, Decidable.not_not, Bool.not_eq_true, Bool.not_eq_false, gt_iff_lt, ge_iff_le, Int.not_lt, Int.not_le] at h8q
    refine gT rfl ?_
    refine aMovV x rfl ?_
    refine gT rfl ?_
    refine aIxBK (st.slc hx) rfl rfl (by omega) fun b41 o41 g41 => ?_
    refine gT rfl ?_
    refine aLdG rfl (g41 _ (st.slc hx)) ?_
    refine gT rfl ?_
    iterate 3 refine aN rfl rfl (by constructor) ?_
    refine gCase 45 rfl (fun h10 => ?_) (fun h10 => ?_)
    ·have h10q := h10; try simp only [decide_eq_true_eq, decide_eq_false_iff_not, beq_iff_eq, beq_eq_false_iff_ne, bne_iff_ne, bne_eq_false_iff_eq, ne_eq, Decidable.not_not, Bool.not_eq_true, Bool.not_eq_false, gt_iff_lt, ge_iff_le, Int.not_lt, Int.not_le] at h10q
     refine gF rfl (by decide) ?_
     refine gF rfl (by decide) ?_
     refine gF rfl (by decide) ?_
     refine gF rfl (by decide) ?_
     iterate 2 refine aN rfl rfl (by constructor) ?_
     refine gF rfl (by decide) ?_
     refine gF rfl (by decide) ?_
     refine gF rfl (by decide) ?_
     refine aN rfl rfl (by constructor) ?_
     refine sE ?_
     show AW _ (.cond _ _ _) _ _ _
     refine cT rfl ?_
     show AWl _ _ _ _ _
     refine aBld rfl (by repeat constructor) ?_
     refine aSt st 1 rfl rfl rfl rfl (by first | rfl | simp [cellsOf, *]) (by first | decide | (simp [*]; done) | (simp [k8]; done)) (by repeat constructor) fun H11 st => ?_
     iterate 2 refine aN rfl rfl (by constructor) ?_
     refine sE ?_
     refine ⟨_, out3 (r_cellA st 1 rfl rfl (by first | decide | simp [*]) (by repeat constructor)) (r_tmp rfl (by constructor)) (r_tmp rfl (by constructor)) ⟨rfl, rfl, rfl⟩, ?_⟩
     have he := e_3 (d := false) hat (fun hc => hc.2 (of_decide_eq_true h5n)) (.inr fun hr => by have hq := (rsv_iff hb (by omega)).1 hr; first | exact h10q hq.1 | exact h10q hq.2.1 | exact h10q hq.2.2)
     obtain ⟨hP, hN⟩ := decP_no he (by decide)
     exact ⟨none, by rw [he, hP, hN]; rfl, by rw [hP]; exact (st.nil 5).pick 0 rfl⟩
    ·have h10q := h10; try simp only [decide_eq_true_eq, decide_eq_false_iff_not, beq_iff_eq, beq_eq_false_iff_ne, bne_iff_ne, bne_eq_false_iff_eq, ne_eq, Decidable.not_not, Bool.not_eq_true, Bool.not_eq_false, gt_iff_lt, ge_iff_le, Int.not_lt, Int.not_le] at h10q
     refine gT rfl ?_
     refine aMovV x rfl ?_
     refine gT rfl ?_
     refine aIxBK (st.slc hx) rfl rfl (by omega) fun b47 o47 g47 => ?_
     refine gT rfl ?_
     refine aLdG rfl (g47 _ (st.slc hx)) ?_
     refine gT rfl ?_
     iterate 3 refine aN rfl rfl (by constructor) ?_
     refine gCase 51 rfl (fun h12 => ?_) (fun h12 => ?_)
     ·have h12q := h12; try simp only [decide_eq_true_eq, decide_eq_false_iff_not, beq_iff_eq, beq_eq_false_iff_ne, bne_iff_ne, bne_eq_false_iff_eq, ne_eq, Decidable.not_not, Bool.not_eq_true, Bool.not_eq_false, gt_iff_lt, ge_iff_le, Int.not_lt, Int.not_le] at h12q
      refine gF rfl (by decide) ?_
      refine gF rfl (by decide) ?_
      refine gF rfl (by decide) ?_
      refine aN rfl rfl (by constructor) ?_
      refine sE ?_
      show AW _ (.cond _ _ _) _ _ _
      refine cT rfl ?_
      show AWl _ _ _ _ _
      refine aBld rfl (by repeat constructor) ?_
      refine aSt st 1 rfl rfl rfl rfl (by first | rfl | simp [cellsOf, *]) (by first | decide | (simp [*]; done) | (simp [k8]; done)) (by repeat constructor) fun H13 st => ?_
      iterate 2 refine aN rfl rfl (by constructor) ?_
      refine sE ?_
      refine ⟨_, out3 (r_cellA st 1 rfl rfl (by first | decide | simp [*]) (by repeat constructor)) (r_tmp rfl (by constructor)) (r_tmp rfl (by constructor)) ⟨rfl, rfl, rfl⟩, ?_⟩
      have he := e_3 (d := false) hat (fun hc => hc.2 (of_decide_eq_true h5n)) (.inr fun hr => by have hq := (rsv_iff hb (by omega)).1 hr; first | exact h12q hq.1 | exact h12q hq.2.1 | exact h12q hq.2.2)
      obtain ⟨hP, hN⟩ := decP_no he (by decide)
      exact ⟨none, by rw [he, hP, hN]; rfl, by rw [hP]; exact (st.nil 5).pick 0 rfl⟩
     ·have h12q := h12; try simp only [decide_eq_true_eq, decide_eq_false_iff_not, beq_iff_eq, beq_eq_false_iff_ne, bne_iff_ne, bne_eq_false_iff_eq, ne_eq, Decidable.not_not, Bool.not_eq_true, Bool.not_eq_false, gt_iff_lt, ge_iff_le, Int.not_lt, Int.not_le] at h12q
      refine gT rfl ?_
      refine aMovV x rfl ?_
      refine gT rfl ?_
      refine aC (rnum_call (st.slc hx) hb (by omega) (by first | omega | (rw [wi (4 * (j : Int)) (by omega), wi _ (by omega)]; omega))) fun v53 H14 ⟨hv, st1⟩ => ?_
      subst hv
      replace st := st.call st1 rfl
      clear st1
      refine gT rfl ?_
      iterate 2 refine aN rfl rfl (by constructor) ?_
      refine sE ?_
      show AW _ (.cond _ _ _) _ _ _
      refine cC' rfl (fun h15 => ?_) (fun h15 => ?_)
      ·have h15q := h15; try simp only [decide_eq_true_eq, decide_eq_false_iff_not, beq_iff_eq, beq_eq_false_iff_ne, bne_iff_ne, bne_eq_false_iff_eq, ne_eq, Decidable.not_not, Bool.not_eq_true, Bool.not_eq_false, gt_iff_lt, ge_iff_le, Int.not_lt, Int.not_le] at h15q
       show AWl _ _ _ _ _
       refine aBld rfl (by repeat constructor) ?_
       refine aSt st 1 rfl rfl rfl rfl (by first | rfl | simp [cellsOf, *]) (by first | decide | (simp [*]; done) | (simp [k8]; done)) (by repeat constructor) fun H16 st => ?_
       iterate 2 refine aN rfl rfl (by constructor) ?_
       refine sE ?_
       refine ⟨_, out3 (r_cellA st 1 rfl rfl (by first | decide | simp [*]) (by repeat constructor)) (r_tmp rfl (by constructor)) (r_tmp rfl (by constructor)) ⟨rfl, rfl, rfl⟩, ?_⟩
       have he := e_3 (d := false) hat (fun hc => hc.2 (of_decide_eq_true h5n)) (.inr fun hr => by have hq := (rsv_iff hb (by omega)).1 hr; first | exact h15q hq.1 | exact h15q hq.2.1 | exact h15q hq.2.2)
       obtain ⟨hP, hN⟩ := decP_no he (by decide)
       exact ⟨none, by rw [he, hP, hN]; rfl, by rw [hP]; exact (st.nil 5).pick 0 rfl⟩
      ·have h15q := h15; try simp only [decide_eq_true_eq, decide_eq_false_iff_not, beq_iff_eq, beq_eq_false_iff_ne, bne_iff_ne, bne_eq_false_iff_eq, ne_eq, Decidable.not_not, Bool.not_eq_true, Bool.not_eq_false, gt_iff_lt, ge_iff_le, Int.not_lt, Int.not_le] at h15q
       show AWl _ _ _ _ _
       refine aN rfl rfl (by constructor) ?_
       have hrv : Rsv xs 8 := (rsv_iff hb (by omega)).2 ⟨by assumption, by assumption, by assumption⟩
       have hn8 : nOf xs ≤ 8192 := by omega
       have hc3 : ¬ (nOf xs > 8192 ∨ ¬ Rsv xs 8) := fun hc => hc.elim (fun h => by omega) (fun h => h hrv)
       have hm := mOf_le xs
       have hpl := padN_le (nOf xs)
       have hmd : mOf xs = nOf xs + padN (nOf xs) := rfl
       refine aN rfl rfl (by constructor) ?_
       refine sE ?_
       show AW _ (.loop _) _ _ _
       refine AW_loopN (fun m t1 H1 => ∃ (k : Nat), m = padN (nOf xs) - k ∧ (k ≤ padN (nOf xs)) ∧ t1 11 = .int .i64 ((nOf xs + k : Nat) : Int) ∧ Stt [] H H1 [⟨some b6, true, ⟨true, 26, [.int .u8 0, .int .u8 0, .int .u8 0, .int .u8 0, .int .u8 0, .int .u32 0, .int .u32 0, .int .u32 0, .int .u32 0, .int .u32 0, .int .u32 0, .int .u32 0, .int .u32 0, .slice none 0 0]⟩⟩]) (padN (nOf xs) - 0) ⟨0, rfl, Nat.zero_le _, rfl, (st.sel [1] (by decide))⟩ [11, 58, 59, 60, 61, 62] (by decide) ?_
       rintro m t1 H1 hk hI
       obtain ⟨k, rfl, hkp, ht11, st⟩ := hI
       obtain ⟨u, rfl⟩ : ∃ u, t1 = (upd (mix [11, 58, 59, 60, 61, 62] _ u) (some 11) _) := ⟨t1, by rw [← hk, upd_self ht11]⟩
       clear hk ht11
       show AWl _ _ _ _ _
       iterate 3 refine aN rfl rfl (by constructor) ?_
       refine sE ?_
       show AW _ (.cond _ _ _) _ _ _
       refine cC' rfl (fun h17 => ?_) (fun h17 => ?_)
       ·have h17q := h17; try simp only [decide_eq_true_eq, decide_eq_false_iff_not, beq_iff_eq, beq_eq_false_iff_ne, bne_iff_ne, bne_eq_false_iff_eq, ne_eq, Decidable.not_not, Bool.not_eq_true, Bool.not_eq_false, gt_iff_lt, ge_iff_le, Int.not_lt, Int.not_le] at h17q
        have hr : ((nOf xs + k : Nat) : Int).tmod 4 ≠ 0 := by simpa using h17
        rw [Int.tmod_eq_emod_of_nonneg (by omega)] at hr
        have hk : k < padN (nOf xs) := by unfold padN at *; omega
        show AWl _ _ _ _ _
        iterate 3 refine aN rfl rfl (by constructor) ?_
        refine sE ?_
        exact ⟨_, by omega, k + 1, rfl, by omega, congrArg (Value.int .i64) (by rw [wi _ (by omega)]; omega), (st.sel [0] (by decide))⟩
       ·have h17q := h17; try simp only [decide_eq_true_eq, decide_eq_false_iff_not, beq_iff_eq, beq_eq_false_iff_ne, bne_iff_ne, bne_eq_false_iff_eq, ne_eq, Decidable.not_not, Bool.not_eq_true, Bool.not_eq_false, gt_iff_lt, ge_iff_le, Int.not_lt, Int.not_le] at h17q
        have hr : ((nOf xs + k : Nat) : Int).tmod 4 = 0 := by simpa using h17
        rw [Int.tmod_eq_emod_of_nonneg (by omega)] at hr
        have hk : k = padN (nOf xs) := by unfold padN at *; omega
        subst hk
        rw [show nOf xs + padN (nOf xs) = mOf xs from rfl]
        show AWl _ _ _ _ _
        iterate 2 refine aN rfl rfl (by constructor) ?_
        refine aBinV (.int .i64 ((52 + mOf xs : Nat) : Int)) (u := .int .i64 52) (u' := .int .i64 (mOf xs : Int)) rfl rfl (congrArg (fun z => some (Value.int .i64 z)) (by rw [wi _ (by omega)]; omega)) ?_
        refine aN rfl rfl (by constructor) ?_
        refine sE ?_
        show AWl _ _ _ _ _
        iterate 2 refine aN rfl rfl (by constructor) ?_
        refine gF rfl (by decide) ?_
        refine gF rfl (by decide) ?_
        refine aN rfl rfl (by constructor) ?_
        refine sE ?_
        show AW _ (.cond _ _ _) _ _ _
        refine cF' rfl ?_
        show AWl _ _ _ _ _
        refine aMovV x rfl ?_
        have hE : endN xs true false = 52 + mOf xs + 0 := by unfold endN; rw [if_neg (fun hc => by cases hc.1)]; rfl
        refine aLen (st.slc hx) rfl ?_
        iterate 2 refine aN rfl rfl (by constructor) ?_
        refine sE ?_
        show AW _ (.cond _ _ _) _ _ _
        refine cC' rfl (fun h18 => ?_) (fun h18 => ?_)
        ·have h18q := h18; try simp only [decide_eq_true_eq, decide_eq_false_iff_not, beq_iff_eq, beq_eq_false_iff_ne, bne_iff_ne, bne_eq_false_iff_eq, ne_eq, Decidable.not_not, Bool.not_eq_true, Bool.not_eq_false, gt_iff_lt, ge_iff_le, Int.not_lt, Int.not_le] at h18q
         have hend : (xs.length < endN xs true false) := by have := of_decide_eq_true h18; rw [hE]; omega
         show AWl _ _ _ _ _
         refine aBld rfl (by repeat constructor) ?_
         refine aSt st 0 rfl rfl rfl rfl (by first | rfl | simp [cellsOf, *]) (by first | decide | (simp [*]; done) | (simp [k8]; done)) (by repeat constructor) fun H19 st => ?_
         iterate 2 refine aN rfl rfl (by constructor) ?_
         refine sE ?_
         refine ⟨_, out3 (r_cellA st 0 rfl rfl (by first | decide | simp [*]) (by repeat constructor)) (r_tmp rfl (by constructor)) (r_tmp rfl (by constructor)) ⟨rfl, rfl, rfl⟩, ?_⟩
         have he := e_8' (d := false) hat (fun hc => hc.2 (of_decide_eq_true h5n)) hc3 hend
         obtain ⟨hP, hN⟩ := decP_no he (by decide)
         exact ⟨none, by rw [he, hP, hN]; rfl, by rw [hP]; exact (st.nil 5).pick 0 rfl⟩
        ·have h18q := h18; try simp only [decide_eq_true_eq, decide_eq_false_iff_not, beq_iff_eq, beq_eq_false_iff_ne, bne_iff_ne, bne_eq_false_iff_eq, ne_eq, Decidable.not_not, Bool.not_eq_true, Bool.not_eq_false, gt_iff_lt, ge_iff_le, Int.not_lt, Int.not_le] at h18q
         have hend : ¬ (xs.length < endN xs true false) := by have := of_decide_eq_false h18; rw [hE]; omega
         show AWp _ _ _ _ _
         iterate 2 refine aN rfl rfl (by constructor) ?_
         refine gF rfl (by decide) ?_
         refine gF rfl (by decide) ?_
         iterate 2 refine aN rfl rfl (by constructor) ?_
         refine gF rfl (by decide) ?_
         refine gF rfl (by decide) ?_
         refine gF rfl (by decide) ?_
         refine gF rfl (by decide) ?_
         refine gF rfl (by decide) ?_
         refine gF rfl (by decide) ?_
         refine gF rfl (by decide) ?_
         refine gF rfl (by decide) ?_
         refine gF rfl (by decide) ?_
         refine gF rfl (by decide) ?_
         refine gF rfl (by decide) ?_
         refine gF rfl (by decide) ?_
         refine gF rfl (by decide) ?_
         refine ⟨gF rfl (by decide) ?_, trivial⟩
         refine ⟨⟨⟨some false, .bool false, rfl⟩, trivial⟩, ?_⟩
         refine gF rfl (by decide) ?_
         refine gF rfl (by decide) ?_
         refine aN rfl rfl (by constructor) ?_
         refine pE ?_
         show AW _ (.cond _ _ _) _ _ _
         refine cF' rfl ?_
         show AWl _ _ _ _ _
         iterate 2 refine aN rfl rfl (by constructor) ?_
         refine aBinV (.int .i64 ((52 + nOf xs : Nat) : Int)) (u := .int .i64 52) (u' := .int .i64 (nOf xs : Int)) rfl rfl (congrArg (fun z => some (Value.int .i64 z)) (by rw [wi _ (by omega)]; omega)) ?_
         refine aN rfl rfl (by constructor) ?_
         refine sE ?_
         show AW _ (.loop _) _ _ _
         refine AW_loopN (fun m t1 H1 => ∃ (j : Nat), m = padN (nOf xs) - j ∧ (j ≤ padN (nOf xs)) ∧ (Zer xs (52 + nOf xs) j) ∧ t1 13 = .int .i64 ((52 + nOf xs + j : Nat) : Int) ∧ Stt [] H H1 [⟨some b6, true, ⟨true, 26, [.int .u8 0, .int .u8 0, .int .u8 0, .int .u8 0, .int .u8 0, .int .u32 0, .int .u32 0, .int .u32 0, .int .u32 0, .int .u32 0, .int .u32 0, .int .u32 0, .int .u32 0, .slice none 0 0]⟩⟩]) (padN (nOf xs) - 0) ⟨0, rfl, by omega, fun i hi => by omega, rfl, (st.sel [0] (by decide))⟩ [7, 8, 13, 105, 106, 107, 108, 109, 110, 111, 112, 113, 114, 115, 116, 117] (by decide) ?_
         rintro m t1 H1 hk hI
         obtain ⟨j, rfl, hj, hzr, ht13, st⟩ := hI
         obtain ⟨u, rfl⟩ : ∃ u, t1 = (upd (mix [7, 8, 13, 105, 106, 107, 108, 109, 110, 111, 112, 113, 114, 115, 116, 117] _ u) (some 13) _) := ⟨t1, by rw [← hk, upd_self ht13]⟩
         clear hk ht13
         show AWl _ _ _ _ _
         iterate 3 refine aN rfl rfl (by constructor) ?_
         refine aBinV (.int .i64 ((52 + mOf xs : Nat) : Int)) (u := .int .i64 52) (u' := .int .i64 (mOf xs : Int)) rfl rfl (congrArg (fun z => some (Value.int .i64 z)) (by rw [wi _ (by omega)]; omega)) ?_
         refine aN rfl rfl (by constructor) ?_
         refine sE ?_
         show AW _ (.cond _ _ _) _ _ _
         refine cC' rfl (fun h20 => ?_) (fun h20 => ?_)
         ·have h20q := h20; try simp only [decide_eq_true_eq, decide_eq_false_iff_not, beq_iff_eq, beq_eq_false_iff_ne, bne_iff_ne, bne_eq_false_iff_eq, ne_eq, Decidable.not_not, Bool.not_eq_true, Bool.not_eq_false, gt_iff_lt, ge_iff_le, Int.not_lt, Int.not_le] at h20q
          have hlt : j < padN (nOf xs) := by have := of_decide_eq_true h20; omega
          show AWl _ _ _ _ _
          refine aMovV x rfl ?_
          refine aN rfl rfl (by constructor) ?_
          refine aIxBK (st.slc hx) rfl rfl (by omega) fun b114 o114 g114 => ?_
          refine aLdG rfl (g114 _ (st.slc hx)) ?_
          refine aN rfl rfl (by constructor) ?_
          refine sE ?_
          show AW _ (.cond _ _ _) _ _ _
          refine cC' rfl (fun h21 => ?_) (fun h21 => ?_)
          ·have h21q := h21; try simp only [decide_eq_true_eq, decide_eq_false_iff_not, beq_iff_eq, beq_eq_false_iff_ne, bne_iff_ne, bne_eq_false_iff_eq, ne_eq, Decidable.not_not, Bool.not_eq_true, Bool.not_eq_false, gt_iff_lt, ge_iff_le, Int.not_lt, Int.not_le] at h21q
           have hz0 : xs.getD (52 + nOf xs + j) 0 ≠ 0 := by have hq := h21; rw [show (((52 + nOf xs + j : Nat) : Int)).toNat = 52 + nOf xs + j from rfl] at hq; simpa using hq
           show AWl _ _ _ _ _
           refine aBld rfl (by repeat constructor) ?_
           refine aSt st 0 rfl rfl rfl rfl (by first | rfl | simp [cellsOf, *]) (by first | decide | (simp [*]; done) | (simp [k8]; done)) (by repeat constructor) fun H22 st => ?_
           iterate 2 refine aN rfl rfl (by constructor) ?_
           refine sE ?_
           refine ⟨_, out3 (r_cellA st 0 rfl rfl (by first | decide | simp [*]) (by repeat constructor)) (r_tmp rfl (by constructor)) (r_tmp rfl (by constructor)) ⟨rfl, rfl, rfl⟩, ?_⟩
           have he := e_3' (d := false) hat (fun hc => hc.2 (of_decide_eq_true h5n)) hc3 hend (fun hc => by cases hc.1.1) (fun hz => hz0 (hz j hlt))
           obtain ⟨hP, hN⟩ := decP_no he (by decide)
           exact ⟨none, by rw [he, hP, hN]; rfl, by rw [hP]; exact (st.nil 5).pick 0 rfl⟩
          ·have h21q := h21; try simp only [decide_eq_true_eq, decide_eq_false_iff_not, beq_iff_eq, beq_eq_false_iff_ne, bne_iff_ne, bne_eq_false_iff_eq, ne_eq, Decidable.not_not, Bool.not_eq_true, Bool.not_eq_false, gt_iff_lt, ge_iff_le, Int.not_lt, Int.not_le] at h21q
           have hz0 : xs.getD (52 + nOf xs + j) 0 = 0 := by have hq := h21; rw [show (((52 + nOf xs + j : Nat) : Int)).toNat = 52 + nOf xs + j from rfl] at hq; simpa using hq
           show AWl _ _ _ _ _
           iterate 3 refine aN rfl rfl (by constructor) ?_
           refine sE ?_
           exact ⟨_, by omega, j + 1, rfl, by omega, hzr.step hz0, congrArg (Value.int .i64) (by rw [wi _ (by omega)]; omega), (st.sel [0] (by decide))⟩
         ·have h20q := h20; try simp only [decide_eq_true_eq, decide_eq_false_iff_not, beq_iff_eq, beq_eq_false_iff_ne, bne_iff_ne, bne_eq_false_iff_eq, ne_eq, Decidable.not_not, Bool.not_eq_true, Bool.not_eq_false, gt_iff_lt, ge_iff_le, Int.not_lt, Int.not_le] at h20q
          have hge : j = padN (nOf xs) := by have := of_decide_eq_false h20; omega
          subst hge
          show AWp _ _ _ _ _
          refine aMovV x rfl ?_
          refine aIxBK (st.slc hx) rfl rfl (by omega) fun b119 o119 g119 => ?_
          refine aLdG rfl (g119 _ (st.slc hx)) ?_
          refine aMovV x rfl ?_
          refine aIxBK (st.slc hx) rfl rfl (by omega) fun b122 o122 g122 => ?_
          refine aLdG rfl (g122 _ (st.slc hx)) ?_
          refine aMovV x rfl ?_
          refine aIxBK (st.slc hx) rfl rfl (by omega) fun b125 o125 g125 => ?_
          refine aLdG rfl (g125 _ (st.slc hx)) ?_
          refine aMovV x rfl ?_
          refine aIxBK (st.slc hx) rfl rfl (by omega) fun b128 o128 g128 => ?_
          refine aLdG rfl (g128 _ (st.slc hx)) ?_
          refine aMovV x rfl ?_
          refine aIxBK (st.slc hx) rfl rfl (by omega) fun b131 o131 g131 => ?_
          refine aLdG rfl (g131 _ (st.slc hx)) ?_
          refine aMovV x rfl ?_
          refine ⟨?_, ?_⟩
          ·refine aC (rnum_call (st.slc hx) hb (by omega) (by first | omega | (rw [wi (4 * (j : Int)) (by omega), wi _ (by omega)]; omega))) fun v134 H23 ⟨hv, st1⟩ => ?_
           subst hv
           replace st := st.call st1 rfl
           clear st1
           refine ⟨⟨(h_LdG rfl (g131 _ (st.slc hx))), (h_LdG rfl (g128 _ (st.slc hx))), (h_LdG rfl (g125 _ (st.slc hx))), (h_LdG rfl (g122 _ (st.slc hx))), (h_LdG rfl (g119 _ (st.slc hx))), trivial⟩, ?_⟩
           refine aN rfl rfl (by constructor) ?_
           rw [show rgetV xs 16 4 = rgetV xs ((16 : Nat) : Int) 4 from rfl, w_conv hb (by omega)]
           refine aBld rfl (by repeat constructor) ?_
           refine ⟨?_, trivial⟩
           refine aNewP st rfl rfl (by repeat constructor) fun b14 H24 st => ?_
           refine ⟨⟨(h_LdG rfl (g131 _ (st.slc hx))), (h_LdG rfl (g128 _ (st.slc hx))), (h_LdG rfl (g125 _ (st.slc hx))), (h_LdG rfl (g122 _ (st.slc hx))), (h_LdG rfl (g119 _ (st.slc hx))), trivial⟩, ?_⟩
           refine ⟨?_, trivial⟩
           refine aSt st 0 rfl rfl rfl rfl (by first | rfl | simp [cellsOf, *]) (by first | decide | (simp [*]; done) | (simp [k8]; done)) (by repeat constructor) fun H25 st => ?_
           refine ⟨trivial, ?_⟩
           refine pE ?_
           show AWl _ _ _ _ _
           refine aN rfl rfl (by constructor) ?_
           refine sE ?_
           show AW _ (.loop _) _ _ _
           refine AW_loopN (fun m t1 H1 => ∃ (j : Nat), m = 7 - j ∧ (j ≤ 7) ∧ t1 15 = .int .i64 (j : Int) ∧ Stt [] H H1 [⟨some b14, true, ⟨true, 26, [.int .u8 (xs.getD 0 0), .int .u8 (xs.getD 1 0), .int .u8 (xs.getD 2 0), .int .u8 (xs.getD 3 0), .int .u8 (xs.getD 9 0), .int .u32 (beN ((xs.drop 16).take 4)), .int .u32 (wj xs j 0), .int .u32 (wj xs j 1), .int .u32 (wj xs j 2), .int .u32 (wj xs j 3), .int .u32 (wj xs j 4), .int .u32 (wj xs j 5), .int .u32 (wj xs j 6), .slice none 0 0]⟩⟩, ⟨some b6, true, ⟨true, 26, [.int .u8 0, .int .u8 0, .int .u8 0, .int .u8 0, .int .u8 0, .int .u32 0, .int .u32 0, .int .u32 0, .int .u32 0, .int .u32 0, .int .u32 0, .int .u32 0, .int .u32 0, .slice none 0 0]⟩⟩]) (7 - 0) ⟨0, rfl, by omega, rfl, (st.sel [0, 1] (by decide))⟩ [15, 137, 138, 139, 140, 141, 142, 143, 144, 145, 146, 147, 148, 149] (by decide) ?_
           rintro m t1 H1 hk hI
           obtain ⟨j, rfl, hj, ht15, st⟩ := hI
           obtain ⟨u, rfl⟩ : ∃ u, t1 = (upd (mix [15, 137, 138, 139, 140, 141, 142, 143, 144, 145, 146, 147, 148, 149] _ u) (some 15) _) := ⟨t1, by rw [← hk, upd_self ht15]⟩
           clear hk ht15
           show AWl _ _ _ _ _
           iterate 2 refine aN rfl rfl (by constructor) ?_
           refine sE ?_
           show AW _ (.cond _ _ _) _ _ _
           refine cC' rfl (fun h26 => ?_) (fun h26 => ?_)
           ·have h26q := h26; try simp only [decide_eq_true_eq, decide_eq_false_iff_not, beq_iff_eq, beq_eq_false_iff_ne, bne_iff_ne, bne_eq_false_iff_eq, ne_eq, Decidable.not_not, Bool.not_eq_true, Bool.not_eq_false, gt_iff_lt, ge_iff_le, Int.not_lt, Int.not_le] at h26q
            have hlt : j < 7 := by have := of_decide_eq_true h26; omega
            show AWl _ _ _ _ _
            refine aN rfl rfl (by constructor) ?_
            refine aMovV x rfl ?_
            iterate 3 refine aN rfl rfl (by constructor) ?_
            refine aC (rnum_call (st.slc hx) hb (by omega) (by first | omega | (rw [wi (4 * (j : Int)) (by omega), wi _ (by omega)]; omega))) fun v146 H27 ⟨hv, st1⟩ => ?_
            subst hv
            replace st := st.call st1 rfl
            clear st1
            refine aN rfl rfl (by constructor) ?_
            rw [wi (4 * (j : Int)) (by omega), wi (20 + 4 * (j : Int)) (by omega), show (20 + 4 * (j : Int)) = ((20 + 4 * j : Nat) : Int) by omega, w_conv hb (by omega)]
            refine aN rfl rfl (by constructor) ?_
            refine aIxA rfl rfl (by omega) ?_
            refine aStAt st 0 rfl rfl rfl rfl rfl (by simp; omega) (row_set hlt) fun H28 st => ?_
            refine sE ?_
            show AWl _ _ _ _ _
            iterate 3 refine aN rfl rfl (by constructor) ?_
            refine sE ?_
            exact ⟨_, by omega, j + 1, rfl, by omega, congrArg (Value.int .i64) (wi _ (by omega)), (st.sel [0, 1] (by decide))⟩
           ·have h26q := h26; try simp only [decide_eq_true_eq, decide_eq_false_iff_not, beq_iff_eq, beq_eq_false_iff_ne, bne_iff_ne, bne_eq_false_iff_eq, ne_eq, Decidable.not_not, Bool.not_eq_true, Bool.not_eq_false, gt_iff_lt, ge_iff_le, Int.not_lt, Int.not_le] at h26q
            have hge : j = 7 := by have := of_decide_eq_false h26; omega
            subst hge
            show AWp _ _ _ _ _
            refine aN rfl rfl (by constructor) ?_
            refine aLd st 0 rfl rfl rfl (by constructor) ?_
            refine aMovV x rfl ?_
            iterate 3 refine aN rfl rfl (by constructor) ?_
            refine aBinV (.int .i64 ((52 + nOf xs : Nat) : Int)) (u := .int .i64 52) (u' := .int .i64 (nOf xs : Int)) rfl rfl (congrArg (fun z => some (Value.int .i64 z)) (by rw [wi _ (by omega)]; omega)) ?_
            refine aCutLH (st.slc hx) rfl rfl rfl (by omega) fun v157 s157 => ?_
            replace s157 := s157 _ hx
            replace s157 : Sl H 1 (nOf xs) (((xs.drop 52).take (nOf xs)).map (Value.int .u8)) v157 := by have e : ((52 + nOf xs : Nat) : Int).toNat - (52 : Int).toNat = nOf xs := (by omega); rw [e] at s157; exact s157
            refine ⟨?_, trivial⟩
            have st := st.nil 5
            have hnil : (Value.slice none 0 0) = accV none 0 1 := rfl
            refine aApp st 0 (ob := none) (n := 0) rfl rfl rfl (by decide) (rfl) (st.slc s157).src (by rw [List.length_map, List.length_take, List.length_drop]; omega) (by omega) (by omega) fun b158 H29 hp158 st => ?_
            rw [show 0 + nOf xs = nOf xs from Nat.zero_add _]
            rw [List.nil_append] at st
            refine ⟨trivial, ?_⟩
            refine aN rfl rfl (by constructor) ?_
            refine ⟨?_, trivial⟩
            refine aStAt st 1 rfl rfl rfl (by cases b158 <;> rfl) (by cases b158 <;> rfl) (by simp) (cs := [.int .u8 (xs.getD 0 0), .int .u8 (xs.getD 1 0), .int .u8 (xs.getD 2 0), .int .u8 (xs.getD 3 0), .int .u8 (xs.getD 9 0), .int .u32 (beN ((xs.drop 16).take 4)), .int .u32 (wj xs 7 0), .int .u32 (wj xs 7 1), .int .u32 (wj xs 7 2), .int .u32 (wj xs 7 3), .int .u32 (wj xs 7 4), .int .u32 (wj xs 7 5), .int .u32 (wj xs 7 6), accV b158 (nOf xs) 1]) rfl fun H30 st => ?_
            refine ⟨trivial, ?_⟩
            refine pE ?_
            show AWl _ _ _ _ _
            refine aLdAll st 1 rfl rfl (rfl) ?_
            refine aN rfl rfl (by constructor) ?_
            refine aStAllA st 2 rfl rfl rfl (rfl) (rfl) fun H31 st => ?_
            iterate 2 refine aN rfl rfl (by constructor) ?_
            refine sE ?_
            refine ⟨_, out3 (r_cellA st 2 rfl rfl (by first | decide | simp [*]) (by repeat constructor)) (r_tmp rfl (by constructor)) (r_tmp rfl (by constructor)) ⟨rfl, rfl, rfl⟩, ?_⟩
            have he := e_0 (d := false) hat (fun hc => hc.2 (of_decide_eq_true h5n)) hc3 hend (fun hc => by cases hc.1.1) hzr
            obtain ⟨hP, hN⟩ := decP_yes he
            have hdl : (decD xs true).data.length = nOf xs := by show (((xs.drop 52).take (nOf xs)) : List Int).length = _; rw [List.length_take, List.length_drop]; omega
            refine ⟨b158, ?_, ?_⟩
            ·rw [he, hP, hN, hdl, hE]; rfl
            ·rw [hP]; exact st.pick 0 rfl
          ·refine ⟨?_, trivial⟩
           refine aNewP st rfl rfl (by repeat constructor) fun b14 H32 st => ?_
           refine ⟨⟨(h_LdG rfl (g131 _ (st.slc hx))), (h_LdG rfl (g128 _ (st.slc hx))), (h_LdG rfl (g125 _ (st.slc hx))), (h_LdG rfl (g122 _ (st.slc hx))), (h_LdG rfl (g119 _ (st.slc hx))), trivial⟩, ?_⟩
           refine ⟨?_, trivial⟩
           refine aC (rnum_call (st.slc hx) hb (by omega) (by first | omega | (rw [wi (4 * (j : Int)) (by omega), wi _ (by omega)]; omega))) fun v134 H33 ⟨hv, st1⟩ => ?_
           subst hv
           replace st := st.call st1 rfl
           clear st1
           refine ⟨⟨(h_LdG rfl (g131 _ (st.slc hx))), (h_LdG rfl (g128 _ (st.slc hx))), (h_LdG rfl (g125 _ (st.slc hx))), (h_LdG rfl (g122 _ (st.slc hx))), (h_LdG rfl (g119 _ (st.slc hx))), trivial⟩, ?_⟩
           refine aN rfl rfl (by constructor) ?_
           rw [show rgetV xs 16 4 = rgetV xs ((16 : Nat) : Int) 4 from rfl, w_conv hb (by omega)]
           refine aBld rfl (by repeat constructor) ?_
           refine ⟨?_, trivial⟩
           refine aSt st 0 rfl rfl rfl rfl (by first | rfl | simp [cellsOf, *]) (by first | decide | (simp [*]; done) | (simp [k8]; done)) (by repeat constructor) fun H34 st => ?_
           refine ⟨trivial, ?_⟩
           refine pE ?_
           show AWl _ _ _ _ _
           refine aN rfl rfl (by constructor) ?_
           refine sE ?_
           show AW _ (.loop _) _ _ _
           refine AW_loopN (fun m t1 H1 => ∃ (j : Nat), m = 7 - j ∧ (j ≤ 7) ∧ t1 15 = .int .i64 (j : Int) ∧ Stt [] H H1 [⟨some b14, true, ⟨true, 26, [.int .u8 (xs.getD 0 0), .int .u8 (xs.getD 1 0), .int .u8 (xs.getD 2 0), .int .u8 (xs.getD 3 0), .int .u8 (xs.getD 9 0), .int .u32 (beN ((xs.drop 16).take 4)), .int .u32 (wj xs j 0), .int .u32 (wj xs j 1), .int .u32 (wj xs j 2), .int .u32 (wj xs j 3), .int .u32 (wj xs j 4), .int .u32 (wj xs j 5), .int .u32 (wj xs j 6), .slice none 0 0]⟩⟩, ⟨some b6, true, ⟨true, 26, [.int .u8 0, .int .u8 0, .int .u8 0, .int .u8 0, .int .u8 0, .int .u32 0, .int .u32 0, .int .u32 0, .int .u32 0, .int .u32 0, .int .u32 0, .int .u32 0, .int .u32 0, .slice none 0 0]⟩⟩]) (7 - 0) ⟨0, rfl, by omega, rfl, (st.sel [0, 1] (by decide))⟩ [15, 137, 138, 139, 140, 141, 142, 143, 144, 145, 146, 147, 148, 149] (by decide) ?_
           rintro m t1 H1 hk hI
           obtain ⟨j, rfl, hj, ht15, st⟩ := hI
           obtain ⟨u, rfl⟩ : ∃ u, t1 = (upd (mix [15, 137, 138, 139, 140, 141, 142, 143, 144, 145, 146, 147, 148, 149] _ u) (some 15) _) := ⟨t1, by rw [← hk, upd_self ht15]⟩
           clear hk ht15
           show AWl _ _ _ _ _
           iterate 2 refine aN rfl rfl (by constructor) ?_
           refine sE ?_
           show AW _ (.cond _ _ _) _ _ _
           refine cC' rfl (fun h35 => ?_) (fun h35 => ?_)
           ·have h35q := h35; try simp only [decide_eq_true_eq, decide_eq_false_iff_not, beq_iff_eq, beq_eq_false_iff_ne, bne_iff_ne, bne_eq_false_iff_eq, ne_eq, Decidable.not_not, Bool.not_eq_true, Bool.not_eq_false, gt_iff_lt, ge_iff_le, Int.not_lt, Int.not_le] at h35q
            have hlt : j < 7 := by have := of_decide_eq_true h35; omega
            show AWl _ _ _ _ _
            refine aN rfl rfl (by constructor) ?_
            refine aMovV x rfl ?_
            iterate 3 refine aN rfl rfl (by constructor) ?_
            refine aC (rnum_call (st.slc hx) hb (by omega) (by first | omega | (rw [wi (4 * (j : Int)) (by omega), wi _ (by omega)]; omega))) fun v146 H36 ⟨hv, st1⟩ => ?_
            subst hv
            replace st := st.call st1 rfl
            clear st1
            refine aN rfl rfl (by constructor) ?_
            rw [wi (4 * (j : Int)) (by omega), wi (20 + 4 * (j : Int)) (by omega), show (20 + 4 * (j : Int)) = ((20 + 4 * j : Nat) : Int) by omega, w_conv hb (by omega)]
            refine aN rfl rfl (by constructor) ?_
            refine aIxA rfl rfl (by omega) ?_
            refine aStAt st 0 rfl rfl rfl rfl rfl (by simp; omega) (row_set hlt) fun H37 st => ?_
            refine sE ?_
            show AWl _ _ _ _ _
            iterate 3 refine aN rfl rfl (by constructor) ?_
            refine sE ?_
            exact ⟨_, by omega, j + 1, rfl, by omega, congrArg (Value.int .i64) (wi _ (by omega)), (st.sel [0, 1] (by decide))⟩
           ·have h35q := h35; try simp only [decide_eq_true_eq, decide_eq_false_iff_not, beq_iff_eq, beq_eq_false_iff_ne, bne_iff_ne, bne_eq_false_iff_eq, ne_eq, Decidable.not_not, Bool.not_eq_true, Bool.not_eq_false, gt_iff_lt, ge_iff_le, Int.not_lt, Int.not_le] at h35q
            have hge : j = 7 := by have := of_decide_eq_false h35; omega
            subst hge
            show AWp _ _ _ _ _
            refine aN rfl rfl (by constructor) ?_
            refine aLd st 0 rfl rfl rfl (by constructor) ?_
            refine aMovV x rfl ?_
            iterate 3 refine aN rfl rfl (by constructor) ?_
            refine aBinV (.int .i64 ((52 + nOf xs : Nat) : Int)) (u := .int .i64 52) (u' := .int .i64 (nOf xs : Int)) rfl rfl (congrArg (fun z => some (Value.int .i64 z)) (by rw [wi _ (by omega)]; omega)) ?_
            refine aCutLH (st.slc hx) rfl rfl rfl (by omega) fun v157 s157 => ?_
            replace s157 := s157 _ hx
            replace s157 : Sl H 1 (nOf xs) (((xs.drop 52).take (nOf xs)).map (Value.int .u8)) v157 := by have e : ((52 + nOf xs : Nat) : Int).toNat - (52 : Int).toNat = nOf xs := (by omega); rw [e] at s157; exact s157
            refine ⟨?_, trivial⟩
            have st := st.nil 5
            have hnil : (Value.slice none 0 0) = accV none 0 1 := rfl
            refine aApp st 0 (ob := none) (n := 0) rfl rfl rfl (by decide) (rfl) (st.slc s157).src (by rw [List.length_map, List.length_take, List.length_drop]; omega) (by omega) (by omega) fun b158 H38 hp158 st => ?_
            rw [show 0 + nOf xs = nOf xs from Nat.zero_add _]
            rw [List.nil_append] at st
            refine ⟨trivial, ?_⟩
            refine aN rfl rfl (by constructor) ?_
            refine ⟨?_, trivial⟩
            refine aStAt st 1 rfl rfl rfl (by cases b158 <;> rfl) (by cases b158 <;> rfl) (by simp) (cs := [.int .u8 (xs.getD 0 0), .int .u8 (xs.getD 1 0), .int .u8 (xs.getD 2 0), .int .u8 (xs.getD 3 0), .int .u8 (xs.getD 9 0), .int .u32 (beN ((xs.drop 16).take 4)), .int .u32 (wj xs 7 0), .int .u32 (wj xs 7 1), .int .u32 (wj xs 7 2), .int .u32 (wj xs 7 3), .int .u32 (wj xs 7 4), .int .u32 (wj xs 7 5), .int .u32 (wj xs 7 6), accV b158 (nOf xs) 1]) rfl fun H39 st => ?_
            refine ⟨trivial, ?_⟩
            refine pE ?_
            show AWl _ _ _ _ _
            refine aLdAll st 1 rfl rfl (rfl) ?_
            refine aN rfl rfl (by constructor) ?_
            refine aStAllA st 2 rfl rfl rfl (rfl) (rfl) fun H40 st => ?_
            iterate 2 refine aN rfl rfl (by constructor) ?_
            refine sE ?_
            refine ⟨_, out3 (r_cellA st 2 rfl rfl (by first | decide | simp [*]) (by repeat constructor)) (r_tmp rfl (by constructor)) (r_tmp rfl (by constructor)) ⟨rfl, rfl, rfl⟩, ?_⟩
            have he := e_0 (d := false) hat (fun hc => hc.2 (of_decide_eq_true h5n)) hc3 hend (fun hc => by cases hc.1.1) hzr
            obtain ⟨hP, hN⟩ := decP_yes he
            have hdl : (decD xs true).data.length = nOf xs := by show (((xs.drop 52).take (nOf xs)) : List Int).length = _; rw [List.length_take, List.length_drop]; omega
            refine ⟨b158, ?_, ?_⟩
            ·rw [he, hP, hN, hdl, hE]; rfl
            ·rw [hP]; exact st.pick 0 rfl
theorem rdec_call_ft {H : Hp} {xs : List Int} {x : Value} (hx : Sl H 1 xs.length (xs.map (Value.int .u8)) x) (hb : ByteL xs) (hl : xs.length ≤ 140737488351232) :
  ACalls Try.prog 14 [x, .bool false, .bool true] H (fun v H' => ∃ ob, v = .tuple #[.agg #[.int .u8 (decP xs false true).op, .int .u8 (decP xs false true).fl, .int .u8 (decP xs false true).res, .int .u8 (decP xs false true).st, .int .u8 (decP xs false true).lun, .int .u32 (decP xs false true).tag, .int .u32 (decP xs false true).w0, .int .u32 (decP xs false true).w1, .int .u32 (decP xs false true).w2, .int .u32 (decP xs false true).w3, .int .u32 (decP xs false true).w4, .int .u32 (decP xs false true).w5, .int .u32 (decP xs false true).w6, accV ob (decP xs false true).data.length 1], .int .i64 (decN xs false true), .int .i64 (decE xs false true)] ∧ Stt [] H H' [⟨ob, true, ⟨true, 5, (decP xs false true).data.map (Value.int .u8)⟩⟩]) := by
 refine acallsW Try.func14 f14_ok (Nat.le_of_ble_eq_true rfl) fun hw => ?_
 have st : Stt [] H H [] := Stt.start hw
 unfold f14c
 show AWl _ _ _ _ _
 refine aNewP st rfl rfl (by repeat constructor) fun b6 H1 st => ?_
 iterate 2 refine aN rfl rfl (by constructor) ?_
 refine sE ?_
 show AWl _ _ _ _ _
 refine aN rfl rfl (by constructor) ?_
 refine sE ?_
 show AWl _ _ _ _ _
 refine aN rfl rfl (by constructor) ?_
 refine sE ?_
 show AW _ (.cond _ _ _) _ _ _
 refine cF' rfl ?_
 show AWl _ _ _ _ _
 refine aMovV x rfl ?_
 refine aLen (st.slc hx) rfl ?_
 iterate 2 refine aN rfl rfl (by constructor) ?_
 refine sE ?_
 show AW _ (.cond _ _ _) _ _ _
 refine cC' rfl (fun h2 => ?_) (fun h2 => ?_)
 ·have h2q := h2; try simp only [decide_eq_true_eq, decide_eq_false_iff_not, beq_iff_eq, beq_eq_false_iff_ne, bne_iff_ne, bne_eq_false_iff_eq, ne_eq, Decidable.not_not, Bool.not_eq_true, Bool.not_eq_false, gt_iff_lt, ge_iff_le, Int.not_lt, Int.not_le] at h2q
  have hat : (xs.length < atN false) := by have := of_decide_eq_true h2; show (xs.length < 48); omega
  have hat2 : xs.length < 48 := by have : atN false = 48 := rfl; omega
  show AWl _ _ _ _ _
  refine aBld rfl (by repeat constructor) ?_
  refine aSt st 0 rfl rfl rfl rfl (by first | rfl | simp [cellsOf, *]) (by first | decide | (simp [*]; done) | (simp [k8]; done)) (by repeat constructor) fun H3 st => ?_
  iterate 2 refine aN rfl rfl (by constructor) ?_
  refine sE ?_
  refine ⟨_, out3 (r_cellA st 0 rfl rfl (by first | decide | simp [*]) (by repeat constructor)) (r_tmp rfl (by constructor)) (r_tmp rfl (by constructor)) ⟨rfl, rfl, rfl⟩, ?_⟩
  have he := e_8 (d := true) hat
  obtain ⟨hP, hN⟩ := decP_no he (by decide)
  exact ⟨none, by rw [he, hP, hN]; rfl, by rw [hP]; exact (st.nil 5).pick 0 rfl⟩
 ·have h2q := h2; try simp only [decide_eq_true_eq, decide_eq_false_iff_not, beq_iff_eq, beq_eq_false_iff_ne, bne_iff_ne, bne_eq_false_iff_eq, ne_eq, Decidable.not_not, Bool.not_eq_true, Bool.not_eq_false, gt_iff_lt, ge_iff_le, Int.not_lt, Int.not_le] at h2q
  have hat : ¬ (xs.length < atN false) := by have := of_decide_eq_false h2; show ¬ (xs.length < 48); omega
  have hat2 : 48 ≤ xs.length := by have : atN false = 48 := rfl; omega
  show AWp _ _ _ _ _
  iterate 2 refine aN rfl rfl (by constructor) ?_
  refine gF rfl (by decide) ?_
  refine gF rfl (by decide) ?_
  refine gF rfl (by decide) ?_
  refine gF rfl (by decide) ?_
  refine gF rfl (by decide) ?_
  refine ⟨gF rfl (by decide) ?_, trivial⟩
  refine ⟨⟨⟨some false, .bool false, rfl⟩, trivial⟩, ?_⟩
  refine gF rfl (by decide) ?_
  refine gF rfl (by decide) ?_
  refine aN rfl rfl (by constructor) ?_
  refine pE ?_
  show AW _ (.cond _ _ _) _ _ _
  refine cF' rfl ?_
  show AWl _ _ _ _ _
  refine aMovV x rfl ?_
  refine aC (rnum_call (st.slc hx) hb (by omega) (by first | omega | (rw [wi (4 * (j : Int)) (by omega), wi _ (by omega)]; omega))) fun v35 H4 ⟨hv, st1⟩ => ?_
  subst hv
  replace st := st.call st1 rfl
  clear st1
  refine aN rfl rfl (by constructor) ?_
  rw [n_conv hb (by omega)]
  have hn24 := nOf_lt hb
  refine aN rfl rfl (by constructor) ?_
  refine sE ?_
  show AWl _ _ _ _ _
  iterate 3 refine aN rfl rfl (by constructor) ?_
  refine gCase 39 rfl (fun h5 => ?_) (fun h5 => ?_)
  ·have h5q := h5; try simp only [decide_eq_true_eq, decide_eq_false_iff_not, beq_iff_eq, beq_eq_false_iff_ne, bne_iff_ne, bne_eq_false_iff_eq, ne_eq, Decidable.not_not, Bool.not_eq_true, Bool.not_eq_false, gt_iff_lt, ge_iff_le, Int.not_lt, Int.not_le] at h5q
   refine gF rfl (by decide) ?_
   refine gF rfl (by decide) ?_
   refine gF rfl (by decide) ?_
   refine gF rfl (by decide) ?_
   iterate 2 refine aN rfl rfl (by constructor) ?_
   refine gF rfl (by decide) ?_
   refine gF rfl (by decide) ?_
   refine gF rfl (by decide) ?_
   refine gF rfl (by decide) ?_
   iterate 2 refine aN rfl rfl (by constructor) ?_
   refine gF rfl (by decide) ?_
   refine gF rfl (by decide) ?_
   refine gF rfl (by decide) ?_
   refine aN rfl rfl (by constructor) ?_
   refine sE ?_
   show AW _ (.cond _ _ _) _ _ _
   refine cT rfl ?_
   show AWl _ _ _ _ _
   refine aBld rfl (by repeat constructor) ?_
   refine aSt st 0 rfl rfl rfl rfl (by first | rfl | simp [cellsOf, *]) (by first | decide | (simp [*]; done) | (simp [k8]; done)) (by repeat constructor) fun H6 st => ?_
   iterate 2 refine aN rfl rfl (by constructor) ?_
   refine sE ?_
   refine ⟨_, out3 (r_cellA st 0 rfl rfl (by first | decide | simp [*]) (by repeat constructor)) (r_tmp rfl (by constructor)) (r_tmp rfl (by constructor)) ⟨rfl, rfl, rfl⟩, ?_⟩
   have he := e_3 (d := true) hat (fun hc => by cases hc.1) (.inl (by omega))
   obtain ⟨hP, hN⟩ := decP_no he (by decide)
   exact ⟨none, by rw [he, hP, hN]; rfl, by rw [hP]; exact (st.nil 5).pick 0 rfl⟩
  ·have h5q := h5; try simp only [decide_eq_true_eq, decide_eq_false_iff_not, beq_iff_eq, beq_eq_false_iff_ne, bne_iff_ne, bne_eq_false_iff_eq, ne_eq, Decidable.not_not, Bool.not_eq_true, Bool.not_eq_false, gt_iff_lt, ge_iff_le, Int.not_lt, Int.not_le] at h5q
   refine gT rfl ?_
   refine aMovV x rfl ?_
   refine gT rfl ?_
   refine aIxBK (st.slc hx) rfl rfl (by omega) fun b41 o41 g41 => ?_
   refine gT rfl ?_
   refine aLdG rfl (g41 _ (st.slc hx)) ?_
   refine gT rfl ?_
   iterate 3 refine aN rfl rfl (by constructor) ?_
   refine gCase 45 rfl (fun h7 => ?_) (fun h7 => ?_)
   ·have h7q := h7; try simp only [decide_eq_true_eq, decide_eq_false_iff_not, beq_iff_eq, beq_eq_false_iff_ne, bne_iff_ne, bne_eq_false_iff_eq, ne_eq, Decidable.not_not, Bool.not_eq_true, Bool.not_eq_false, gt_iff_lt, ge_iff_le, Int.not_lt, Int.not_le] at h7q
    refine gF rfl (by decide) ?_
    refine gF rfl (by decide) ?_
    refine gF rfl (by decide) ?_
    refine gF rfl (by decide) ?_
    iterate 2 refine aN rfl rfl (by constructor) ?_
    refine gF rfl (by decide) ?_
    refine gF rfl (by decide) ?_
    refine gF rfl (by decide) ?_
    refine aN rfl rfl (by constructor) ?_
    refine sE ?_
    show AW _ (.cond _ _ _) _ _ _
    refine cT rfl ?_
    show AWl _ _ _ _ _
    refine aBld rfl (by repeat constructor) ?_
    refine aSt st 0 rfl rfl rfl rfl (by first | rfl | simp [cellsOf, *]) (by first | decide | (simp [*]; done) | (simp [k8]; done)) (by repeat constructor) fun H8 st => ?_
    iterate 2 refine aN rfl rfl (by constructor) ?_
    refine sE ?_
    refine ⟨_, out3 (r_cellA st 0 rfl rfl (by first | decide | simp [*]) (by repeat constructor)) (r_tmp rfl (by constructor)) (r_tmp rfl (by constructor)) ⟨rfl, rfl, rfl⟩, ?_⟩
    have he := e_3 (d := true) hat (fun hc => by cases hc.1) (.inr fun hr => by have hq := (rsv_iff hb (by omega)).1 hr; first | exact h7q hq.1 | exact h7q hq.2.1 | exact h7q hq.2.2)
    obtain ⟨hP, hN⟩ := decP_no he (by decide)
    exact ⟨none, by rw [he, hP, hN]; rfl, by rw [hP]; exact (st.nil 5).pick 0 rfl⟩
   ·have h7q := h7; try simp only [decide_eq_true_eq, decide_eq_false_iff_not, beq_iff_eq, beq_eq_false_iff_ne, bne_iff_ne, bne_eq_false_iff_eq, ne_eq, Decidable.not_not, Bool.not_eq_true, Bool.not_eq_false, gt_iff_lt, ge_iff_le, Int.not_lt, Int.not_le] at h7q
    refine gT rfl ?_
    refine aMovV x rfl ?_
    refine gT rfl ?_
    refine aIxBK (st.slc hx) rfl rfl (by omega) fun b47 o47 g47 => ?_
    refine gT rfl ?_
    refine aLdG rfl (g47 _ (st.slc hx)) ?_
    refine gT rfl ?_
    iterate 3 refine aN rfl rfl (by constructor) ?_
    refine gCase 51 rfl (fun h9 => ?_) (fun h9 => ?_)
    ·have h9q := h9; try simp only [decide_eq_true_eq, decide_eq_false_iff_not, beq_iff_eq, beq_eq_false_iff_ne, bne_iff_ne, bne_eq_false_iff_eq, ne_eq, Decidable.not_not, Bool.not_eq_true, Bool.not_eq_false, gt_iff_lt, ge_iff_le, Int.not_lt, Int.not_le] at h9q
     refine gF rfl (by decide) ?_
     refine gF rfl (by decide) ?_
     refine gF rfl (by decide) ?_
     refine aN rfl rfl (by constructor) ?_
     refine sE ?_
     show AW _ (.cond _ _ _) _ _ _
     refine cT rfl ?_
     show AWl _ _ _ _ _
     refine aBld rfl (by repeat constructor) ?_
     refine aSt st 0 rfl rfl rfl rfl (by first | rfl | simp [cellsOf, *]) (by first | decide | (simp [*]; done) | (simp [k8]; done)) (by repeat constructor) fun H10 st => ?_
     iterate 2 refine aN rfl rfl (by constructor) ?_
     refine sE ?_
     refine ⟨_, out3 (r_cellA st 0 rfl rfl (by first | decide | simp [*]) (by repeat constructor)) (r_tmp rfl (by constructor)) (r_tmp rfl (by constructor)) ⟨rfl, rfl, rfl⟩, ?_⟩
     have he := e_3 (d := true) hat (fun hc => by cases hc.1) (.inr fun hr => by have hq := (rsv_iff hb (by omega)).1 hr; first | exact h9q hq.1 | exact h9q hq.2.1 | exact h9q hq.2.2)
     obtain ⟨hP, hN⟩ := decP_no he (by decide)
     exact ⟨none, by rw [he, hP, hN]; rfl, by rw [hP]; exact (st.nil 5).pick 0 rfl⟩
    ·have h9q := h9; try simp only [decide_eq_true_eq, decide_eq_false_iff_not, beq_iff_eq, beq_eq_false_iff_ne, bne_iff_ne, bne_eq_false_iff_eq, ne_eq, Decidable.not_not, Bool.not_eq_true, Bool.not_eq_false, gt_iff_lt, ge_iff_le, Int.not_lt, Int.not_le] at h9q
     refine gT rfl ?_
     refine aMovV x rfl ?_
     refine gT rfl ?_
     refine aC (rnum_call (st.slc hx) hb (by omega) (by first | omega | (rw [wi (4 * (j : Int)) (by omega), wi _ (by omega)]; omega))) fun v53 H11 ⟨hv, st1⟩ => ?_
     subst hv
     replace st := st.call st1 rfl
     clear st1
     refine gT rfl ?_
     iterate 2 refine aN rfl rfl (by constructor) ?_
     refine sE ?_
     show AW _ (.cond _ _ _) _ _ _
     refine cC' rfl (fun h12 => ?_) (fun h12 => ?_)
     ·have h12q := h12; try simp only [decide_eq_true_eq, decide_eq_false_iff_not, beq_iff_eq, beq_eq_false_iff_ne, bne_iff_ne, bne_eq_false_iff_eq, ne_eq, Decidable.not_not, Bool.not_eq_true, Bool.not_eq_false, gt_iff_lt, ge_iff_le, Int.not_lt, Int.not_le] at h12q
      show AWl _ _ _ _ _
      refine aBld rfl (by repeat constructor) ?_
      refine aSt st 0 rfl rfl rfl rfl (by first | rfl | simp [cellsOf, *]) (by first | decide | (simp [*]; done) | (simp [k8]; done)) (by repeat constructor) fun H13 st => ?_
      iterate 2 refine aN rfl rfl (by constructor) ?_
      refine sE ?_
      refine ⟨_, out3 (r_cellA st 0 rfl rfl (by first | decide | simp [*]) (by repeat constructor)) (r_tmp rfl (by constructor)) (r_tmp rfl (by constructor)) ⟨rfl, rfl, rfl⟩, ?_⟩
      have he := e_3 (d := true) hat (fun hc => by cases hc.1) (.inr fun hr => by have hq := (rsv_iff hb (by omega)).1 hr; first | exact h12q hq.1 | exact h12q hq.2.1 | exact h12q hq.2.2)
      obtain ⟨hP, hN⟩ := decP_no he (by decide)
      exact ⟨none, by rw [he, hP, hN]; rfl, by rw [hP]; exact (st.nil 5).pick 0 rfl⟩
     ·have h12q := h12; try simp only [decide_eq_true_eq, decide_eq_false_iff_not, beq_iff_eq, beq_eq_false_iff_ne, bne_iff_ne, bne_eq_false_iff_eq, ne_eq, Decidable.not_not, Bool.not_eq_true, Bool.not_eq_false, gt_iff_lt, ge_iff_le, Int.not_lt, Int.not_le] at h12q
      show AWl _ _ _ _ _
      refine aN rfl rfl (by constructor) ?_
      have hrv : Rsv xs 8 := (rsv_iff hb (by omega)).2 ⟨by assumption, by assumption, by assumption⟩
      have hn8 : nOf xs ≤ 8192 := by omega
      have hc3 : ¬ (nOf xs > 8192 ∨ ¬ Rsv xs 8) := fun hc => hc.elim (fun h => by omega) (fun h => h hrv)
      have hm := mOf_le xs
      have hpl := padN_le (nOf xs)
      have hmd : mOf xs = nOf xs + padN (nOf xs) := rfl
      refine aN rfl rfl (by constructor) ?_
      refine sE ?_
      show AW _ (.loop _) _ _ _
      refine AW_loopN (fun m t1 H1 => ∃ (k : Nat), m = padN (nOf xs) - k ∧ (k ≤ padN (nOf xs)) ∧ t1 11 = .int .i64 ((nOf xs + k : Nat) : Int) ∧ Stt [] H H1 [⟨some b6, true, ⟨true, 26, [.int .u8 0, .int .u8 0, .int .u8 0, .int .u8 0, .int .u8 0, .int .u32 0, .int .u32 0, .int .u32 0, .int .u32 0, .int .u32 0, .int .u32 0, .int .u32 0, .int .u32 0, .slice none 0 0]⟩⟩]) (padN (nOf xs) - 0) ⟨0, rfl, Nat.zero_le _, rfl, (st.sel [0] (by decide))⟩ [11, 58, 59, 60, 61, 62] (by decide) ?_
      rintro m t1 H1 hk hI
      obtain ⟨k, rfl, hkp, ht11, st⟩ := hI
      obtain ⟨u, rfl⟩ : ∃ u, t1 = (upd (mix [11, 58, 59, 60, 61, 62] _ u) (some 11) _) := ⟨t1, by rw [← hk, upd_self ht11]⟩
      clear hk ht11
      show AWl _ _ _ _ _
      iterate 3 refine aN rfl rfl (by constructor) ?_
      refine sE ?_
      show AW _ (.cond _ _ _) _ _ _
      refine cC' rfl (fun h14 => ?_) (fun h14 => ?_)
      ·have h14q := h14; try simp only [decide_eq_true_eq, decide_eq_false_iff_not, beq_iff_eq, beq_eq_false_iff_ne, bne_iff_ne, bne_eq_false_iff_eq, ne_eq, Decidable.not_not, Bool.not_eq_true, Bool.not_eq_false, gt_iff_lt, ge_iff_le, Int.not_lt, Int.not_le] at h14q
       have hr : ((nOf xs + k : Nat) : Int).tmod 4 ≠ 0 := by simpa using h14
       rw [Int.tmod_eq_emod_of_nonneg (by omega)] at hr
       have hk : k < padN (nOf xs) := by unfold padN at *; omega
       show AWl _ _ _ _ _
       iterate 3 refine aN rfl rfl (by constructor) ?_
       refine sE ?_
       exact ⟨_, by omega, k + 1, rfl, by omega, congrArg (Value.int .i64) (by rw [wi _ (by omega)]; omega), (st.sel [0] (by decide))⟩
      ·have h14q := h14; try simp only [decide_eq_true_eq, decide_eq_false_iff_not, beq_iff_eq, beq_eq_false_iff_ne, bne_iff_ne, bne_eq_false_iff_eq, ne_eq, Decidable.not_not, Bool.not_eq_true, Bool.not_eq_false, gt_iff_lt, ge_iff_le, Int.not_lt, Int.not_le] at h14q
       have hr : ((nOf xs + k : Nat) : Int).tmod 4 = 0 := by simpa using h14
       rw [Int.tmod_eq_emod_of_nonneg (by omega)] at hr
       have hk : k = padN (nOf xs) := by unfold padN at *; omega
       subst hk
       rw [show nOf xs + padN (nOf xs) = mOf xs from rfl]
       show AWl _ _ _ _ _
       iterate 2 refine aN rfl rfl (by constructor) ?_
       refine aBinV (.int .i64 ((48 + mOf xs : Nat) : Int)) (u := .int .i64 48) (u' := .int .i64 (mOf xs : Int)) rfl rfl (congrArg (fun z => some (Value.int .i64 z)) (by rw [wi _ (by omega)]; omega)) ?_
       refine aN rfl rfl (by constructor) ?_
       refine sE ?_
       show AWl _ _ _ _ _
       iterate 2 refine aN rfl rfl (by constructor) ?_
       refine gT rfl ?_
       refine aN rfl rfl (by constructor) ?_
       refine gT rfl ?_
       iterate 2 refine aN rfl rfl (by constructor) ?_
       refine sE ?_
       show AW _ (.cond _ _ _) _ _ _
       refine cC' rfl (fun h15 => ?_) (fun h15 => ?_)
       ·have h15q := h15; try simp only [decide_eq_true_eq, decide_eq_false_iff_not, beq_iff_eq, beq_eq_false_iff_ne, bne_iff_ne, bne_eq_false_iff_eq, ne_eq, Decidable.not_not, Bool.not_eq_true, Bool.not_eq_false, gt_iff_lt, ge_iff_le, Int.not_lt, Int.not_le] at h15q
        show AWl _ _ _ _ _
        refine aN rfl rfl (by constructor) ?_
        refine aBinV (.int .i64 ((48 + mOf xs + 4 : Nat) : Int)) (u := .int .i64 ((48 + mOf xs : Nat) : Int)) (u' := .int .i64 4) rfl rfl (congrArg (fun z => some (Value.int .i64 z)) (by rw [wi _ (by omega)]; omega)) ?_
        refine aN rfl rfl (by constructor) ?_
        refine sE ?_
        show AWl _ _ _ _ _
        refine aMovV x rfl ?_
        have hE : endN xs false true = 48 + mOf xs + 4 := by unfold endN; rw [if_pos ⟨rfl, by omega⟩]; rfl
        refine aLen (st.slc hx) rfl ?_
        iterate 2 refine aN rfl rfl (by constructor) ?_
        refine sE ?_
        show AW _ (.cond _ _ _) _ _ _
        refine cC' rfl (fun h16 => ?_) (fun h16 => ?_)
        ·have h16q := h16; try simp only [decide_eq_true_eq, decide_eq_false_iff_not, beq_iff_eq, beq_eq_false_iff_ne, bne_iff_ne, bne_eq_false_iff_eq, ne_eq, Decidable.not_not, Bool.not_eq_true, Bool.not_eq_false, gt_iff_lt, ge_iff_le, Int.not_lt, Int.not_le] at h16q
         have hend : (xs.length < endN xs false true) := by have := of_decide_eq_true h16; rw [hE]; omega
         show AWl _ _ _ _ _
         refine aBld rfl (by repeat constructor) ?_
         refine aSt st 0 rfl rfl rfl rfl (by first | rfl | simp [cellsOf, *]) (by first | decide | (simp [*]; done) | (simp [k8]; done)) (by repeat constructor) fun H17 st => ?_
         iterate 2 refine aN rfl rfl (by constructor) ?_
         refine sE ?_
         refine ⟨_, out3 (r_cellA st 0 rfl rfl (by first | decide | simp [*]) (by repeat constructor)) (r_tmp rfl (by constructor)) (r_tmp rfl (by constructor)) ⟨rfl, rfl, rfl⟩, ?_⟩
         have he := e_8' (d := true) hat (fun hc => by cases hc.1) hc3 hend
         obtain ⟨hP, hN⟩ := decP_no he (by decide)
         exact ⟨none, by rw [he, hP, hN]; rfl, by rw [hP]; exact (st.nil 5).pick 0 rfl⟩
        ·have h16q := h16; try simp only [decide_eq_true_eq, decide_eq_false_iff_not, beq_iff_eq, beq_eq_false_iff_ne, bne_iff_ne, bne_eq_false_iff_eq, ne_eq, Decidable.not_not, Bool.not_eq_true, Bool.not_eq_false, gt_iff_lt, ge_iff_le, Int.not_lt, Int.not_le] at h16q
         have hend : ¬ (xs.length < endN xs false true) := by have := of_decide_eq_false h16; rw [hE]; omega
         show AWp _ _ _ _ _
         iterate 2 refine aN rfl rfl (by constructor) ?_
         refine gT rfl ?_
         refine aN rfl rfl (by constructor) ?_
         refine gT rfl ?_
         iterate 2 refine aN rfl rfl (by constructor) ?_
         refine aMovV (.bool true) (congrArg Value.bool h15) ?_
         refine gT rfl ?_
         refine aMovV x rfl ?_
         refine gT rfl ?_
         refine aN rfl rfl (by constructor) ?_
         refine gT rfl ?_
         refine aN rfl rfl (by constructor) ?_
         refine gT rfl ?_
         refine aBinV (.int .i64 ((48 + mOf xs : Nat) : Int)) (u := .int .i64 48) (u' := .int .i64 (mOf xs : Int)) rfl rfl (congrArg (fun z => some (Value.int .i64 z)) (by rw [wi _ (by omega)]; omega)) ?_
         refine gT rfl ?_
         refine aN rfl rfl (by constructor) ?_
         refine gT rfl ?_
         refine aCutLH (st.slc hx) rfl rfl rfl (by omega) fun v89 s89 => ?_
         replace s89 := s89 _ hx
         replace s89 : Sl H 1 4 (((xs.drop (48 + (mOf xs))).take 4).map (Value.int .u8)) v89 := by have e : ((48 + mOf xs + 4 : Nat) : Int).toNat - ((48 + mOf xs : Nat) : Int).toNat = 4 := (by omega); rw [e] at s89; exact s89
         refine gT rfl ?_
         refine aText (st.slc s89) rfl ?_
         refine gT rfl ?_
         refine aMovV x rfl ?_
         refine gT rfl ?_
         refine aN rfl rfl (by constructor) ?_
         refine gT rfl ?_
         refine aN rfl rfl (by constructor) ?_
         refine gT rfl ?_
         refine aN rfl rfl (by constructor) ?_
         refine gT rfl ?_
         refine aBinV (.int .i64 ((48 + mOf xs : Nat) : Int)) (u := .int .i64 48) (u' := .int .i64 (mOf xs : Int)) rfl rfl (congrArg (fun z => some (Value.int .i64 z)) (by rw [wi _ (by omega)]; omega)) ?_
         refine gT rfl ?_
         refine aCutLH (st.slc hx) rfl rfl rfl (by omega) fun v96 s96 => ?_
         replace s96 := s96 _ hx
         replace s96 : Sl H 1 ((xs.drop 48).take (mOf xs)).length (((xs.drop 48).take (mOf xs)).map (Value.int .u8)) v96 := by rw [show ((xs.drop 48).take (mOf xs)).length = mOf xs by rw [List.length_take, List.length_drop]; omega]; have e : ((48 + mOf xs : Nat) : Int).toNat - (48 : Int).toNat = mOf xs := (by omega); rw [e] at s96; exact s96
         refine ⟨?_, trivial⟩
         refine gT rfl ?_
         refine aC (rsum_call (xs := (xs.drop 48).take (mOf xs)) (st.slc s96) ((hb.drop _).take _) (by simp only [List.length_take, List.length_drop]; omega)) fun v97 H18 ⟨b97, hv, st1⟩ => ?_
         subst hv
         replace st := st.call st1 rfl
         clear st1
         refine ⟨⟨⟨some true, .bool true, (h_Text (st.slc s89) rfl)⟩, trivial⟩, ?_⟩
         refine gT rfl ?_
         refine aText (st.rowAll 0 rfl (by simp [beB_len])) rfl ?_
         refine gT rfl ?_
         refine aBinV (.bool (!decide (beB 4 (c32 ((xs.drop 48).take (mOf xs))) = (xs.drop (48 + (mOf xs))).take 4))) (u := .string (ofInts ((xs.drop (48 + (mOf xs))).take 4))) (u' := .string (ofInts (beB 4 (c32 ((xs.drop 48).take (mOf xs)))))) rfl rfl (by show some (Value.bool (!((ofInts ((xs.drop (48 + (mOf xs))).take 4)).toList == (ofInts (beB 4 (c32 ((xs.drop 48).take (mOf xs))))).toList))) = _; rw [texts_beq' ((hb.drop _).take _) (beB_bytes _ _)]) ?_
         refine aN rfl rfl (by constructor) ?_
         refine pE ?_
         show AW _ (.cond _ _ _) _ _ _
         refine cC' rfl (fun h19 => ?_) (fun h19 => ?_)
         ·have h19q := h19; try simp only [decide_eq_true_eq, decide_eq_false_iff_not, beq_iff_eq, beq_eq_false_iff_ne, bne_iff_ne, bne_eq_false_iff_eq, ne_eq, Decidable.not_not, Bool.not_eq_true, Bool.not_eq_false, gt_iff_lt, ge_iff_le, Int.not_lt, Int.not_le] at h19q
          have h19n : decide (beB 4 (c32 ((xs.drop 48).take (mOf xs))) = (xs.drop (48 + (mOf xs))).take 4) = false := Eq.mp (Bool.not_eq_true' _) h19
          show AWl _ _ _ _ _
          refine aBld rfl (by repeat constructor) ?_
          refine aSt st 1 rfl rfl rfl rfl (by first | rfl | simp [cellsOf, *]) (by first | decide | (simp [*]; done) | (simp [k8]; done)) (by repeat constructor) fun H20 st => ?_
          iterate 2 refine aN rfl rfl (by constructor) ?_
          refine sE ?_
          refine ⟨_, out3 (r_cellA st 1 rfl rfl (by first | decide | simp [*]) (by repeat constructor)) (r_tmp rfl (by constructor)) (r_tmp rfl (by constructor)) ⟨rfl, rfl, rfl⟩, ?_⟩
          have he := e_5' (d := true) hat (fun hc => by cases hc.1) hc3 hend ⟨⟨rfl, by omega⟩, of_decide_eq_false h19n⟩
          obtain ⟨hP, hN⟩ := decP_no he (by decide)
          exact ⟨none, by rw [he, hP, hN]; rfl, by rw [hP]; exact (st.nil 5).pick 0 rfl⟩
         ·have h19q := h19; try simp only [decide_eq_true_eq, decide_eq_false_iff_not, beq_iff_eq, beq_eq_false_iff_ne, bne_iff_ne, bne_eq_false_iff_eq, ne_eq, Decidable.not_not, Bool.not_eq_true, Bool.not_eq_false, gt_iff_lt, ge_iff_le, Int.not_lt, Int.not_le] at h19q
          have h19n : decide (beB 4 (c32 ((xs.drop 48).take (mOf xs))) = (xs.drop (48 + (mOf xs))).take 4) = true := Eq.mp (Bool.not_eq_false' _) h19
          show AWl _ _ _ _ _
          iterate 2 refine aN rfl rfl (by constructor) ?_
          refine aBinV (.int .i64 ((48 + nOf xs : Nat) : Int)) (u := .int .i64 48) (u' := .int .i64 (nOf xs : Int)) rfl rfl (congrArg (fun z => some (Value.int .i64 z)) (by rw [wi _ (by omega)]; omega)) ?_
          refine aN rfl rfl (by constructor) ?_
          refine sE ?_
          show AW _ (.loop _) _ _ _
          refine AW_loopN (fun m t1 H1 => ∃ (j : Nat), m = padN (nOf xs) - j ∧ (j ≤ padN (nOf xs)) ∧ (Zer xs (48 + nOf xs) j) ∧ t1 13 = .int .i64 ((48 + nOf xs + j : Nat) : Int) ∧ Stt [] H H1 [⟨some b6, true, ⟨true, 26, [.int .u8 0, .int .u8 0, .int .u8 0, .int .u8 0, .int .u8 0, .int .u32 0, .int .u32 0, .int .u32 0, .int .u32 0, .int .u32 0, .int .u32 0, .int .u32 0, .int .u32 0, .slice none 0 0]⟩⟩]) (padN (nOf xs) - 0) ⟨0, rfl, by omega, fun i hi => by omega, rfl, (st.sel [1] (by decide))⟩ [7, 8, 13, 105, 106, 107, 108, 109, 110, 111, 112, 113, 114, 115, 116, 117] (by decide) ?_
          rintro m t1 H1 hk hI
          obtain ⟨j, rfl, hj, hzr, ht13, st⟩ := hI
          obtain ⟨u, rfl⟩ : ∃ u, t1 = (upd (mix [7, 8, 13, 105, 106, 107, 108, 109, 110, 111, 112, 113, 114, 115, 116, 117] _ u) (some 13) _) := ⟨t1, by rw [← hk, upd_self ht13]⟩
          clear hk ht13
          show AWl _ _ _ _ _
          iterate 3 refine aN rfl rfl (by constructor) ?_
          refine aBinV (.int .i64 ((48 + mOf xs : Nat) : Int)) (u := .int .i64 48) (u' := .int .i64 (mOf xs : Int)) rfl rfl (congrArg (fun z => some (Value.int .i64 z)) (by rw [wi _ (by omega)]; omega)) ?_
          refine aN rfl rfl (by constructor) ?_
          refine sE ?_
          show AW _ (.cond _ _ _) _ _ _
          refine cC' rfl (fun h21 => ?_) (fun h21 => ?_)
          ·have h21q := h21; try simp only [decide_eq_true_eq, decide_eq_false_iff_not, beq_iff_eq, beq_eq_false_iff_ne, bne_iff_ne, bne_eq_false_iff_eq, ne_eq, Decidable.not_not, Bool.not_eq_true, Bool.not_eq_false, gt_iff_lt, ge_iff_le, Int.not_lt, Int.not_le] at h21q
           have hlt : j < padN (nOf xs) := by have := of_decide_eq_true h21; omega
           show AWl _ _ _ _ _
           refine aMovV x rfl ?_
           refine aN rfl rfl (by constructor) ?_
           refine aIxBK (st.slc hx) rfl rfl (by omega) fun b114 o114 g114 => ?_
           refine aLdG rfl (g114 _ (st.slc hx)) ?_
           refine aN rfl rfl (by constructor) ?_
           refine sE ?_
           show AW _ (.cond _ _ _) _ _ _
           refine cC' rfl (fun h22 => ?_) (fun h22 => ?_)
           ·have h22q := h22; try simp only [decide_eq_true_eq, decide_eq_false_iff_not, beq_iff_eq, beq_eq_false_iff_ne, bne_iff_ne, bne_eq_false_iff_eq, ne_eq, Decidable.not_not, Bool.not_eq_true, Bool.not_eq_false, gt_iff_lt, ge_iff_le, Int.not_lt, Int.not_le] at h22q
            have hz0 : xs.getD (48 + nOf xs + j) 0 ≠ 0 := by have hq := h22; rw [show (((48 + nOf xs + j : Nat) : Int)).toNat = 48 + nOf xs + j from rfl] at hq; simpa using hq
            show AWl _ _ _ _ _
            refine aBld rfl (by repeat constructor) ?_
            refine aSt st 0 rfl rfl rfl rfl (by first | rfl | simp [cellsOf, *]) (by first | decide | (simp [*]; done) | (simp [k8]; done)) (by repeat constructor) fun H23 st => ?_
            iterate 2 refine aN rfl rfl (by constructor) ?_
            refine sE ?_
            refine ⟨_, out3 (r_cellA st 0 rfl rfl (by first | decide | simp [*]) (by repeat constructor)) (r_tmp rfl (by constructor)) (r_tmp rfl (by constructor)) ⟨rfl, rfl, rfl⟩, ?_⟩
            have he := e_3' (d := true) hat (fun hc => by cases hc.1) hc3 hend (fun hc => hc.2 (of_decide_eq_true h19n)) (fun hz => hz0 (hz j hlt))
            obtain ⟨hP, hN⟩ := decP_no he (by decide)
            exact ⟨none, by rw [he, hP, hN]; rfl, by rw [hP]; exact (st.nil 5).pick 0 rfl⟩
           ·have h22q := h22; try simp only [decide_eq_true_eq, decide_eq_false_iff_not, beq_iff_eq, beq_eq_false_iff_ne, bne_iff_ne, bne_eq_false_iff_eq, ne_eq, Decidable.not_not, Bool.not_eq_true, Bool.not_eq_false, gt_iff_lt, ge_iff_le, Int.not_lt, Int.not_le] at h22q
            have hz0 : xs.getD (48 + nOf xs + j) 0 = 0 := by have hq := h22; rw [show (((48 + nOf xs + j : Nat) : Int)).toNat = 48 + nOf xs + j from rfl] at hq; simpa using hq
            show AWl _ _ _ _ _
            iterate 3 refine aN rfl rfl (by constructor) ?_
            refine sE ?_
            exact ⟨_, by omega, j + 1, rfl, by omega, hzr.step hz0, congrArg (Value.int .i64) (by rw [wi _ (by omega)]; omega), (st.sel [0] (by decide))⟩
          ·have h21q := h21; try simp only [decide_eq_true_eq, decide_eq_false_iff_not, beq_iff_eq, beq_eq_false_iff_ne, bne_iff_ne, bne_eq_false_iff_eq, ne_eq, Decidable.not_not, Bool.not_eq_true, Bool.not_eq_false, gt_iff_lt, ge_iff_le, Int.not_lt, Int.not_le] at h21q
           have hge : j = padN (nOf xs) := by have := of_decide_eq_false h21; omega
           subst hge
           show AWp _ _ _ _ _
           refine aMovV x rfl ?_
           refine aIxBK (st.slc hx) rfl rfl (by omega) fun b119 o119 g119 => ?_
           refine aLdG rfl (g119 _ (st.slc hx)) ?_
           refine aMovV x rfl ?_
           refine aIxBK (st.slc hx) rfl rfl (by omega) fun b122 o122 g122 => ?_
           refine aLdG rfl (g122 _ (st.slc hx)) ?_
           refine aMovV x rfl ?_
           refine aIxBK (st.slc hx) rfl rfl (by omega) fun b125 o125 g125 => ?_
           refine aLdG rfl (g125 _ (st.slc hx)) ?_
           refine aMovV x rfl ?_
           refine aIxBK (st.slc hx) rfl rfl (by omega) fun b128 o128 g128 => ?_
           refine aLdG rfl (g128 _ (st.slc hx)) ?_
           refine aMovV x rfl ?_
           refine aIxBK (st.slc hx) rfl rfl (by omega) fun b131 o131 g131 => ?_
           refine aLdG rfl (g131 _ (st.slc hx)) ?_
           refine aMovV x rfl ?_
           refine ⟨?_, ?_⟩
           ·refine aC (rnum_call (st.slc hx) hb (by omega) (by first | omega | (rw [wi (4 * (j : Int)) (by omega), wi _ (by omega)]; omega))) fun v134 H24 ⟨hv, st1⟩ => ?_
            subst hv
            replace st := st.call st1 rfl
            clear st1
            refine ⟨⟨(h_LdG rfl (g131 _ (st.slc hx))), (h_LdG rfl (g128 _ (st.slc hx))), (h_LdG rfl (g125 _ (st.slc hx))), (h_LdG rfl (g122 _ (st.slc hx))), (h_LdG rfl (g119 _ (st.slc hx))), trivial⟩, ?_⟩
            refine aN rfl rfl (by constructor) ?_
            rw [show rgetV xs 16 4 = rgetV xs ((16 : Nat) : Int) 4 from rfl, w_conv hb (by omega)]
            refine aBld rfl (by repeat constructor) ?_
            refine ⟨?_, trivial⟩
            refine aNewP st rfl rfl (by repeat constructor) fun b14 H25 st => ?_
            refine ⟨⟨(h_LdG rfl (g131 _ (st.slc hx))), (h_LdG rfl (g128 _ (st.slc hx))), (h_LdG rfl (g125 _ (st.slc hx))), (h_LdG rfl (g122 _ (st.slc hx))), (h_LdG rfl (g119 _ (st.slc hx))), trivial⟩, ?_⟩
            refine ⟨?_, trivial⟩
            refine aSt st 0 rfl rfl rfl rfl (by first | rfl | simp [cellsOf, *]) (by first | decide | (simp [*]; done) | (simp [k8]; done)) (by repeat constructor) fun H26 st => ?_
            refine ⟨trivial, ?_⟩
            refine pE ?_
            show AWl _ _ _ _ _
            refine aN rfl rfl (by constructor) ?_
            refine sE ?_
            show AW _ (.loop _) _ _ _
            refine AW_loopN (fun m t1 H1 => ∃ (j : Nat), m = 7 - j ∧ (j ≤ 7) ∧ t1 15 = .int .i64 (j : Int) ∧ Stt [] H H1 [⟨some b14, true, ⟨true, 26, [.int .u8 (xs.getD 0 0), .int .u8 (xs.getD 1 0), .int .u8 (xs.getD 2 0), .int .u8 (xs.getD 3 0), .int .u8 (xs.getD 9 0), .int .u32 (beN ((xs.drop 16).take 4)), .int .u32 (wj xs j 0), .int .u32 (wj xs j 1), .int .u32 (wj xs j 2), .int .u32 (wj xs j 3), .int .u32 (wj xs j 4), .int .u32 (wj xs j 5), .int .u32 (wj xs j 6), .slice none 0 0]⟩⟩, ⟨some b6, true, ⟨true, 26, [.int .u8 0, .int .u8 0, .int .u8 0, .int .u8 0, .int .u8 0, .int .u32 0, .int .u32 0, .int .u32 0, .int .u32 0, .int .u32 0, .int .u32 0, .int .u32 0, .int .u32 0, .slice none 0 0]⟩⟩]) (7 - 0) ⟨0, rfl, by omega, rfl, (st.sel [0, 1] (by decide))⟩ [15, 137, 138, 139, 140, 141, 142, 143, 144, 145, 146, 147, 148, 149] (by decide) ?_
            rintro m t1 H1 hk hI
            obtain ⟨j, rfl, hj, ht15, st⟩ := hI
            obtain ⟨u, rfl⟩ : ∃ u, t1 = (upd (mix [15, 137, 138, 139, 140, 141, 142, 143, 144, 145, 146, 147, 148, 149] _ u) (some 15) _) := ⟨t1, by rw [← hk, upd_self ht15]⟩
            clear hk ht15
            show AWl _ _ _ _ _
            iterate 2 refine aN rfl rfl (by constructor) ?_
            refine sE ?_
            show AW _ (.cond _ _ _) _ _ _
            refine cC' rfl (fun h27 => ?_) (fun h27 => ?_)
            ·have h27q := h27; try simp only [decide_eq_true_eq, decide_eq_false_iff_not, beq_iff_eq, beq_eq_false_iff_ne, bne_iff_ne, bne_eq_false_iff_eq, ne_eq, Decidable.not_not, Bool.not_eq_true, Bool.not_eq_false, gt_iff_lt, ge_iff_le, Int.not_lt, Int.not_le] at h27q
             have hlt : j < 7 := by have := of_decide_eq_true h27; omega
             show AWl _ _ _ _ _
             refine aN rfl rfl (by constructor) ?_
             refine aMovV x rfl ?_
             iterate 3 refine aN rfl rfl (by constructor) ?_
             refine aC (rnum_call (st.slc hx) hb (by omega) (by first | omega | (rw [wi (4 * (j : Int)) (by omega), wi _ (by omega)]; omega))) fun v146 H28 ⟨hv, st1⟩ => ?_
             subst hv
             replace st := st.call st1 rfl
             clear st1
             refine aN rfl rfl (by constructor) ?_
             rw [wi (4 * (j : Int)) (by omega), wi (20 + 4 * (j : Int)) (by omega), show (20 + 4 * (j : Int)) = ((20 + 4 * j : Nat) : Int) by omega, w_conv hb (by omega)]
             refine aN rfl rfl (by constructor) ?_
             refine aIxA rfl rfl (by omega) ?_
             refine aStAt st 0 rfl rfl rfl rfl rfl (by simp; omega) (row_set hlt) fun H29 st => ?_
             refine sE ?_
             show AWl _ _ _ _ _
             iterate 3 refine aN rfl rfl (by constructor) ?_
             refine sE ?_
             exact ⟨_, by omega, j + 1, rfl, by omega, congrArg (Value.int .i64) (wi _ (by omega)), (st.sel [0, 1] (by decide))⟩
            ·have h27q := h27; try simp only [decide_eq_true_eq, decide_eq_false_iff_not, beq_iff_eq, beq_eq_false_iff_ne, bne_iff_ne, bne_eq_false_iff_eq, ne_eq, Decidable.not_not, Bool.not_eq_true, Bool.not_eq_false, gt_iff_lt, ge_iff_le, Int.not_lt, Int.not_le] at h27q
             have hge : j = 7 := by have := of_decide_eq_false h27; omega
             subst hge
             show AWp _ _ _ _ _
             refine aN rfl rfl (by constructor) ?_
             refine aLd st 0 rfl rfl rfl (by constructor) ?_
             refine aMovV x rfl ?_
             iterate 3 refine aN rfl rfl (by constructor) ?_
             refine aBinV (.int .i64 ((48 + nOf xs : Nat) : Int)) (u := .int .i64 48) (u' := .int .i64 (nOf xs : Int)) rfl rfl (congrArg (fun z => some (Value.int .i64 z)) (by rw [wi _ (by omega)]; omega)) ?_
             refine aCutLH (st.slc hx) rfl rfl rfl (by omega) fun v157 s157 => ?_
             replace s157 := s157 _ hx
             replace s157 : Sl H 1 (nOf xs) (((xs.drop 48).take (nOf xs)).map (Value.int .u8)) v157 := by have e : ((48 + nOf xs : Nat) : Int).toNat - (48 : Int).toNat = nOf xs := (by omega); rw [e] at s157; exact s157
             refine ⟨?_, trivial⟩
             have st := st.nil 5
             have hnil : (Value.slice none 0 0) = accV none 0 1 := rfl
             refine aApp st 0 (ob := none) (n := 0) rfl rfl rfl (by decide) (rfl) (st.slc s157).src (by rw [List.length_map, List.length_take, List.length_drop]; omega) (by omega) (by omega) fun b158 H30 hp158 st => ?_
             rw [show 0 + nOf xs = nOf xs from Nat.zero_add _]
             rw [List.nil_append] at st
             refine ⟨trivial, ?_⟩
             refine aN rfl rfl (by constructor) ?_
             refine ⟨?_, trivial⟩
             refine aStAt st 1 rfl rfl rfl (by cases b158 <;> rfl) (by cases b158 <;> rfl) (by simp) (cs := [.int .u8 (xs.getD 0 0), .int .u8 (xs.getD 1 0), .int .u8 (xs.getD 2 0), .int .u8 (xs.getD 3 0), .int .u8 (xs.getD 9 0), .int .u32 (beN ((xs.drop 16).take 4)), .int .u32 (wj xs 7 0), .int .u32 (wj xs 7 1), .int .u32 (wj xs 7 2), .int .u32 (wj xs 7 3), .int .u32 (wj xs 7 4), .int .u32 (wj xs 7 5), .int .u32 (wj xs 7 6), accV b158 (nOf xs) 1]) rfl fun H31 st => ?_
             refine ⟨trivial, ?_⟩
             refine pE ?_
             show AWl _ _ _ _ _
             refine aLdAll st 1 rfl rfl (rfl) ?_
             refine aN rfl rfl (by constructor) ?_
             refine aStAllA st 2 rfl rfl rfl (rfl) (rfl) fun H32 st => ?_
             iterate 2 refine aN rfl rfl (by constructor) ?_
             refine sE ?_
             refine ⟨_, out3 (r_cellA st 2 rfl rfl (by first | decide | simp [*]) (by repeat constructor)) (r_tmp rfl (by constructor)) (r_tmp rfl (by constructor)) ⟨rfl, rfl, rfl⟩, ?_⟩
             have he := e_0 (d := true) hat (fun hc => by cases hc.1) hc3 hend (fun hc => hc.2 (of_decide_eq_true h19n)) hzr
             obtain ⟨hP, hN⟩ := decP_yes he
             have hdl : (decD xs false).data.length = nOf xs := by show (((xs.drop 48).take (nOf xs)) : List Int).length = _; rw [List.length_take, List.length_drop]; omega
             refine ⟨b158, ?_, ?_⟩
             ·rw [he, hP, hN, hdl, hE]; rfl
             ·rw [hP]; exact st.pick 0 rfl
           ·refine ⟨?_, trivial⟩
            refine aNewP st rfl rfl (by repeat constructor) fun b14 H33 st => ?_
            refine ⟨⟨(h_LdG rfl (g131 _ (st.slc hx))), (h_LdG rfl (g128 _ (st.slc hx))), (h_LdG rfl (g125 _ (st.slc hx))), (h_LdG rfl (g122 _ (st.slc hx))), (h_LdG rfl (g119 _ (st.slc hx))), trivial⟩, ?_⟩
            refine ⟨?_, trivial⟩
            refine aC (rnum_call (st.slc hx) hb (by omega) (by first | omega | (rw [wi (4 * (j : Int)) (by omega), wi _ (by omega)]; omega))) fun v134 H34 ⟨hv, st1⟩ => ?_
            subst hv
            replace st := st.call st1 rfl
            clear st1
            refine ⟨⟨(h_LdG rfl (g131 _ (st.slc hx))), (h_LdG rfl (g128 _ (st.slc hx))), (h_LdG rfl (g125 _ (st.slc hx))), (h_LdG rfl (g122 _ (st.slc hx))), (h_LdG rfl (g119 _ (st.slc hx))), trivial⟩, ?_⟩
            refine aN rfl rfl (by constructor) ?_
            rw [show rgetV xs 16 4 = rgetV xs ((16 : Nat) : Int) 4 from rfl, w_conv hb (by omega)]
            refine aBld rfl (by repeat constructor) ?_
            refine ⟨?_, trivial⟩
            refine aSt st 0 rfl rfl rfl rfl (by first | rfl | simp [cellsOf, *]) (by first | decide | (simp [*]; done) | (simp [k8]; done)) (by repeat constructor) fun H35 st => ?_
            refine ⟨trivial, ?_⟩
            refine pE ?_
            show AWl _ _ _ _ _
            refine aN rfl rfl (by constructor) ?_
            refine sE ?_
            show AW _ (.loop _) _ _ _
            refine AW_loopN (fun m t1 H1 => ∃ (j : Nat), m = 7 - j ∧ (j ≤ 7) ∧ t1 15 = .int .i64 (j : Int) ∧ Stt [] H H1 [⟨some b14, true, ⟨true, 26, [.int .u8 (xs.getD 0 0), .int .u8 (xs.getD 1 0), .int .u8 (xs.getD 2 0), .int .u8 (xs.getD 3 0), .int .u8 (xs.getD 9 0), .int .u32 (beN ((xs.drop 16).take 4)), .int .u32 (wj xs j 0), .int .u32 (wj xs j 1), .int .u32 (wj xs j 2), .int .u32 (wj xs j 3), .int .u32 (wj xs j 4), .int .u32 (wj xs j 5), .int .u32 (wj xs j 6), .slice none 0 0]⟩⟩, ⟨some b6, true, ⟨true, 26, [.int .u8 0, .int .u8 0, .int .u8 0, .int .u8 0, .int .u8 0, .int .u32 0, .int .u32 0, .int .u32 0, .int .u32 0, .int .u32 0, .int .u32 0, .int .u32 0, .int .u32 0, .slice none 0 0]⟩⟩]) (7 - 0) ⟨0, rfl, by omega, rfl, (st.sel [0, 1] (by decide))⟩ [15, 137, 138, 139, 140, 141, 142, 143, 144, 145, 146, 147, 148, 149] (by decide) ?_
            rintro m t1 H1 hk hI
            obtain ⟨j, rfl, hj, ht15, st⟩ := hI
            obtain ⟨u, rfl⟩ : ∃ u, t1 = (upd (mix [15, 137, 138, 139, 140, 141, 142, 143, 144, 145, 146, 147, 148, 149] _ u) (some 15) _) := ⟨t1, by rw [← hk, upd_self ht15]⟩
            clear hk ht15
            show AWl _ _ _ _ _
            iterate 2 refine aN rfl rfl (by constructor) ?_
            refine sE ?_
            show AW _ (.cond _ _ _) _ _ _
            refine cC' rfl (fun h36 => ?_) (fun h36 => ?_)
            ·have h36q := h36; try simp only [decide_eq_true_eq, decide_eq_false_iff_not, beq_iff_eq, beq_eq_false_iff_ne, bne_iff_ne, bne_eq_false_iff_eq, ne_eq, Decidable.not_not, Bool.not_eq_true, Bool.not_eq_false, gt_iff_lt, ge_iff_le, Int.not_lt, Int.not_le] at h36q
             have hlt : j < 7 := by have := of_decide_eq_true h36; omega
             show AWl _ _ _ _ _
             refine aN rfl rfl (by constructor) ?_
             refine aMovV x rfl ?_
             iterate 3 refine aN rfl rfl (by constructor) ?_
             refine aC (rnum_call (st.slc hx) hb (by omega) (by first | omega | (rw [wi (4 * (j : Int)) (by omega), wi _ (by omega)]; omega))) fun v146 H37 ⟨hv, st1⟩ => ?_
             subst hv
             replace st := st.call st1 rfl
             clear st1
             refine aN rfl rfl (by constructor) ?_
             rw [wi (4 * (j : Int)) (by omega), wi (20 + 4 * (j : Int)) (by omega), show (20 + 4 * (j : Int)) = ((20 + 4 * j : Nat) : Int) by omega, w_conv hb (by omega)]
             refine aN rfl rfl (by constructor) ?_
             refine aIxA rfl rfl (by omega) ?_
             refine aStAt st 0 rfl rfl rfl rfl rfl (by simp; omega) (row_set hlt) fun H38 st => ?_
             refine sE ?_
             show AWl _ _ _ _ _
             iterate 3 refine aN rfl rfl (by constructor) ?_
             refine sE ?_
             exact ⟨_, by omega, j + 1, rfl, by omega, congrArg (Value.int .i64) (wi _ (by omega)), (st.sel [0, 1] (by decide))⟩
            ·have h36q := h36; try simp only [decide_eq_true_eq, decide_eq_false_iff_not, beq_iff_eq, beq_eq_false_iff_ne, bne_iff_ne, bne_eq_false_iff_eq, ne_eq, Decidable.not_not, Bool.not_eq_true, Bool.not_eq_false, gt_iff_lt, ge_iff_le, Int.not_lt, Int.not_le] at h36q
             have hge : j = 7 := by have := of_decide_eq_false h36; omega
             subst hge
             show AWp _ _ _ _ _
             refine aN rfl rfl (by constructor) ?_
             refine aLd st 0 rfl rfl rfl (by constructor) ?_
             refine aMovV x rfl ?_
             iterate 3 refine aN rfl rfl (by constructor) ?_
             refine aBinV (.int .i64 ((48 + nOf xs : Nat) : Int)) (u := .int .i64 48) (u' := .int .i64 (nOf xs : Int)) rfl rfl (congrArg (fun z => some (Value.int .i64 z)) (by rw [wi _ (by omega)]; omega)) ?_
             refine aCutLH (st.slc hx) rfl rfl rfl (by omega) fun v157 s157 => ?_
             replace s157 := s157 _ hx
             replace s157 : Sl H 1 (nOf xs) (((xs.drop 48).take (nOf xs)).map (Value.int .u8)) v157 := by have e : ((48 + nOf xs : Nat) : Int).toNat - (48 : Int).toNat = nOf xs := (by omega); rw [e] at s157; exact s157
             refine ⟨?_, trivial⟩
             have st := st.nil 5
             have hnil : (Value.slice none 0 0) = accV none 0 1 := rfl
             refine aApp st 0 (ob := none) (n := 0) rfl rfl rfl (by decide) (rfl) (st.slc s157).src (by rw [List.length_map, List.length_take, List.length_drop]; omega) (by omega) (by omega) fun b158 H39 hp158 st => ?_
             rw [show 0 + nOf xs = nOf xs from Nat.zero_add _]
             rw [List.nil_append] at st
             refine ⟨trivial, ?_⟩
             refine aN rfl rfl (by constructor) ?_
             refine ⟨?_, trivial⟩
             refine aStAt st 1 rfl rfl rfl (by cases b158 <;> rfl) (by cases b158 <;> rfl) (by simp) (cs := [.int .u8 (xs.getD 0 0), .int .u8 (xs.getD 1 0), .int .u8 (xs.getD 2 0), .int .u8 (xs.getD 3 0), .int .u8 (xs.getD 9 0), .int .u32 (beN ((xs.drop 16).take 4)), .int .u32 (wj xs 7 0), .int .u32 (wj xs 7 1), .int .u32 (wj xs 7 2), .int .u32 (wj xs 7 3), .int .u32 (wj xs 7 4), .int .u32 (wj xs 7 5), .int .u32 (wj xs 7 6), accV b158 (nOf xs) 1]) rfl fun H40 st => ?_
             refine ⟨trivial, ?_⟩
             refine pE ?_
             show AWl _ _ _ _ _
             refine aLdAll st 1 rfl rfl (rfl) ?_
             refine aN rfl rfl (by constructor) ?_
             refine aStAllA st 2 rfl rfl rfl (rfl) (rfl) fun H41 st => ?_
             iterate 2 refine aN rfl rfl (by constructor) ?_
             refine sE ?_
             refine ⟨_, out3 (r_cellA st 2 rfl rfl (by first | decide | simp [*]) (by repeat constructor)) (r_tmp rfl (by constructor)) (r_tmp rfl (by constructor)) ⟨rfl, rfl, rfl⟩, ?_⟩
             have he := e_0 (d := true) hat (fun hc => by cases hc.1) hc3 hend (fun hc => hc.2 (of_decide_eq_true h19n)) hzr
             obtain ⟨hP, hN⟩ := decP_yes he
             have hdl : (decD xs false).data.length = nOf xs := by show (((xs.drop 48).take (nOf xs)) : List Int).length = _; rw [List.length_take, List.length_drop]; omega
             refine ⟨b158, ?_, ?_⟩
             ·rw [he, hP, hN, hdl, hE]; rfl
             ·rw [hP]; exact st.pick 0 rfl
       ·have h15q := h15; try simp only [decide_eq_true_eq, decide_eq_false_iff_not, beq_iff_eq, beq_eq_false_iff_ne, bne_iff_ne, bne_eq_false_iff_eq, ne_eq, Decidable.not_not, Bool.not_eq_true, Bool.not_eq_false, gt_iff_lt, ge_iff_le, Int.not_lt, Int.not_le] at h15q
        show AWl _ _ _ _ _
        refine aMovV x rfl ?_
        have hE : endN xs false true = 48 + mOf xs + 0 := by unfold endN; rw [if_neg (fun hc => by omega)]; rfl
        refine aLen (st.slc hx) rfl ?_
        iterate 2 refine aN rfl rfl (by constructor) ?_
        refine sE ?_
        show AW _ (.cond _ _ _) _ _ _
        refine cC' rfl (fun h42 => ?_) (fun h42 => ?_)
        ·have h42q := h42; try simp only [decide_eq_true_eq, decide_eq_false_iff_not, beq_iff_eq, beq_eq_false_iff_ne, bne_iff_ne, bne_eq_false_iff_eq, ne_eq, Decidable.not_not, Bool.not_eq_true, Bool.not_eq_false, gt_iff_lt, ge_iff_le, Int.not_lt, Int.not_le] at h42q
         have hend : (xs.length < endN xs false true) := by have := of_decide_eq_true h42; rw [hE]; omega
         show AWl _ _ _ _ _
         refine aBld rfl (by repeat constructor) ?_
         refine aSt st 0 rfl rfl rfl rfl (by first | rfl | simp [cellsOf, *]) (by first | decide | (simp [*]; done) | (simp [k8]; done)) (by repeat constructor) fun H43 st => ?_
         iterate 2 refine aN rfl rfl (by constructor) ?_
         refine sE ?_
         refine ⟨_, out3 (r_cellA st 0 rfl rfl (by first | decide | simp [*]) (by repeat constructor)) (r_tmp rfl (by constructor)) (r_tmp rfl (by constructor)) ⟨rfl, rfl, rfl⟩, ?_⟩
         have he := e_8' (d := true) hat (fun hc => by cases hc.1) hc3 hend
         obtain ⟨hP, hN⟩ := decP_no he (by decide)
         exact ⟨none, by rw [he, hP, hN]; rfl, by rw [hP]; exact (st.nil 5).pick 0 rfl⟩
        ·have h42q := h42; try simp only [decide_eq_true_eq, decide_eq_false_iff_not, beq_iff_eq, beq_eq_false_iff_ne, bne_iff_ne, bne_eq_false_iff_eq, ne_eq, Decidable.not_not, Bool.not_eq_true, Bool.not_eq_false, gt_iff_lt, ge_iff_le, Int.not_lt, Int.not_le] at h42q
         have hend : ¬ (xs.length < endN xs false true) := by have := of_decide_eq_false h42; rw [hE]; omega
         show AWp _ _ _ _ _
         iterate 2 refine aN rfl rfl (by constructor) ?_
         refine gT rfl ?_
         refine aN rfl rfl (by constructor) ?_
         refine gT rfl ?_
         iterate 2 refine aN rfl rfl (by constructor) ?_
         refine aMovV (.bool false) (congrArg Value.bool h15) ?_
         refine gF rfl (by decide) ?_
         refine gF rfl (by decide) ?_
         refine gF rfl (by decide) ?_
         refine gF rfl (by decide) ?_
         refine gF rfl (by decide) ?_
         refine gF rfl (by decide) ?_
         refine gF rfl (by decide) ?_
         refine gF rfl (by decide) ?_
         refine gF rfl (by decide) ?_
         refine gF rfl (by decide) ?_
         refine gF rfl (by decide) ?_
         refine gF rfl (by decide) ?_
         refine gF rfl (by decide) ?_
         refine ⟨gF rfl (by decide) ?_, trivial⟩
         refine ⟨⟨⟨some false, .bool false, rfl⟩, trivial⟩, ?_⟩
         refine gF rfl (by decide) ?_
         refine gF rfl (by decide) ?_
         refine aN rfl rfl (by constructor) ?_
         refine pE ?_
         show AW _ (.cond _ _ _) _ _ _
         refine cF' rfl ?_
         show AWl _ _ _ _ _
         iterate 2 refine aN rfl rfl (by constructor) ?_
         refine aBinV (.int .i64 ((48 + nOf xs : Nat) : Int)) (u := .int .i64 48) (u' := .int .i64 (nOf xs : Int)) rfl rfl (congrArg (fun z => some (Value.int .i64 z)) (by rw [wi _ (by omega)]; omega)) ?_
         refine aN rfl rfl (by constructor) ?_
         refine sE ?_
         show AW _ (.loop _) _ _ _
         refine AW_loopN (fun m t1 H1 => ∃ (j : Nat), m = padN (nOf xs) - j ∧ (j ≤ padN (nOf xs)) ∧ (Zer xs (48 + nOf xs) j) ∧ t1 13 = .int .i64 ((48 + nOf xs + j : Nat) : Int) ∧ Stt [] H H1 [⟨some b6, true, ⟨true, 26, [.int .u8 0, .int .u8 0, .int .u8 0, .int .u8 0, .int .u8 0, .int .u32 0, .int .u32 0, .int .u32 0, .int .u32 0, .int .u32 0, .int .u32 0, .int .u32 0, .int .u32 0, .slice none 0 0]⟩⟩]) (padN (nOf xs) - 0) ⟨0, rfl, by omega, fun i hi => by omega, rfl, (st.sel [0] (by decide))⟩ [7, 8, 13, 105, 106, 107, 108, 109, 110, 111, 112, 113, 114, 115, 116, 117] (by decide) ?_
         rintro m t1 H1 hk hI
         obtain ⟨j, rfl, hj, hzr, ht13, st⟩ := hI
         obtain ⟨u, rfl⟩ : ∃ u, t1 = (upd (mix [7, 8, 13, 105, 106, 107, 108, 109, 110, 111, 112, 113, 114, 115, 116, 117] _ u) (some 13) _) := ⟨t1, by rw [← hk, upd_self ht13]⟩
         clear hk ht13
         show AWl _ _ _ _ _
         iterate 3 refine aN rfl rfl (by constructor) ?_
         refine aBinV (.int .i64 ((48 + mOf xs : Nat) : Int)) (u := .int .i64 48) (u' := .int .i64 (mOf xs : Int)) rfl rfl (congrArg (fun z => some (Value.int .i64 z)) (by rw [wi _ (by omega)]; omega)) ?_
         refine aN rfl rfl (by constructor) ?_
         refine sE ?_
         show AW _ (.cond _ _ _) _ _ _
         refine cC' rfl (fun h44 => ?_) (fun h44 => ?_)
         ·have h44q := h44; try simp only [decide_eq_true_eq, decide_eq_false_iff_not, beq_iff_eq, beq_eq_false_iff_ne, bne_iff_ne, bne_eq_false_iff_eq, ne_eq, Decidable.not_not, Bool.not_eq_true, Bool.not_eq_false, gt_iff_lt, ge_iff_le, Int.not_lt, Int.not_le] at h44q
          have hlt : j < padN (nOf xs) := by have := of_decide_eq_true h44; omega
          show AWl _ _ _ _ _
          refine aMovV x rfl ?_
          refine aN rfl rfl (by constructor) ?_
          refine aIxBK (st.slc hx) rfl rfl (by omega) fun b114 o114 g114 => ?_
          refine aLdG rfl (g114 _ (st.slc hx)) ?_
          refine aN rfl rfl (by constructor) ?_
          refine sE ?_
          show AW _ (.cond _ _ _) _ _ _
          refine cC' rfl (fun h45 => ?_) (fun h45 => ?_)
          ·have h45q := h45; try simp only [decide_eq_true_eq, decide_eq_false_iff_not, beq_iff_eq, beq_eq_false_iff_ne, bne_iff_ne, bne_eq_false_iff_eq, ne_eq, Decidable.not_not, Bool.not_eq_true, Bool.not_eq_false, gt_iff_lt, ge_iff_le, Int.not_lt, Int.not_le] at h45q
           have hz0 : xs.getD (48 + nOf xs + j) 0 ≠ 0 := by have hq := h45; rw [show (((48 + nOf xs + j : Nat) : Int)).toNat = 48 + nOf xs + j from rfl] at hq; simpa using hq
           show AWl _ _ _ _ _
           refine aBld rfl (by repeat constructor) ?_
           refine aSt st 0 rfl rfl rfl rfl (by first | rfl | simp [cellsOf, *]) (by first | decide | (simp [*]; done) | (simp [k8]; done)) (by repeat constructor) fun H46 st => ?_
           iterate 2 refine aN rfl rfl (by constructor) ?_
           refine sE ?_
           refine ⟨_, out3 (r_cellA st 0 rfl rfl (by first | decide | simp [*]) (by repeat constructor)) (r_tmp rfl (by constructor)) (r_tmp rfl (by constructor)) ⟨rfl, rfl, rfl⟩, ?_⟩
           have he := e_3' (d := true) hat (fun hc => by cases hc.1) hc3 hend (fun hc => by have := hc.1.2; omega) (fun hz => hz0 (hz j hlt))
           obtain ⟨hP, hN⟩ := decP_no he (by decide)
           exact ⟨none, by rw [he, hP, hN]; rfl, by rw [hP]; exact (st.nil 5).pick 0 rfl⟩
          ·have h45q := h45; try simp only [decide_eq_true_eq, decide_eq_false_iff_not, beq_iff_eq, beq_eq_false_iff_ne, bne_iff_ne, bne_eq_false_iff_eq, ne_eq, Decidable.not_not, Bool.not_eq_true, Bool.not_eq_false, gt_iff_lt, ge_iff_le, Int.not_lt, Int.not_le] at h45q
           have hz0 : xs.getD (48 + nOf xs + j) 0 = 0 := by have hq := h45; rw [show (((48 + nOf xs + j : Nat) : Int)).toNat = 48 + nOf xs + j from rfl] at hq; simpa using hq
           show AWl _ _ _ _ _
           iterate 3 refine aN rfl rfl (by constructor) ?_
           refine sE ?_
           exact ⟨_, by omega, j + 1, rfl, by omega, hzr.step hz0, congrArg (Value.int .i64) (by rw [wi _ (by omega)]; omega), (st.sel [0] (by decide))⟩
         ·have h44q := h44; try simp only [decide_eq_true_eq, decide_eq_false_iff_not, beq_iff_eq, beq_eq_false_iff_ne, bne_iff_ne, bne_eq_false_iff_eq, ne_eq, Decidable.not_not, Bool.not_eq_true, Bool.not_eq_false, gt_iff_lt, ge_iff_le, Int.not_lt, Int.not_le] at h44q
          have hge : j = padN (nOf xs) := by have := of_decide_eq_false h44; omega
          subst hge
          show AWp _ _ _ _ _
          refine aMovV x rfl ?_
          refine aIxBK (st.slc hx) rfl rfl (by omega) fun b119 o119 g119 => ?_
          refine aLdG rfl (g119 _ (st.slc hx)) ?_
          refine aMovV x rfl ?_
          refine aIxBK (st.slc hx) rfl rfl (by omega) fun b122 o122 g122 => ?_
          refine aLdG rfl (g122 _ (st.slc hx)) ?_
          refine aMovV x rfl ?_
          refine aIxBK (st.slc hx) rfl rfl (by omega) fun b125 o125 g125 => ?_
          refine aLdG rfl (g125 _ (st.slc hx)) ?_
          refine aMovV x rfl ?_
          refine aIxBK (st.slc hx) rfl rfl (by omega) fun b128 o128 g128 => ?_
          refine aLdG rfl (g128 _ (st.slc hx)) ?_
          refine aMovV x rfl ?_
          refine aIxBK (st.slc hx) rfl rfl (by omega) fun b131 o131 g131 => ?_
          refine aLdG rfl (g131 _ (st.slc hx)) ?_
          refine aMovV x rfl ?_
          refine ⟨?_, ?_⟩
          ·refine aC (rnum_call (st.slc hx) hb (by omega) (by first | omega | (rw [wi (4 * (j : Int)) (by omega), wi _ (by omega)]; omega))) fun v134 H47 ⟨hv, st1⟩ => ?_
           subst hv
           replace st := st.call st1 rfl
           clear st1
           refine ⟨⟨(h_LdG rfl (g131 _ (st.slc hx))), (h_LdG rfl (g128 _ (st.slc hx))), (h_LdG rfl (g125 _ (st.slc hx))), (h_LdG rfl (g122 _ (st.slc hx))), (h_LdG rfl (g119 _ (st.slc hx))), trivial⟩, ?_⟩
           refine aN rfl rfl (by constructor) ?_
           rw [show rgetV xs 16 4 = rgetV xs ((16 : Nat) : Int) 4 from rfl, w_conv hb (by omega)]
           refine aBld rfl (by repeat constructor) ?_
           refine ⟨?_, trivial⟩
           refine aNewP st rfl rfl (by repeat constructor) fun b14 H48 st => ?_
           refine ⟨⟨(h_LdG rfl (g131 _ (st.slc hx))), (h_LdG rfl (g128 _ (st.slc hx))), (h_LdG rfl (g125 _ (st.slc hx))), (h_LdG rfl (g122 _ (st.slc hx))), (h_LdG rfl (g119 _ (st.slc hx))), trivial⟩, ?_⟩
           refine ⟨?_, trivial⟩
           refine aSt st 0 rfl rfl rfl rfl (by first | rfl | simp [cellsOf, *]) (by first | decide | (simp [*]; done) | (simp [k8]; done)) (by repeat constructor) fun H49 st => ?_
           refine ⟨trivial, ?_⟩
           refine pE ?_
           show AWl _ _ _ _ _
           refine aN rfl rfl (by constructor) ?_
           refine sE ?_
           show AW _ (.loop _) _ _ _
           refine AW_loopN (fun m t1 H1 => ∃ (j : Nat), m = 7 - j ∧ (j ≤ 7) ∧ t1 15 = .int .i64 (j : Int) ∧ Stt [] H H1 [⟨some b14, true, ⟨true, 26, [.int .u8 (xs.getD 0 0), .int .u8 (xs.getD 1 0), .int .u8 (xs.getD 2 0), .int .u8 (xs.getD 3 0), .int .u8 (xs.getD 9 0), .int .u32 (beN ((xs.drop 16).take 4)), .int .u32 (wj xs j 0), .int .u32 (wj xs j 1), .int .u32 (wj xs j 2), .int .u32 (wj xs j 3), .int .u32 (wj xs j 4), .int .u32 (wj xs j 5), .int .u32 (wj xs j 6), .slice none 0 0]⟩⟩, ⟨some b6, true, ⟨true, 26, [.int .u8 0, .int .u8 0, .int .u8 0, .int .u8 0, .int .u8 0, .int .u32 0, .int .u32 0, .int .u32 0, .int .u32 0, .int .u32 0, .int .u32 0, .int .u32 0, .int .u32 0, .slice none 0 0]⟩⟩]) (7 - 0) ⟨0, rfl, by omega, rfl, (st.sel [0, 1] (by decide))⟩ [15, 137, 138, 139, 140, 141, 142, 143, 144, 145, 146, 147, 148, 149] (by decide) ?_
           rintro m t1 H1 hk hI
           obtain ⟨j, rfl, hj, ht15, st⟩ := hI
           obtain ⟨u, rfl⟩ : ∃ u, t1 = (upd (mix [15, 137, 138, 139, 140, 141, 142, 143, 144, 145, 146, 147, 148, 149] _ u) (some 15) _) := ⟨t1, by rw [← hk, upd_self ht15]⟩
           clear hk ht15
           show AWl _ _ _ _ _
           iterate 2 refine aN rfl rfl (by constructor) ?_
           refine sE ?_
           show AW _ (.cond _ _ _) _ _ _
           refine cC' rfl (fun h50 => ?_) (fun h50 => ?_)
           ·have h50q := h50; try simp only [decide_eq_true_eq, decide_eq_false_iff_not, beq_iff_eq, beq_eq_false_iff_ne, bne_iff_ne, bne_eq_false_iff_eq, ne_eq, Decidable.not_not, Bool.not_eq_true, Bool.not_eq_false, gt_iff_lt, ge_iff_le, Int.not_lt, Int.not_le] at h50q
            have hlt : j < 7 := by have := of_decide_eq_true h50; omega
            show AWl _ _ _ _ _
            refine aN rfl rfl (by constructor) ?_
            refine aMovV x rfl ?_
            iterate 3 refine aN rfl rfl (by constructor) ?_
            refine aC (rnum_call (st.slc hx) hb (by omega) (by first | omega | (rw [wi (4 * (j : Int)) (by omega), wi _ (by omega)]; omega))) fun v146 H51 ⟨hv, st1⟩ => ?_
            subst hv
            replace st := st.call st1 rfl
            clear st1
            refine aN rfl rfl (by constructor) ?_
            rw [wi (4 * (j : Int)) (by omega), wi (20 + 4 * (j : Int)) (by omega), show (20 + 4 * (j : Int)) = ((20 + 4 * j : Nat) : Int) by omega, w_conv hb (by omega)]
            refine aN rfl rfl (by constructor) ?_
            refine aIxA rfl rfl (by omega) ?_
            refine aStAt st 0 rfl rfl rfl rfl rfl (by simp; omega) (row_set hlt) fun H52 st => ?_
            refine sE ?_
            show AWl _ _ _ _ _
            iterate 3 refine aN rfl rfl (by constructor) ?_
            refine sE ?_
            exact ⟨_, by omega, j + 1, rfl, by omega, congrArg (Value.int .i64) (wi _ (by omega)), (st.sel [0, 1] (by decide))⟩
           ·have h50q := h50; try simp only [decide_eq_true_eq, decide_eq_false_iff_not, beq_iff_eq, beq_eq_false_iff_ne, bne_iff_ne, bne_eq_false_iff_eq, ne_eq, Decidable.not_not, Bool.not_eq_true, Bool.not_eq_false, gt_iff_lt, ge_iff_le, Int.not_lt, Int.not_le] at h50q
            have hge : j = 7 := by have := of_decide_eq_false h50; omega
            subst hge
            show AWp _ _ _ _ _
            refine aN rfl rfl (by constructor) ?_
            refine aLd st 0 rfl rfl rfl (by constructor) ?_
            refine aMovV x rfl ?_
            iterate 3 refine aN rfl rfl (by constructor) ?_
            refine aBinV (.int .i64 ((48 + nOf xs : Nat) : Int)) (u := .int .i64 48) (u' := .int .i64 (nOf xs : Int)) rfl rfl (congrArg (fun z => some (Value.int .i64 z)) (by rw [wi _ (by omega)]; omega)) ?_
            refine aCutLH (st.slc hx) rfl rfl rfl (by omega) fun v157 s157 => ?_
            replace s157 := s157 _ hx
            replace s157 : Sl H 1 (nOf xs) (((xs.drop 48).take (nOf xs)).map (Value.int .u8)) v157 := by have e : ((48 + nOf xs : Nat) : Int).toNat - (48 : Int).toNat = nOf xs := (by omega); rw [e] at s157; exact s157
            refine ⟨?_, trivial⟩
            have st := st.nil 5
            have hnil : (Value.slice none 0 0) = accV none 0 1 := rfl
            refine aApp st 0 (ob := none) (n := 0) rfl rfl rfl (by decide) (rfl) (st.slc s157).src (by rw [List.length_map, List.length_take, List.length_drop]; omega) (by omega) (by omega) fun b158 H53 hp158 st => ?_
            rw [show 0 + nOf xs = nOf xs from Nat.zero_add _]
            rw [List.nil_append] at st
            refine ⟨trivial, ?_⟩
            refine aN rfl rfl (by constructor) ?_
            refine ⟨?_, trivial⟩
            refine aStAt st 1 rfl rfl rfl (by cases b158 <;> rfl) (by cases b158 <;> rfl) (by simp) (cs := [.int .u8 (xs.getD 0 0), .int .u8 (xs.getD 1 0), .int .u8 (xs.getD 2 0), .int .u8 (xs.getD 3 0), .int .u8 (xs.getD 9 0), .int .u32 (beN ((xs.drop 16).take 4)), .int .u32 (wj xs 7 0), .int .u32 (wj xs 7 1), .int .u32 (wj xs 7 2), .int .u32 (wj xs 7 3), .int .u32 (wj xs 7 4), .int .u32 (wj xs 7 5), .int .u32 (wj xs 7 6), accV b158 (nOf xs) 1]) rfl fun H54 st => ?_
            refine ⟨trivial, ?_⟩
            refine pE ?_
            show AWl _ _ _ _ _
            refine aLdAll st 1 rfl rfl (rfl) ?_
            refine aN rfl rfl (by constructor) ?_
            refine aStAllA st 2 rfl rfl rfl (rfl) (rfl) fun H55 st => ?_
            iterate 2 refine aN rfl rfl (by constructor) ?_
            refine sE ?_
            refine ⟨_, out3 (r_cellA st 2 rfl rfl (by first | decide | simp [*]) (by repeat constructor)) (r_tmp rfl (by constructor)) (r_tmp rfl (by constructor)) ⟨rfl, rfl, rfl⟩, ?_⟩
            have he := e_0 (d := true) hat (fun hc => by cases hc.1) hc3 hend (fun hc => by have := hc.1.2; omega) hzr
            obtain ⟨hP, hN⟩ := decP_yes he
            have hdl : (decD xs false).data.length = nOf xs := by show (((xs.drop 48).take (nOf xs)) : List Int).length = _; rw [List.length_take, List.length_drop]; omega
            refine ⟨b158, ?_, ?_⟩
            ·rw [he, hP, hN, hdl, hE]; rfl
            ·rw [hP]; exact st.pick 0 rfl
          ·refine ⟨?_, trivial⟩
           refine aNewP st rfl rfl (by repeat constructor) fun b14 H56 st => ?_
           refine ⟨⟨(h_LdG rfl (g131 _ (st.slc hx))), (h_LdG rfl (g128 _ (st.slc hx))), (h_LdG rfl (g125 _ (st.slc hx))), (h_LdG rfl (g122 _ (st.slc hx))), (h_LdG rfl (g119 _ (st.slc hx))), trivial⟩, ?_⟩
           refine ⟨?_, trivial⟩
           refine aC (rnum_call (st.slc hx) hb (by omega) (by first | omega | (rw [wi (4 * (j : Int)) (by omega), wi _ (by omega)]; omega))) fun v134 H57 ⟨hv, st1⟩ => ?_
           subst hv
           replace st := st.call st1 rfl
           clear st1
           refine ⟨⟨(h_LdG rfl (g131 _ (st.slc hx))), (h_LdG rfl (g128 _ (st.slc hx))), (h_LdG rfl (g125 _ (st.slc hx))), (h_LdG rfl (g122 _ (st.slc hx))), (h_LdG rfl (g119 _ (st.slc hx))), trivial⟩, ?_⟩
           refine aN rfl rfl (by constructor) ?_
           rw [show rgetV xs 16 4 = rgetV xs ((16 : Nat) : Int) 4 from rfl, w_conv hb (by omega)]
           refine aBld rfl (by repeat constructor) ?_
           refine ⟨?_, trivial⟩
           refine aSt st 0 rfl rfl rfl rfl (by first | rfl | simp [cellsOf, *]) (by first | decide | (simp [*]; done) | (simp [k8]; done)) (by repeat constructor) fun H58 st => ?_
           refine ⟨trivial, ?_⟩
           refine pE ?_
           show AWl _ _ _ _ _
           refine aN rfl rfl (by constructor) ?_
           refine sE ?_
           show AW _ (.loop _) _ _ _
           refine AW_loopN (fun m t1 H1 => ∃ (j : Nat), m = 7 - j ∧ (j ≤ 7) ∧ t1 15 = .int .i64 (j : Int) ∧ Stt [] H H1 [⟨some b14, true, ⟨true, 26, [.int .u8 (xs.getD 0 0), .int .u8 (xs.getD 1 0), .int .u8 (xs.getD 2 0), .int .u8 (xs.getD 3 0), .int .u8 (xs.getD 9 0), .int .u32 (beN ((xs.drop 16).take 4)), .int .u32 (wj xs j 0), .int .u32 (wj xs j 1), .int .u32 (wj xs j 2), .int .u32 (wj xs j 3), .int .u32 (wj xs j 4), .int .u32 (wj xs j 5), .int .u32 (wj xs j 6), .slice none 0 0]⟩⟩, ⟨some b6, true, ⟨true, 26, [.int .u8 0, .int .u8 0, .int .u8 0, .int .u8 0, .int .u8 0, .int .u32 0, .int .u32 0, .int .u32 0, .int .u32 0, .int .u32 0, .int .u32 0, .int .u32 0, .int .u32 0, .slice none 0 0]⟩⟩]) (7 - 0) ⟨0, rfl, by omega, rfl, (st.sel [0, 1] (by decide))⟩ [15, 137, 138, 139, 140, 141, 142, 143, 144, 145, 146, 147, 148, 149] (by decide) ?_
           rintro m t1 H1 hk hI
           obtain ⟨j, rfl, hj, ht15, st⟩ := hI
           obtain ⟨u, rfl⟩ : ∃ u, t1 = (upd (mix [15, 137, 138, 139, 140, 141, 142, 143, 144, 145, 146, 147, 148, 149] _ u) (some 15) _) := ⟨t1, by rw [← hk, upd_self ht15]⟩
           clear hk ht15
           show AWl _ _ _ _ _
           iterate 2 refine aN rfl rfl (by constructor) ?_
           refine sE ?_
           show AW _ (.cond _ _ _) _ _ _
           refine cC' rfl (fun h59 => ?_) (fun h59 => ?_)
           ·have h59q := h59; try simp only [decide_eq_true_eq, decide_eq_false_iff_not, beq_iff_eq, beq_eq_false_iff_ne, bne_iff_ne, bne_eq_false_iff_eq, ne_eq, Decidable.not_not, Bool.not_eq_true, Bool.not_eq_false, gt_iff_lt, ge_iff_le, Int.not_lt, Int.not_le] at h59q
            have hlt : j < 7 := by have := of_decide_eq_true h59; omega
            show AWl _ _ _ _ _
            refine aN rfl rfl (by constructor) ?_
            refine aMovV x rfl ?_
            iterate 3 refine aN rfl rfl (by constructor) ?_
            refine aC (rnum_call (st.slc hx) hb (by omega) (by first | omega | (rw [wi (4 * (j : Int)) (by omega), wi _ (by omega)]; omega))) fun v146 H60 ⟨hv, st1⟩ => ?_
            subst hv
            replace st := st.call st1 rfl
            clear st1
            refine aN rfl rfl (by constructor) ?_
            rw [wi (4 * (j : Int)) (by omega), wi (20 + 4 * (j : Int)) (by omega), show (20 + 4 * (j : Int)) = ((20 + 4 * j : Nat) : Int) by omega, w_conv hb (by omega)]
            refine aN rfl rfl (by constructor) ?_
            refine aIxA rfl rfl (by omega) ?_
            refine aStAt st 0 rfl rfl rfl rfl rfl (by simp; omega) (row_set hlt) fun H61 st => ?_
            refine sE ?_
            show AWl _ _ _ _ _
            iterate 3 refine aN rfl rfl (by constructor) ?_
            refine sE ?_
            exact ⟨_, by omega, j + 1, rfl, by omega, congrArg (Value.int .i64) (wi _ (by omega)), (st.sel [0, 1] (by decide))⟩
           ·have h59q := h59; try simp only [decide_eq_true_eq, decide_eq_false_iff_not, beq_iff_eq, beq_eq_false_iff_ne, bne_iff_ne, bne_eq_false_iff_eq, ne_eq, Decidable.not_not, Bool.not_eq_true, Bool.not_eq_false, gt_iff_lt, ge_iff_le, Int.not_lt, Int.not_le] at h59q
            have hge : j = 7 := by have := of_decide_eq_false h59; omega
            subst hge
            show AWp _ _ _ _ _
            refine aN rfl rfl (by constructor) ?_
            refine aLd st 0 rfl rfl rfl (by constructor) ?_
            refine aMovV x rfl ?_
            iterate 3 refine aN rfl rfl (by constructor) ?_
            refine aBinV (.int .i64 ((48 + nOf xs : Nat) : Int)) (u := .int .i64 48) (u' := .int .i64 (nOf xs : Int)) rfl rfl (congrArg (fun z => some (Value.int .i64 z)) (by rw [wi _ (by omega)]; omega)) ?_
            refine aCutLH (st.slc hx) rfl rfl rfl (by omega) fun v157 s157 => ?_
            replace s157 := s157 _ hx
            replace s157 : Sl H 1 (nOf xs) (((xs.drop 48).take (nOf xs)).map (Value.int .u8)) v157 := by have e : ((48 + nOf xs : Nat) : Int).toNat - (48 : Int).toNat = nOf xs := (by omega); rw [e] at s157; exact s157
            refine ⟨?_, trivial⟩
            have st := st.nil 5
            have hnil : (Value.slice none 0 0) = accV none 0 1 := rfl
            refine aApp st 0 (ob := none) (n := 0) rfl rfl rfl (by decide) (rfl) (st.slc s157).src (by rw [List.length_map, List.length_take, List.length_drop]; omega) (by omega) (by omega) fun b158 H62 hp158 st => ?_
            rw [show 0 + nOf xs = nOf xs from Nat.zero_add _]
            rw [List.nil_append] at st
            refine ⟨trivial, ?_⟩
            refine aN rfl rfl (by constructor) ?_
            refine ⟨?_, trivial⟩
            refine aStAt st 1 rfl rfl rfl (by cases b158 <;> rfl) (by cases b158 <;> rfl) (by simp) (cs := [.int .u8 (xs.getD 0 0), .int .u8 (xs.getD 1 0), .int .u8 (xs.getD 2 0), .int .u8 (xs.getD 3 0), .int .u8 (xs.getD 9 0), .int .u32 (beN ((xs.drop 16).take 4)), .int .u32 (wj xs 7 0), .int .u32 (wj xs 7 1), .int .u32 (wj xs 7 2), .int .u32 (wj xs 7 3), .int .u32 (wj xs 7 4), .int .u32 (wj xs 7 5), .int .u32 (wj xs 7 6), accV b158 (nOf xs) 1]) rfl fun H63 st => ?_
            refine ⟨trivial, ?_⟩
            refine pE ?_
            show AWl _ _ _ _ _
            refine aLdAll st 1 rfl rfl (rfl) ?_
            refine aN rfl rfl (by constructor) ?_
            refine aStAllA st 2 rfl rfl rfl (rfl) (rfl) fun H64 st => ?_
            iterate 2 refine aN rfl rfl (by constructor) ?_
            refine sE ?_
            refine ⟨_, out3 (r_cellA st 2 rfl rfl (by first | decide | simp [*]) (by repeat constructor)) (r_tmp rfl (by constructor)) (r_tmp rfl (by constructor)) ⟨rfl, rfl, rfl⟩, ?_⟩
            have he := e_0 (d := true) hat (fun hc => by cases hc.1) hc3 hend (fun hc => by have := hc.1.2; omega) hzr
            obtain ⟨hP, hN⟩ := decP_yes he
            have hdl : (decD xs false).data.length = nOf xs := by show (((xs.drop 48).take (nOf xs)) : List Int).length = _; rw [List.length_take, List.length_drop]; omega
            refine ⟨b158, ?_, ?_⟩
            ·rw [he, hP, hN, hdl, hE]; rfl
            ·rw [hP]; exact st.pick 0 rfl
theorem rdec_call_ff {H : Hp} {xs : List Int} {x : Value} (hx : Sl H 1 xs.length (xs.map (Value.int .u8)) x) (hb : ByteL xs) (hl : xs.length ≤ 140737488351232) :
  ACalls Try.prog 14 [x, .bool false, .bool false] H (fun v H' => ∃ ob, v = .tuple #[.agg #[.int .u8 (decP xs false false).op, .int .u8 (decP xs false false).fl, .int .u8 (decP xs false false).res, .int .u8 (decP xs false false).st, .int .u8 (decP xs false false).lun, .int .u32 (decP xs false false).tag, .int .u32 (decP xs false false).w0, .int .u32 (decP xs false false).w1, .int .u32 (decP xs false false).w2, .int .u32 (decP xs false false).w3, .int .u32 (decP xs false false).w4, .int .u32 (decP xs false false).w5, .int .u32 (decP xs false false).w6, accV ob (decP xs false false).data.length 1], .int .i64 (decN xs false false), .int .i64 (decE xs false false)] ∧ Stt [] H H' [⟨ob, true, ⟨true, 5, (decP xs false false).data.map (Value.int .u8)⟩⟩]) := by
 refine acallsW Try.func14 f14_ok (Nat.le_of_ble_eq_true rfl) fun hw => ?_
 have st : Stt [] H H [] := Stt.start hw
 unfold f14c
 show AWl _ _ _ _ _
 refine aNewP st rfl rfl (by repeat constructor) fun b6 H1 st => ?_
 iterate 2 refine aN rfl rfl (by constructor) ?_
 refine sE ?_
 show AWl _ _ _ _ _
 refine aN rfl rfl (by constructor) ?_
 refine sE ?_
 show AWl _ _ _ _ _
 refine aN rfl rfl (by constructor) ?_
 refine sE ?_
 show AW _ (.cond _ _ _) _ _ _
 refine cF' rfl ?_
 show AWl _ _ _ _ _
 refine aMovV x rfl ?_
 refine aLen (st.slc hx) rfl ?_
 iterate 2 refine aN rfl rfl (by constructor) ?_
 refine sE ?_
 show AW _ (.cond _ _ _) _ _ _
 refine cC' rfl (fun h2 => ?_) (fun h2 => ?_)
 ·have h2q := h2; try simp only [decide_eq_true_eq, decide_eq_false_iff_not, beq_iff_eq, beq_eq_false_iff_ne, bne_iff_ne, bne_eq_false_iff_eq, ne_eq, Decidable.not_not, Bool.not_eq_true, Bool.not_eq_false, gt_iff_lt, ge_iff_le, Int.not_lt, Int.not_le] at h2q
  have hat : (xs.length < atN false) := by have := of_decide_eq_true h2; show (xs.length < 48); omega
  have hat2 : xs.length < 48 := by have : atN false = 48 := rfl; omega
  show AWl _ _ _ _ _
  refine aBld rfl (by repeat constructor) ?_
  refine aSt st 0 rfl rfl rfl rfl (by first | rfl | simp [cellsOf, *]) (by first | decide | (simp [*]; done) | (simp [k8]; done)) (by repeat constructor) fun H3 st => ?_
  iterate 2 refine aN rfl rfl (by constructor) ?_
  refine sE ?_
  refine ⟨_, out3 (r_cellA st 0 rfl rfl (by first | decide | simp [*]) (by repeat constructor)) (r_tmp rfl (by constructor)) (r_tmp rfl (by constructor)) ⟨rfl, rfl, rfl⟩, ?_⟩
  have he := e_8 (d := false) hat
  obtain ⟨hP, hN⟩ := decP_no he (by decide)
  exact ⟨none, by rw [he, hP, hN]; rfl, by rw [hP]; exact (st.nil 5).pick 0 rfl⟩
 ·have h2q := h2; try simp only [decide_eq_true_eq, decide_eq_false_iff_not, beq_iff_eq, beq_eq_false_iff_ne, bne_iff_ne, bne_eq_false_iff_eq, ne_eq, Decidable.not_not, Bool.not_eq_true, Bool.not_eq_false, gt_iff_lt, ge_iff_le, Int.not_lt, Int.not_le] at h2q
  have hat : ¬ (xs.length < atN false) := by have := of_decide_eq_false h2; show ¬ (xs.length < 48); omega
  have hat2 : 48 ≤ xs.length := by have : atN false = 48 := rfl; omega
  show AWp _ _ _ _ _
  iterate 2 refine aN rfl rfl (by constructor) ?_
  refine gF rfl (by decide) ?_
  refine gF rfl (by decide) ?_
  refine gF rfl (by decide) ?_
  refine gF rfl (by decide) ?_
  refine gF rfl (by decide) ?_
  refine ⟨gF rfl (by decide) ?_, trivial⟩
  refine ⟨⟨⟨some false, .bool false, rfl⟩, trivial⟩, ?_⟩
  refine gF rfl (by decide) ?_
  refine gF rfl (by decide) ?_
  refine aN rfl rfl (by constructor) ?_
  refine pE ?_
  show AW _ (.cond _ _ _) _ _ _
  refine cF' rfl ?_
  show AWl _ _ _ _ _
  refine aMovV x rfl ?_
  refine aC (rnum_call (st.slc hx) hb (by omega) (by first | omega | (rw [wi (4 * (j : Int)) (by omega), wi _ (by omega)]; omega))) fun v35 H4 ⟨hv, st1⟩ => ?_
  subst hv
  replace st := st.call st1 rfl
  clear st1
  refine aN rfl rfl (by constructor) ?_
  rw [n_conv hb (by omega)]
  have hn24 := nOf_lt hb
  refine aN rfl rfl (by constructor) ?_
  refine sE ?_
  show AWl _ _ _ _ _
  iterate 3 refine aN rfl rfl (by constructor) ?_
  refine gCase 39 rfl (fun h5 => ?_) (fun h5 => ?_)
  ·have h5q := h5; try simp only [decide_eq_true_eq, decide_eq_false_iff_not, beq_iff_eq, beq_eq_false_iff_ne, bne_iff_ne, bne_eq_false_iff_eq, ne_eq, Decidable.not_not, Bool.not_eq_true, Bool.not_eq_false, gt_iff_lt, ge_iff_le, Int.not_lt, Int.not_le] at h5q
   refine gF rfl (by decide) ?_
   refine gF rfl (by decide) ?_
   refine gF rfl (by decide) ?_
   refine gF rfl (by decide) ?_
   iterate 2 refine aN rfl rfl (by constructor) ?_
   refine gF rfl (by decide) ?_
   refine gF rfl (by decide) ?_
   refine gF rfl (by decide) ?_
   refine gF rfl (by decide) ?_
   iterate 2 refine aN rfl rfl (by constructor) ?_
   refine gF rfl (by decide) ?_
   refine gF rfl (by decide) ?_
   refine gF rfl (by decide) ?_
   refine aN rfl rfl (by constructor) ?_
   refine sE ?_
   show AW _ (.cond _ _ _) _ _ _
   refine cT rfl ?_
   show AWl _ _ _ _ _
   refine aBld rfl (by repeat constructor) ?_
   refine aSt st 0 rfl rfl rfl rfl (by first | rfl | simp [cellsOf, *]) (by first | decide | (simp [*]; done) | (simp [k8]; done)) (by repeat constructor) fun H6 st => ?_
   iterate 2 refine aN rfl rfl (by constructor) ?_
   refine sE ?_
   refine ⟨_, out3 (r_cellA st 0 rfl rfl (by first | decide | simp [*]) (by repeat constructor)) (r_tmp rfl (by constructor)) (r_tmp rfl (by constructor)) ⟨rfl, rfl, rfl⟩, ?_⟩
   have he := e_3 (d := false) hat (fun hc => by cases hc.1) (.inl (by omega))
   obtain ⟨hP, hN⟩ := decP_no he (by decide)
   exact ⟨none, by rw [he, hP, hN]; rfl, by rw [hP]; exact (st.nil 5).pick 0 rfl⟩
  ·have h5q := h5; try simp only [decide_eq_true_eq, decide_eq_false_iff_not, beq_iff_eq, beq_eq_false_iff_ne, bne_iff_ne, bne_eq_false_iff_eq, ne_eq, Decidable.not_not, Bool.not_eq_true, Bool.not_eq_false, gt_iff_lt, ge_iff_le, Int.not_lt, Int.not_le] at h5q
   refine gT rfl ?_
   refine aMovV x rfl ?_
   refine gT rfl ?_
   refine aIxBK (st.slc hx) rfl rfl (by omega) fun b41 o41 g41 => ?_
   refine gT rfl ?_
   refine aLdG rfl (g41 _ (st.slc hx)) ?_
   refine gT rfl ?_
   iterate 3 refine aN rfl rfl (by constructor) ?_
   refine gCase 45 rfl (fun h7 => ?_) (fun h7 => ?_)
   ·have h7q := h7; try simp only [decide_eq_true_eq, decide_eq_false_iff_not, beq_iff_eq, beq_eq_false_iff_ne, bne_iff_ne, bne_eq_false_iff_eq, ne_eq, Decidable.not_not, Bool.not_eq_true, Bool.not_eq_false, gt_iff_lt, ge_iff_le, Int.not_lt, Int.not_le] at h7q
    refine gF rfl (by decide) ?_
    refine gF rfl (by decide) ?_
    refine gF rfl (by decide) ?_
    refine gF rfl (by decide) ?_
    iterate 2 refine aN rfl rfl (by constructor) ?_
    refine gF rfl (by decide) ?_
    refine gF rfl (by decide) ?_
    refine gF rfl (by decide) ?_
    refine aN rfl rfl (by constructor) ?_
    refine sE ?_
    show AW _ (.cond _ _ _) _ _ _
    refine cT rfl ?_
    show AWl _ _ _ _ _
    refine aBld rfl (by repeat constructor) ?_
    refine aSt st 0 rfl rfl rfl rfl (by first | rfl | simp [cellsOf, *]) (by first | decide | (simp [*]; done) | (simp [k8]; done)) (by repeat constructor) fun H8 st => ?_
    iterate 2 refine aN rfl rfl (by constructor) ?_
    refine sE ?_
    refine ⟨_, out3 (r_cellA st 0 rfl rfl (by first | decide | simp [*]) (by repeat constructor)) (r_tmp rfl (by constructor)) (r_tmp rfl (by constructor)) ⟨rfl, rfl, rfl⟩, ?_⟩
    have he := e_3 (d := false) hat (fun hc => by cases hc.1) (.inr fun hr => by have hq := (rsv_iff hb (by omega)).1 hr; first | exact h7q hq.1 | exact h7q hq.2.1 | exact h7q hq.2.2)
    obtain ⟨hP, hN⟩ := decP_no he (by decide)
    exact ⟨none, by rw [he, hP, hN]; rfl, by rw [hP]; exact (st.nil 5).pick 0 rfl⟩
   ·have h7q := h7; try simp only [decide_eq_true_eq, decide_eq_false_iff_not, beq_iff_eq, beq_eq_false_iff_ne, bne_iff_ne, bne_eq_false_iff_eq, ne_eq, Decidable.not_not, Bool.not_eq_true, Bool.not_eq_false, gt_iff_lt, ge_iff_le, Int.not_lt, Int.not_le] at h7q
    refine gT rfl ?_
    refine aMovV x rfl ?_
    refine gT rfl ?_
    refine aIxBK (st.slc hx) rfl rfl (by omega) fun b47 o47 g47 => ?_
    refine gT rfl ?_
    refine aLdG rfl (g47 _ (st.slc hx)) ?_
    refine gT rfl ?_
    iterate 3 refine aN rfl rfl (by constructor) ?_
    refine gCase 51 rfl (fun h9 => ?_) (fun h9 => ?_)
    ·have h9q := h9; try simp only [decide_eq_true_eq, decide_eq_false_iff_not, beq_iff_eq, beq_eq_false_iff_ne, bne_iff_ne, bne_eq_false_iff_eq, ne_eq, Decidable.not_not, Bool.not_eq_true, Bool.not_eq_false, gt_iff_lt, ge_iff_le, Int.not_lt, Int.not_le] at h9q
     refine gF rfl (by decide) ?_
     refine gF rfl (by decide) ?_
     refine gF rfl (by decide) ?_
     refine aN rfl rfl (by constructor) ?_
     refine sE ?_
     show AW _ (.cond _ _ _) _ _ _
     refine cT rfl ?_
     show AWl _ _ _ _ _
     refine aBld rfl (by repeat constructor) ?_
     refine aSt st 0 rfl rfl rfl rfl (by first | rfl | simp [cellsOf, *]) (by first | decide | (simp [*]; done) | (simp [k8]; done)) (by repeat constructor) fun H10 st => ?_
     iterate 2 refine aN rfl rfl (by constructor) ?_
     refine sE ?_
     refine ⟨_, out3 (r_cellA st 0 rfl rfl (by first | decide | simp [*]) (by repeat constructor)) (r_tmp rfl (by constructor)) (r_tmp rfl (by constructor)) ⟨rfl, rfl, rfl⟩, ?_⟩
     have he := e_3 (d := false) hat (fun hc => by cases hc.1) (.inr fun hr => by have hq := (rsv_iff hb (by omega)).1 hr; first | exact h9q hq.1 | exact h9q hq.2.1 | exact h9q hq.2.2)
     obtain ⟨hP, hN⟩ := decP_no he (by decide)
     exact ⟨none, by rw [he, hP, hN]; rfl, by rw [hP]; exact (st.nil 5).pick 0 rfl⟩
    ·have h9q := h9; try simp only [decide_eq_true_eq, decide_eq_false_iff_not, beq_iff_eq, beq_eq_false_iff_ne, bne_iff_ne, bne_eq_false_iff_eq, ne_eq, Decidable.not_not, Bool.not_eq_true, Bool.not_eq_false, gt_iff_lt, ge_iff_le, Int.not_lt, Int.not_le] at h9q
     refine gT rfl ?_
     refine aMovV x rfl ?_
     refine gT rfl ?_
     refine aC (rnum_call (st.slc hx) hb (by omega) (by first | omega | (rw [wi (4 * (j : Int)) (by omega), wi _ (by omega)]; omega))) fun v53 H11 ⟨hv, st1⟩ => ?_
     subst hv
     replace st := st.call st1 rfl
     clear st1
     refine gT rfl ?_
     iterate 2 refine aN rfl rfl (by constructor) ?_
     refine sE ?_
     show AW _ (.cond _ _ _) _ _ _
     refine cC' rfl (fun h12 => ?_) (fun h12 => ?_)
     ·have h12q := h12; try simp only [decide_eq_true_eq, decide_eq_false_iff_not, beq_iff_eq, beq_eq_false_iff_ne, bne_iff_ne, bne_eq_false_iff_eq, ne_eq, Decidable.not_not, Bool.not_eq_true, Bool.not_eq_false, gt_iff_lt, ge_iff_le, Int.not_lt, Int.not_le] at h12q
      show AWl _ _ _ _ _
      refine aBld rfl (by repeat constructor) ?_
      refine aSt st 0 rfl rfl rfl rfl (by first | rfl | simp [cellsOf, *]) (by first | decide | (simp [*]; done) | (simp [k8]; done)) (by repeat constructor) fun H13 st => ?_
      iterate 2 refine aN rfl rfl (by constructor) ?_
      refine sE ?_
      refine ⟨_, out3 (r_cellA st 0 rfl rfl (by first | decide | simp [*]) (by repeat constructor)) (r_tmp rfl (by constructor)) (r_tmp rfl (by constructor)) ⟨rfl, rfl, rfl⟩, ?_⟩
      have he := e_3 (d := false) hat (fun hc => by cases hc.1) (.inr fun hr => by have hq := (rsv_iff hb (by omega)).1 hr; first | exact h12q hq.1 | exact h12q hq.2.1 | exact h12q hq.2.2)
      obtain ⟨hP, hN⟩ := decP_no he (by decide)
      exact ⟨none, by rw [he, hP, hN]; rfl, by rw [hP]; exact (st.nil 5).pick 0 rfl⟩
     ·have h12q := h12; try simp only [decide_eq_true_eq, decide_eq_false_iff_not, beq_iff_eq, beq_eq_false_iff_ne, bne_iff_ne, bne_eq_false_iff_eq, ne_eq, Decidable.not_not, Bool.not_eq_true, Bool.not_eq_false, gt_iff_lt, ge_iff_le, Int.not_lt, Int.not_le] at h12q
      show AWl _ _ _ _ _
      refine aN rfl rfl (by constructor) ?_
      have hrv : Rsv xs 8 := (rsv_iff hb (by omega)).2 ⟨by assumption, by assumption, by assumption⟩
      have hn8 : nOf xs ≤ 8192 := by omega
      have hc3 : ¬ (nOf xs > 8192 ∨ ¬ Rsv xs 8) := fun hc => hc.elim (fun h => by omega) (fun h => h hrv)
      have hm := mOf_le xs
      have hpl := padN_le (nOf xs)
      have hmd : mOf xs = nOf xs + padN (nOf xs) := rfl
      refine aN rfl rfl (by constructor) ?_
      refine sE ?_
      show AW _ (.loop _) _ _ _
      refine AW_loopN (fun m t1 H1 => ∃ (k : Nat), m = padN (nOf xs) - k ∧ (k ≤ padN (nOf xs)) ∧ t1 11 = .int .i64 ((nOf xs + k : Nat) : Int) ∧ Stt [] H H1 [⟨some b6, true, ⟨true, 26, [.int .u8 0, .int .u8 0, .int .u8 0, .int .u8 0, .int .u8 0, .int .u32 0, .int .u32 0, .int .u32 0, .int .u32 0, .int .u32 0, .int .u32 0, .int .u32 0, .int .u32 0, .slice none 0 0]⟩⟩]) (padN (nOf xs) - 0) ⟨0, rfl, Nat.zero_le _, rfl, (st.sel [0] (by decide))⟩ [11, 58, 59, 60, 61, 62] (by decide) ?_
      rintro m t1 H1 hk hI
      obtain ⟨k, rfl, hkp, ht11, st⟩ := hI
      obtain ⟨u, rfl⟩ : ∃ u, t1 = (upd (mix [11, 58, 59, 60, 61, 62] _ u) (some 11) _) := ⟨t1, by rw [← hk, upd_self ht11]⟩
      clear hk ht11
      show AWl _ _ _ _ _
      iterate 3 refine aN rfl rfl (by constructor) ?_
      refine sE ?_
      show AW _ (.cond _ _ _) _ _ _
      refine cC' rfl (fun h14 => ?_) (fun h14 => ?_)
      ·have h14q := h14; try simp only [decide_eq_true_eq, decide_eq_false_iff_not, beq_iff_eq, beq_eq_false_iff_ne, bne_iff_ne, bne_eq_false_iff_eq, ne_eq, Decidable.not_not, Bool.not_eq_true, Bool.not_eq_false, gt_iff_lt, ge_iff_le, Int.not_lt, Int.not_le] at h14q
       have hr : ((nOf xs + k : Nat) : Int).tmod 4 ≠ 0 := by simpa using h14
       rw [Int.tmod_eq_emod_of_nonneg (by omega)] at hr
       have hk : k < padN (nOf xs) := by unfold padN at *; omega
       show AWl _ _ _ _ _
       iterate 3 refine aN rfl rfl (by constructor) ?_
       refine sE ?_
       exact ⟨_, by omega, k + 1, rfl, by omega, congrArg (Value.int .i64) (by rw [wi _ (by omega)]; omega), (st.sel [0] (by decide))⟩
      ·have h14q := h14; try simp only [decide_eq_true_eq, decide_eq_false_iff_not, beq_iff_eq, beq_eq_false_iff_ne, bne_iff_ne, bne_eq_false_iff_eq, ne_eq, Decidable.not_not, Bool.not_eq_true, Bool.not_eq_false, gt_iff_lt, ge_iff_le, Int.not_lt, Int.not_le] at h14q
       have hr : ((nOf xs + k : Nat) : Int).tmod 4 = 0 := by simpa using h14
       rw [Int.tmod_eq_emod_of_nonneg (by omega)] at hr
       have hk : k = padN (nOf xs) := by unfold padN at *; omega
       subst hk
       rw [show nOf xs + padN (nOf xs) = mOf xs from rfl]
       show AWl _ _ _ _ _
       iterate 2 refine aN rfl rfl (by constructor) ?_
       refine aBinV (.int .i64 ((48 + mOf xs : Nat) : Int)) (u := .int .i64 48) (u' := .int .i64 (mOf xs : Int)) rfl rfl (congrArg (fun z => some (Value.int .i64 z)) (by rw [wi _ (by omega)]; omega)) ?_
       refine aN rfl rfl (by constructor) ?_
       refine sE ?_
       show AWl _ _ _ _ _
       iterate 2 refine aN rfl rfl (by constructor) ?_
       refine gF rfl (by decide) ?_
       refine gF rfl (by decide) ?_
       refine aN rfl rfl (by constructor) ?_
       refine sE ?_
       show AW _ (.cond _ _ _) _ _ _
       refine cF' rfl ?_
       show AWl _ _ _ _ _
       refine aMovV x rfl ?_
       have hE : endN xs false false = 48 + mOf xs + 0 := by unfold endN; rw [if_neg (fun hc => by cases hc.1)]; rfl
       refine aLen (st.slc hx) rfl ?_
       iterate 2 refine aN rfl rfl (by constructor) ?_
       refine sE ?_
       show AW _ (.cond _ _ _) _ _ _
       refine cC' rfl (fun h15 => ?_) (fun h15 => ?_)
       ·have h15q := h15; try simp only [decide_eq_true_eq, decide_eq_false_iff_not, beq_iff_eq, beq_eq_false_iff_ne, bne_iff_ne, bne_eq_false_iff_eq, ne_eq, Decidable.not_not, Bool.not_eq_true, Bool.not_eq_false, gt_iff_lt, ge_iff_le, Int.not_lt, Int.not_le] at h15q
        have hend : (xs.length < endN xs false false) := by have := of_decide_eq_true h15; rw [hE]; omega
        show AWl _ _ _ _ _
        refine aBld rfl (by repeat constructor) ?_
        refine aSt st 0 rfl rfl rfl rfl (by first | rfl | simp [cellsOf, *]) (by first | decide | (simp [*]; done) | (simp [k8]; done)) (by repeat constructor) fun H16 st => ?_
        iterate 2 refine aN rfl rfl (by constructor) ?_
        refine sE ?_
        refine ⟨_, out3 (r_cellA st 0 rfl rfl (by first | decide | simp [*]) (by repeat constructor)) (r_tmp rfl (by constructor)) (r_tmp rfl (by constructor)) ⟨rfl, rfl, rfl⟩, ?_⟩
        have he := e_8' (d := false) hat (fun hc => by cases hc.1) hc3 hend
        obtain ⟨hP, hN⟩ := decP_no he (by decide)
        exact ⟨none, by rw [he, hP, hN]; rfl, by rw [hP]; exact (st.nil 5).pick 0 rfl⟩
       ·have h15q := h15; try simp only [decide_eq_true_eq, decide_eq_false_iff_not, beq_iff_eq, beq_eq_false_iff_ne, bne_iff_ne, bne_eq_false_iff_eq, ne_eq, Decidable.not_not, Bool.not_eq_true, Bool.not_eq_false, gt_iff_lt, ge_iff_le, Int.not_lt, Int.not_le] at h15q
        have hend : ¬ (xs.length < endN xs false false) := by have := of_decide_eq_false h15; rw [hE]; omega
        show AWp _ _ _ _ _
        iterate 2 refine aN rfl rfl (by constructor) ?_
        refine gF rfl (by decide) ?_
        refine gF rfl (by decide) ?_
        iterate 2 refine aN rfl rfl (by constructor) ?_
        refine gF rfl (by decide) ?_
        refine gF rfl (by decide) ?_
        refine gF rfl (by decide) ?_
        refine gF rfl (by decide) ?_
        refine gF rfl (by decide) ?_
        refine gF rfl (by decide) ?_
        refine gF rfl (by decide) ?_
        refine gF rfl (by decide) ?_
        refine gF rfl (by decide) ?_
        refine gF rfl (by decide) ?_
        refine gF rfl (by decide) ?_
        refine gF rfl (by decide) ?_
        refine gF rfl (by decide) ?_
        refine ⟨gF rfl (by decide) ?_, trivial⟩
        refine ⟨⟨⟨some false, .bool false, rfl⟩, trivial⟩, ?_⟩
        refine gF rfl (by decide) ?_
        refine gF rfl (by decide) ?_
        refine aN rfl rfl (by constructor) ?_
        refine pE ?_
        show AW _ (.cond _ _ _) _ _ _
        refine cF' rfl ?_
        show AWl _ _ _ _ _
        iterate 2 refine aN rfl rfl (by constructor) ?_
        refine aBinV (.int .i64 ((48 + nOf xs : Nat) : Int)) (u := .int .i64 48) (u' := .int .i64 (nOf xs : Int)) rfl rfl (congrArg (fun z => some (Value.int .i64 z)) (by rw [wi _ (by omega)]; omega)) ?_
        refine aN rfl rfl (by constructor) ?_
        refine sE ?_
        show AW _ (.loop _) _ _ _
        refine AW_loopN (fun m t1 H1 => ∃ (j : Nat), m = padN (nOf xs) - j ∧ (j ≤ padN (nOf xs)) ∧ (Zer xs (48 + nOf xs) j) ∧ t1 13 = .int .i64 ((48 + nOf xs + j : Nat) : Int) ∧ Stt [] H H1 [⟨some b6, true, ⟨true, 26, [.int .u8 0, .int .u8 0, .int .u8 0, .int .u8 0, .int .u8 0, .int .u32 0, .int .u32 0, .int .u32 0, .int .u32 0, .int .u32 0, .int .u32 0, .int .u32 0, .int .u32 0, .slice none 0 0]⟩⟩]) (padN (nOf xs) - 0) ⟨0, rfl, by omega, fun i hi => by omega, rfl, (st.sel [0] (by decide))⟩ [7, 8, 13, 105, 106, 107, 108, 109, 110, 111, 112, 113, 114, 115, 116, 117] (by decide) ?_
        rintro m t1 H1 hk hI
        obtain ⟨j, rfl, hj, hzr, ht13, st⟩ := hI
        obtain ⟨u, rfl⟩ : ∃ u, t1 = (upd (mix [7, 8, 13, 105, 106, 107, 108, 109, 110, 111, 112, 113, 114, 115, 116, 117] _ u) (some 13) _) := ⟨t1, by rw [← hk, upd_self ht13]⟩
        clear hk ht13
        show AWl _ _ _ _ _
        iterate 3 refine aN rfl rfl (by constructor) ?_
        refine aBinV (.int .i64 ((48 + mOf xs : Nat) : Int)) (u := .int .i64 48) (u' := .int .i64 (mOf xs : Int)) rfl rfl (congrArg (fun z => some (Value.int .i64 z)) (by rw [wi _ (by omega)]; omega)) ?_
        refine aN rfl rfl (by constructor) ?_
        refine sE ?_
        show AW _ (.cond _ _ _) _ _ _
        refine cC' rfl (fun h17 => ?_) (fun h17 => ?_)
        ·have h17q := h17; try simp only [decide_eq_true_eq, decide_eq_false_iff_not, beq_iff_eq, beq_eq_false_iff_ne, bne_iff_ne, bne_eq_false_iff_eq, ne_eq, Decidable.not_not, Bool.not_eq_true, Bool.not_eq_false, gt_iff_lt, ge_iff_le, Int.not_lt, Int.not_le] at h17q
         have hlt : j < padN (nOf xs) := by have := of_decide_eq_true h17; omega
         show AWl _ _ _ _ _
         refine aMovV x rfl ?_
         refine aN rfl rfl (by constructor) ?_
         refine aIxBK (st.slc hx) rfl rfl (by omega) fun b114 o114 g114 => ?_
         refine aLdG rfl (g114 _ (st.slc hx)) ?_
         refine aN rfl rfl (by constructor) ?_
         refine sE ?_
         show AW _ (.cond _ _ _) _ _ _
         refine cC' rfl (fun h18 => ?_) (fun h18 => ?_)
         ·have h18q := h18; try simp only [decide_eq_true_eq, decide_eq_false_iff_not, beq_iff_eq, beq_eq_false_iff_ne, bne_iff_ne, bne_eq_false_iff_eq, ne_eq, Decidable.not_not, Bool.not_eq_true, Bool.not_eq_false, gt_iff_lt, ge_iff_le, Int.not_lt, Int.not_le] at h18q
          have hz0 : xs.getD (48 + nOf xs + j) 0 ≠ 0 := by have hq := h18; rw [show (((48 + nOf xs + j : Nat) : Int)).toNat = 48 + nOf xs + j from rfl] at hq; simpa using hq
          show AWl _ _ _ _ _
          refine aBld rfl (by repeat constructor) ?_
          refine aSt st 0 rfl rfl rfl rfl (by first | rfl | simp [cellsOf, *]) (by first | decide | (simp [*]; done) | (simp [k8]; done)) (by repeat constructor) fun H19 st => ?_
          iterate 2 refine aN rfl rfl (by constructor) ?_
          refine sE ?_
          refine ⟨_, out3 (r_cellA st 0 rfl rfl (by first | decide | simp [*]) (by repeat constructor)) (r_tmp rfl (by constructor)) (r_tmp rfl (by constructor)) ⟨rfl, rfl, rfl⟩, ?_⟩
          have he := e_3' (d := false) hat (fun hc => by cases hc.1) hc3 hend (fun hc => by cases hc.1.1) (fun hz => hz0 (hz j hlt))
          obtain ⟨hP, hN⟩ := decP_no he (by decide)
          exact ⟨none, by rw [he, hP, hN]; rfl, by rw [hP]; exact (st.nil 5).pick 0 rfl⟩
         ·have h18q := h18; try simp only [decide_eq_true_eq, decide_eq_false_iff_not, beq_iff_eq, beq_eq_false_iff_ne, bne_iff_ne, bne_eq_false_iff_eq, ne_eq, Decidable.not_not, Bool.not_eq_true, Bool.not_eq_false, gt_iff_lt, ge_iff_le, Int.not_lt, Int.not_le] at h18q
          have hz0 : xs.getD (48 + nOf xs + j) 0 = 0 := by have hq := h18; rw [show (((48 + nOf xs + j : Nat) : Int)).toNat = 48 + nOf xs + j from rfl] at hq; simpa using hq
          show AWl _ _ _ _ _
          iterate 3 refine aN rfl rfl (by constructor) ?_
          refine sE ?_
          exact ⟨_, by omega, j + 1, rfl, by omega, hzr.step hz0, congrArg (Value.int .i64) (by rw [wi _ (by omega)]; omega), (st.sel [0] (by decide))⟩
        ·have h17q := h17; try simp only [decide_eq_true_eq, decide_eq_false_iff_not, beq_iff_eq, beq_eq_false_iff_ne, bne_iff_ne, bne_eq_false_iff_eq, ne_eq, Decidable.not_not, Bool.not_eq_true, Bool.not_eq_false, gt_iff_lt, ge_iff_le, Int.not_lt, Int.not_le] at h17q
         have hge : j = padN (nOf xs) := by have := of_decide_eq_false h17; omega
         subst hge
         show AWp _ _ _ _ _
         refine aMovV x rfl ?_
         refine aIxBK (st.slc hx) rfl rfl (by omega) fun b119 o119 g119 => ?_
         refine aLdG rfl (g119 _ (st.slc hx)) ?_
         refine aMovV x rfl ?_
         refine aIxBK (st.slc hx) rfl rfl (by omega) fun b122 o122 g122 => ?_
         refine aLdG rfl (g122 _ (st.slc hx)) ?_
         refine aMovV x rfl ?_
         refine aIxBK (st.slc hx) rfl rfl (by omega) fun b125 o125 g125 => ?_
         refine aLdG rfl (g125 _ (st.slc hx)) ?_
         refine aMovV x rfl ?_
         refine aIxBK (st.slc hx) rfl rfl (by omega) fun b128 o128 g128 => ?_
         refine aLdG rfl (g128 _ (st.slc hx)) ?_
         refine aMovV x rfl ?_
         refine aIxBK (st.slc hx) rfl rfl (by omega) fun b131 o131 g131 => ?_
         refine aLdG rfl (g131 _ (st.slc hx)) ?_
         refine aMovV x rfl ?_
         refine ⟨?_, ?_⟩
         ·refine aC (rnum_call (st.slc hx) hb (by omega) (by first | omega | (rw [wi (4 * (j : Int)) (by omega), wi _ (by omega)]; omega))) fun v134 H20 ⟨hv, st1⟩ => ?_
          subst hv
          replace st := st.call st1 rfl
          clear st1
          refine ⟨⟨(h_LdG rfl (g131 _ (st.slc hx))), (h_LdG rfl (g128 _ (st.slc hx))), (h_LdG rfl (g125 _ (st.slc hx))), (h_LdG rfl (g122 _ (st.slc hx))), (h_LdG rfl (g119 _ (st.slc hx))), trivial⟩, ?_⟩
          refine aN rfl rfl (by constructor) ?_
          rw [show rgetV xs 16 4 = rgetV xs ((16 : Nat) : Int) 4 from rfl, w_conv hb (by omega)]
          refine aBld rfl (by repeat constructor) ?_
          refine ⟨?_, trivial⟩
          refine aNewP st rfl rfl (by repeat constructor) fun b14 H21 st => ?_
          refine ⟨⟨(h_LdG rfl (g131 _ (st.slc hx))), (h_LdG rfl (g128 _ (st.slc hx))), (h_LdG rfl (g125 _ (st.slc hx))), (h_LdG rfl (g122 _ (st.slc hx))), (h_LdG rfl (g119 _ (st.slc hx))), trivial⟩, ?_⟩
          refine ⟨?_, trivial⟩
          refine aSt st 0 rfl rfl rfl rfl (by first | rfl | simp [cellsOf, *]) (by first | decide | (simp [*]; done) | (simp [k8]; done)) (by repeat constructor) fun H22 st => ?_
          refine ⟨trivial, ?_⟩
          refine pE ?_
          show AWl _ _ _ _ _
          refine aN rfl rfl (by constructor) ?_
          refine sE ?_
          show AW _ (.loop _) _ _ _
          refine AW_loopN (fun m t1 H1 => ∃ (j : Nat), m = 7 - j ∧ (j ≤ 7) ∧ t1 15 = .int .i64 (j : Int) ∧ Stt [] H H1 [⟨some b14, true, ⟨true, 26, [.int .u8 (xs.getD 0 0), .int .u8 (xs.getD 1 0), .int .u8 (xs.getD 2 0), .int .u8 (xs.getD 3 0), .int .u8 (xs.getD 9 0), .int .u32 (beN ((xs.drop 16).take 4)), .int .u32 (wj xs j 0), .int .u32 (wj xs j 1), .int .u32 (wj xs j 2), .int .u32 (wj xs j 3), .int .u32 (wj xs j 4), .int .u32 (wj xs j 5), .int .u32 (wj xs j 6), .slice none 0 0]⟩⟩, ⟨some b6, true, ⟨true, 26, [.int .u8 0, .int .u8 0, .int .u8 0, .int .u8 0, .int .u8 0, .int .u32 0, .int .u32 0, .int .u32 0, .int .u32 0, .int .u32 0, .int .u32 0, .int .u32 0, .int .u32 0, .slice none 0 0]⟩⟩]) (7 - 0) ⟨0, rfl, by omega, rfl, (st.sel [0, 1] (by decide))⟩ [15, 137, 138, 139, 140, 141, 142, 143, 144, 145, 146, 147, 148, 149] (by decide) ?_
          rintro m t1 H1 hk hI
          obtain ⟨j, rfl, hj, ht15, st⟩ := hI
          obtain ⟨u, rfl⟩ : ∃ u, t1 = (upd (mix [15, 137, 138, 139, 140, 141, 142, 143, 144, 145, 146, 147, 148, 149] _ u) (some 15) _) := ⟨t1, by rw [← hk, upd_self ht15]⟩
          clear hk ht15
          show AWl _ _ _ _ _
          iterate 2 refine aN rfl rfl (by constructor) ?_
          refine sE ?_
          show AW _ (.cond _ _ _) _ _ _
          refine cC' rfl (fun h23 => ?_) (fun h23 => ?_)
          ·have h23q := h23; try simp only [decide_eq_true_eq, decide_eq_false_iff_not, beq_iff_eq, beq_eq_false_iff_ne, bne_iff_ne, bne_eq_false_iff_eq, ne_eq, Decidable.not_not, Bool.not_eq_true, Bool.not_eq_false, gt_iff_lt, ge_iff_le, Int.not_lt, Int.not_le] at h23q
           have hlt : j < 7 := by have := of_decide_eq_true h23; omega
           show AWl _ _ _ _ _
           refine aN rfl rfl (by constructor) ?_
           refine aMovV x rfl ?_
           iterate 3 refine aN rfl rfl (by constructor) ?_
           refine aC (rnum_call (st.slc hx) hb (by omega) (by first | omega | (rw [wi (4 * (j : Int)) (by omega), wi _ (by omega)]; omega))) fun v146 H24 ⟨hv, st1⟩ => ?_
           subst hv
           replace st := st.call st1 rfl
           clear st1
           refine aN rfl rfl (by constructor) ?_
           rw [wi (4 * (j : Int)) (by omega), wi (20 + 4 * (j : Int)) (by omega), show (20 + 4 * (j : Int)) = ((20 + 4 * j : Nat) : Int) by omega, w_conv hb (by omega)]
           refine aN rfl rfl (by constructor) ?_
           refine aIxA rfl rfl (by omega) ?_
           refine aStAt st 0 rfl rfl rfl rfl rfl (by simp; omega) (row_set hlt) fun H25 st => ?_
           refine sE ?_
           show AWl _ _ _ _ _
           iterate 3 refine aN rfl rfl (by constructor) ?_
           refine sE ?_
           exact ⟨_, by omega, j + 1, rfl, by omega, congrArg (Value.int .i64) (wi _ (by omega)), (st.sel [0, 1] (by decide))⟩
          ·have h23q := h23; try simp only [decide_eq_true_eq, decide_eq_false_iff_not, beq_iff_eq, beq_eq_false_iff_ne, bne_iff_ne, bne_eq_false_iff_eq, ne_eq, Decidable.not_not, Bool.not_eq_true, Bool.not_eq_false, gt_iff_lt, ge_iff_le, Int.not_lt, Int.not_le] at h23q
           have hge : j = 7 := by have := of_decide_eq_false h23; omega
           subst hge
           show AWp _ _ _ _ _
           refine aN rfl rfl (by constructor) ?_
           refine aLd st 0 rfl rfl rfl (by constructor) ?_
           refine aMovV x rfl ?_
           iterate 3 refine aN rfl rfl (by constructor) ?_
           refine aBinV (.int .i64 ((48 + nOf xs : Nat) : Int)) (u := .int .i64 48) (u' := .int .i64 (nOf xs : Int)) rfl rfl (congrArg (fun z => some (Value.int .i64 z)) (by rw [wi _ (by omega)]; omega)) ?_
           refine aCutLH (st.slc hx) rfl rfl rfl (by omega) fun v157 s157 => ?_
           replace s157 := s157 _ hx
           replace s157 : Sl H 1 (nOf xs) (((xs.drop 48).take (nOf xs)).map (Value.int .u8)) v157 := by have e : ((48 + nOf xs : Nat) : Int).toNat - (48 : Int).toNat = nOf xs := (by omega); rw [e] at s157; exact s157
           refine ⟨?_, trivial⟩
           have st := st.nil 5
           have hnil : (Value.slice none 0 0) = accV none 0 1 := rfl
           refine aApp st 0 (ob := none) (n := 0) rfl rfl rfl (by decide) (rfl) (st.slc s157).src (by rw [List.length_map, List.length_take, List.length_drop]; omega) (by omega) (by omega) fun b158 H26 hp158 st => ?_
           rw [show 0 + nOf xs = nOf xs from Nat.zero_add _]
           rw [List.nil_append] at st
           refine ⟨trivial, ?_⟩
           refine aN rfl rfl (by constructor) ?_
           refine ⟨?_, trivial⟩
           refine aStAt st 1 rfl rfl rfl (by cases b158 <;> rfl) (by cases b158 <;> rfl) (by simp) (cs := [.int .u8 (xs.getD 0 0), .int .u8 (xs.getD 1 0), .int .u8 (xs.getD 2 0), .int .u8 (xs.getD 3 0), .int .u8 (xs.getD 9 0), .int .u32 (beN ((xs.drop 16).take 4)), .int .u32 (wj xs 7 0), .int .u32 (wj xs 7 1), .int .u32 (wj xs 7 2), .int .u32 (wj xs 7 3), .int .u32 (wj xs 7 4), .int .u32 (wj xs 7 5), .int .u32 (wj xs 7 6), accV b158 (nOf xs) 1]) rfl fun H27 st => ?_
           refine ⟨trivial, ?_⟩
           refine pE ?_
           show AWl _ _ _ _ _
           refine aLdAll st 1 rfl rfl (rfl) ?_
           refine aN rfl rfl (by constructor) ?_
           refine aStAllA st 2 rfl rfl rfl (rfl) (rfl) fun H28 st => ?_
           iterate 2 refine aN rfl rfl (by constructor) ?_
           refine sE ?_
           refine ⟨_, out3 (r_cellA st 2 rfl rfl (by first | decide | simp [*]) (by repeat constructor)) (r_tmp rfl (by constructor)) (r_tmp rfl (by constructor)) ⟨rfl, rfl, rfl⟩, ?_⟩
           have he := e_0 (d := false) hat (fun hc => by cases hc.1) hc3 hend (fun hc => by cases hc.1.1) hzr
           obtain ⟨hP, hN⟩ := decP_yes he
           have hdl : (decD xs false).data.length = nOf xs := by show (((xs.drop 48).take (nOf xs)) : List Int).length = _; rw [List.length_take, List.length_drop]; omega
           refine ⟨b158, ?_, ?_⟩
           ·rw [he, hP, hN, hdl, hE]; rfl
           ·rw [hP]; exact st.pick 0 rfl
         ·refine ⟨?_, trivial⟩
          refine aNewP st rfl rfl (by repeat constructor) fun b14 H29 st => ?_
          refine ⟨⟨(h_LdG rfl (g131 _ (st.slc hx))), (h_LdG rfl (g128 _ (st.slc hx))), (h_LdG rfl (g125 _ (st.slc hx))), (h_LdG rfl (g122 _ (st.slc hx))), (h_LdG rfl (g119 _ (st.slc hx))), trivial⟩, ?_⟩
          refine ⟨?_, trivial⟩
          refine aC (rnum_call (st.slc hx) hb (by omega) (by first | omega | (rw [wi (4 * (j : Int)) (by omega), wi _ (by omega)]; omega))) fun v134 H30 ⟨hv, st1⟩ => ?_
          subst hv
          replace st := st.call st1 rfl
          clear st1
          refine ⟨⟨(h_LdG rfl (g131 _ (st.slc hx))), (h_LdG rfl (g128 _ (st.slc hx))), (h_LdG rfl (g125 _ (st.slc hx))), (h_LdG rfl (g122 _ (st.slc hx))), (h_LdG rfl (g119 _ (st.slc hx))), trivial⟩, ?_⟩
          refine aN rfl rfl (by constructor) ?_
          rw [show rgetV xs 16 4 = rgetV xs ((16 : Nat) : Int) 4 from rfl, w_conv hb (by omega)]
          refine aBld rfl (by repeat constructor) ?_
          refine ⟨?_, trivial⟩
          refine aSt st 0 rfl rfl rfl rfl (by first | rfl | simp [cellsOf, *]) (by first | decide | (simp [*]; done) | (simp [k8]; done)) (by repeat constructor) fun H31 st => ?_
          refine ⟨trivial, ?_⟩
          refine pE ?_
          show AWl _ _ _ _ _
          refine aN rfl rfl (by constructor) ?_
          refine sE ?_
          show AW _ (.loop _) _ _ _
          refine AW_loopN (fun m t1 H1 => ∃ (j : Nat), m = 7 - j ∧ (j ≤ 7) ∧ t1 15 = .int .i64 (j : Int) ∧ Stt [] H H1 [⟨some b14, true, ⟨true, 26, [.int .u8 (xs.getD 0 0), .int .u8 (xs.getD 1 0), .int .u8 (xs.getD 2 0), .int .u8 (xs.getD 3 0), .int .u8 (xs.getD 9 0), .int .u32 (beN ((xs.drop 16).take 4)), .int .u32 (wj xs j 0), .int .u32 (wj xs j 1), .int .u32 (wj xs j 2), .int .u32 (wj xs j 3), .int .u32 (wj xs j 4), .int .u32 (wj xs j 5), .int .u32 (wj xs j 6), .slice none 0 0]⟩⟩, ⟨some b6, true, ⟨true, 26, [.int .u8 0, .int .u8 0, .int .u8 0, .int .u8 0, .int .u8 0, .int .u32 0, .int .u32 0, .int .u32 0, .int .u32 0, .int .u32 0, .int .u32 0, .int .u32 0, .int .u32 0, .slice none 0 0]⟩⟩]) (7 - 0) ⟨0, rfl, by omega, rfl, (st.sel [0, 1] (by decide))⟩ [15, 137, 138, 139, 140, 141, 142, 143, 144, 145, 146, 147, 148, 149] (by decide) ?_
          rintro m t1 H1 hk hI
          obtain ⟨j, rfl, hj, ht15, st⟩ := hI
          obtain ⟨u, rfl⟩ : ∃ u, t1 = (upd (mix [15, 137, 138, 139, 140, 141, 142, 143, 144, 145, 146, 147, 148, 149] _ u) (some 15) _) := ⟨t1, by rw [← hk, upd_self ht15]⟩
          clear hk ht15
          show AWl _ _ _ _ _
          iterate 2 refine aN rfl rfl (by constructor) ?_
          refine sE ?_
          show AW _ (.cond _ _ _) _ _ _
          refine cC' rfl (fun h32 => ?_) (fun h32 => ?_)
          ·have h32q := h32; try simp only [decide_eq_true_eq, decide_eq_false_iff_not, beq_iff_eq, beq_eq_false_iff_ne, bne_iff_ne, bne_eq_false_iff_eq, ne_eq, Decidable.not_not, Bool.not_eq_true, Bool.not_eq_false, gt_iff_lt, ge_iff_le, Int.not_lt, Int.not_le] at h32q
           have hlt : j < 7 := by have := of_decide_eq_true h32; omega
           show AWl _ _ _ _ _
           refine aN rfl rfl (by constructor) ?_
           refine aMovV x rfl ?_
           iterate 3 refine aN rfl rfl (by constructor) ?_
           refine aC (rnum_call (st.slc hx) hb (by omega) (by first | omega | (rw [wi (4 * (j : Int)) (by omega), wi _ (by omega)]; omega))) fun v146 H33 ⟨hv, st1⟩ => ?_
           subst hv
           replace st := st.call st1 rfl
           clear st1
           refine aN rfl rfl (by constructor) ?_
           rw [wi (4 * (j : Int)) (by omega), wi (20 + 4 * (j : Int)) (by omega), show (20 + 4 * (j : Int)) = ((20 + 4 * j : Nat) : Int) by omega, w_conv hb (by omega)]
           refine aN rfl rfl (by constructor) ?_
           refine aIxA rfl rfl (by omega) ?_
           refine aStAt st 0 rfl rfl rfl rfl rfl (by simp; omega) (row_set hlt) fun H34 st => ?_
           refine sE ?_
           show AWl _ _ _ _ _
           iterate 3 refine aN rfl rfl (by constructor) ?_
           refine sE ?_
           exact ⟨_, by omega, j + 1, rfl, by omega, congrArg (Value.int .i64) (wi _ (by omega)), (st.sel [0, 1] (by decide))⟩
          ·have h32q := h32; try simp only [decide_eq_true_eq, decide_eq_false_iff_not, beq_iff_eq, beq_eq_false_iff_ne, bne_iff_ne, bne_eq_false_iff_eq, ne_eq, Decidable.not_not, Bool.not_eq_true, Bool.not_eq_false, gt_iff_lt, ge_iff_le, Int.not_lt, Int.not_le] at h32q
           have hge : j = 7 := by have := of_decide_eq_false h32; omega
           subst hge
           show AWp _ _ _ _ _
           refine aN rfl rfl (by constructor) ?_
           refine aLd st 0 rfl rfl rfl (by constructor) ?_
           refine aMovV x rfl ?_
           iterate 3 refine aN rfl rfl (by constructor) ?_
           refine aBinV (.int .i64 ((48 + nOf xs : Nat) : Int)) (u := .int .i64 48) (u' := .int .i64 (nOf xs : Int)) rfl rfl (congrArg (fun z => some (Value.int .i64 z)) (by rw [wi _ (by omega)]; omega)) ?_
           refine aCutLH (st.slc hx) rfl rfl rfl (by omega) fun v157 s157 => ?_
           replace s157 := s157 _ hx
           replace s157 : Sl H 1 (nOf xs) (((xs.drop 48).take (nOf xs)).map (Value.int .u8)) v157 := by have e : ((48 + nOf xs : Nat) : Int).toNat - (48 : Int).toNat = nOf xs := (by omega); rw [e] at s157; exact s157
           refine ⟨?_, trivial⟩
           have st := st.nil 5
           have hnil : (Value.slice none 0 0) = accV none 0 1 := rfl
           refine aApp st 0 (ob := none) (n := 0) rfl rfl rfl (by decide) (rfl) (st.slc s157).src (by rw [List.length_map, List.length_take, List.length_drop]; omega) (by omega) (by omega) fun b158 H35 hp158 st => ?_
           rw [show 0 + nOf xs = nOf xs from Nat.zero_add _]
           rw [List.nil_append] at st
           refine ⟨trivial, ?_⟩
           refine aN rfl rfl (by constructor) ?_
           refine ⟨?_, trivial⟩
           refine aStAt st 1 rfl rfl rfl (by cases b158 <;> rfl) (by cases b158 <;> rfl) (by simp) (cs := [.int .u8 (xs.getD 0 0), .int .u8 (xs.getD 1 0), .int .u8 (xs.getD 2 0), .int .u8 (xs.getD 3 0), .int .u8 (xs.getD 9 0), .int .u32 (beN ((xs.drop 16).take 4)), .int .u32 (wj xs 7 0), .int .u32 (wj xs 7 1), .int .u32 (wj xs 7 2), .int .u32 (wj xs 7 3), .int .u32 (wj xs 7 4), .int .u32 (wj xs 7 5), .int .u32 (wj xs 7 6), accV b158 (nOf xs) 1]) rfl fun H36 st => ?_
           refine ⟨trivial, ?_⟩
           refine pE ?_
           show AWl _ _ _ _ _
           refine aLdAll st 1 rfl rfl (rfl) ?_
           refine aN rfl rfl (by constructor) ?_
           refine aStAllA st 2 rfl rfl rfl (rfl) (rfl) fun H37 st => ?_
           iterate 2 refine aN rfl rfl (by constructor) ?_
           refine sE ?_
           refine ⟨_, out3 (r_cellA st 2 rfl rfl (by first | decide | simp [*]) (by repeat constructor)) (r_tmp rfl (by constructor)) (r_tmp rfl (by constructor)) ⟨rfl, rfl, rfl⟩, ?_⟩
           have he := e_0 (d := false) hat (fun hc => by cases hc.1) hc3 hend (fun hc => by cases hc.1.1) hzr
           obtain ⟨hP, hN⟩ := decP_yes he
           have hdl : (decD xs false).data.length = nOf xs := by show (((xs.drop 48).take (nOf xs)) : List Int).length = _; rw [List.length_take, List.length_drop]; omega
           refine ⟨b158, ?_, ?_⟩
           ·rw [he, hP, hN, hdl, hE]; rfl
           ·rw [hP]; exact st.pick 0 rfl
end Go.Proofs.Ytfjlniemgmimnaa.Abs
