/- PDUs: read. -/
import Derived.Test.YtfjlniemgmimnaaU3B
set_option linter.unusedVariables false
set_option linter.unusedSimpArgs false
set_option maxRecDepth 100000
namespace Go.Proofs.Ytfjlniemgmimnaa.Abs
open Go Go.RowKit
theorem pdec_call_ff {H : Hp} {xs : List Int} {x : Value} (hx : Sl H 1 xs.length (xs.map (Value.int .u8)) x) (hb : ByteL xs) (hl : xs.length ≤ 140737488351232) :
    ACalls Try.prog 12 [x, .bool false, .bool false] H (fun v H' => ∃ ob, v = .tuple #[.agg #[.int .u8 (decP xs false false).op, .int .u8 (decP xs false false).fl, .int .u8 (decP xs false false).res, .int .u8 (decP xs false false).st, .int .u8 (decP xs false false).lun, .int .u32 (decP xs false false).tag, .int .u32 (decP xs false false).w0, .int .u32 (decP xs false false).w1, .int .u32 (decP xs false false).w2, .int .u32 (decP xs false false).w3, .int .u32 (decP xs false false).w4, .int .u32 (decP xs false false).w5, .int .u32 (decP xs false false).w6, accV ob (decP xs false false).data.length 1], .int .i64 (decN xs false false), .int .i64 (decE xs false false)] ∧ Stt [] H H' [⟨ob, true, ⟨true, 5, (decP xs false false).data.map (Value.int .u8)⟩⟩]) := by
  refine acallsW Try.func12 f12_ok (Nat.le_of_ble_eq_true rfl) fun hw => ?_
  have st : Stt [] H H [] := Stt.start hw
  unfold f12c
  show AWl _ _ _ _ _
  refine aNewP st rfl rfl (by repeat constructor) fun b6 H1 st => ?_
  refine aN rfl rfl (by constructor) ?_
  refine aN rfl rfl (by constructor) ?_
  refine sE ?_
  show AWl _ _ _ _ _
  refine aN rfl rfl (by constructor) ?_
  refine sE ?_
  show AWl _ _ _ _ _
  refine aN rfl rfl (by constructor) ?_
  refine sE ?_
  show AW _ (.cond _ _ _) _ _ _
  refine cF' rfl ?_
  show AWl _ _ _ _ _
  refine aMovV x rfl ?_
  refine aLen (st.slc hx) rfl ?_
  refine aN rfl rfl (by constructor) ?_
  refine aN rfl rfl (by constructor) ?_
  refine sE ?_
  show AW _ (.cond _ _ _) _ _ _
  refine cC' rfl (fun h2 => ?_) (fun h2 => ?_)
  · have h2q := h2; try simp only [decide_eq_true_eq, decide_eq_false_iff_not, beq_iff_eq, beq_eq_false_iff_ne, bne_iff_ne, bne_eq_false_iff_eq, ne_eq, Decidable.not_not, Bool.not_eq_true, Bool.not_eq_false, gt_iff_lt, ge_iff_le, Int.not_lt, Int.not_le] at h2q
    have hat : (xs.length < atN false) := by have := of_decide_eq_true h2; show (xs.length < 48); omega
    have hat2 : xs.length < 48 := by have : atN false = 48 := rfl; omega
    show AWl _ _ _ _ _
    refine aBld rfl (by repeat constructor) ?_
    refine aSt st 0 rfl rfl rfl rfl (by first | rfl | simp [cellsOf, *]) (by first | decide | simp [*]) (by repeat constructor) fun H3 st => ?_
    refine aN rfl rfl (by constructor) ?_
    refine aN rfl rfl (by constructor) ?_
    refine sE ?_
    refine ⟨_, out3 (r_cellA st 0 rfl rfl (by first | decide | simp [*]) (by repeat constructor)) (r_tmp rfl (by constructor)) (r_tmp rfl (by constructor)) ⟨rfl, rfl, rfl⟩, ?_⟩
    have he := e_8 (d := false) hat
    obtain ⟨hP, hN⟩ := decP_no he (by decide)
    exact ⟨none, by rw [he, hP, hN]; rfl, by rw [hP]; exact (st.nil 5).pick 0 rfl⟩
  · have h2q := h2; try simp only [decide_eq_true_eq, decide_eq_false_iff_not, beq_iff_eq, beq_eq_false_iff_ne, bne_iff_ne, bne_eq_false_iff_eq, ne_eq, Decidable.not_not, Bool.not_eq_true, Bool.not_eq_false, gt_iff_lt, ge_iff_le, Int.not_lt, Int.not_le] at h2q
    have hat : ¬ (xs.length < atN false) := by have := of_decide_eq_false h2; show ¬ (xs.length < 48); omega
    have hat2 : 48 ≤ xs.length := by have : atN false = 48 := rfl; omega
    show AWp _ _ _ _ _
    refine aN rfl rfl (by constructor) ?_
    refine aN rfl rfl (by constructor) ?_
    refine gF rfl (by decide) ?_
    refine gF rfl (by decide) ?_
    refine gF rfl (by decide) ?_
    refine gF rfl (by decide) ?_
    refine gF rfl (by decide) ?_
    refine gF rfl (by decide) ?_
    refine ⟨gF rfl (by decide) ?_, trivial⟩
    refine ⟨⟨⟨some false, .bool false, rfl⟩, trivial⟩, ?_⟩
    refine gF rfl (by decide) ?_
    refine gF rfl (by decide) ?_
    refine aN rfl rfl (by constructor) ?_
    refine pE ?_
    show AW _ (.cond _ _ _) _ _ _
    refine cF' rfl ?_
    show AWl _ _ _ _ _
    refine aMovV x rfl ?_
    refine aC (get_call (st.slc hx) hb (by omega) (by decide)) fun v49 H4 ⟨hv, st1⟩ => ?_
    subst hv
    replace st := st.call st1 rfl
    clear st1
    refine aN rfl rfl (by constructor) ?_
    refine aN rfl rfl (by constructor) ?_
    refine aN rfl rfl (by constructor) ?_
    refine aN rfl rfl (by constructor) ?_
    refine aN rfl rfl (by constructor) ?_
    refine sE ?_
    show AWl _ _ _ _ _
    refine aN rfl rfl (by constructor) ?_
    refine aN rfl rfl (by constructor) ?_
    rw [n_conv hb (by omega)]
    have hn24 := nOf_lt hb
    refine aN rfl rfl (by constructor) ?_
    refine sE ?_
    show AWl _ _ _ _ _
    refine aLit st rfl (by repeat constructor) fun b54 H5 st => ?_
    refine aN rfl rfl (by constructor) ?_
    refine aN rfl rfl (by constructor) ?_
    refine sE ?_
    show AW _ (.loop _) _ _ _
    refine AW_loopN (fun m t1 H1 => ∃ (j : Nat), m = 8 - j ∧ (j ≤ 8) ∧ (Rsv xs j) ∧ (0 < j → nOf xs ≤ 8192) ∧ t1 56 = .int .i64 (j : Int) ∧ Stt [] H H1 [⟨some b54, true, ⟨true, 3, [.int .i64 4, .int .i64 8, .int .i64 10, .int .i64 11, .int .i64 12, .int .i64 13, .int .i64 14, .int .i64 15]⟩⟩, ⟨some b6, true, ⟨true, 26, [.int .u8 0, .int .u8 0, .int .u8 0, .int .u8 0, .int .u8 0, .int .u32 0, .int .u32 0, .int .u32 0, .int .u32 0, .int .u32 0, .int .u32 0, .int .u32 0, .int .u32 0, .slice none 0 0]⟩⟩]) (8 - 0) ⟨0, rfl, by omega, fun i hi => by omega, fun h => by omega, rfl, (st.sel [0, 1] (by decide))⟩ [7, 8, 14, 56, 57, 58, 59, 60, 61, 62, 63, 64, 65, 66, 67, 68, 69, 70] (by decide) ?_
    rintro m t1 H1 hk hI
    obtain ⟨j, rfl, hj, hrv, hn0, ht56, st⟩ := hI
    obtain ⟨u, rfl⟩ : ∃ u, t1 = (upd (mix [7, 8, 14, 56, 57, 58, 59, 60, 61, 62, 63, 64, 65, 66, 67, 68, 69, 70] _ u) (some 56) _) := ⟨t1, by rw [← hk, upd_self ht56]⟩
    clear hk ht56
    show AWl _ _ _ _ _
    refine aN rfl rfl (by constructor) ?_
    refine sE ?_
    show AW _ (.cond _ _ _) _ _ _
    refine cC' rfl (fun h6 => ?_) (fun h6 => ?_)
    · have h6q := h6; try simp only [decide_eq_true_eq, decide_eq_false_iff_not, beq_iff_eq, beq_eq_false_iff_ne, bne_iff_ne, bne_eq_false_iff_eq, ne_eq, Decidable.not_not, Bool.not_eq_true, Bool.not_eq_false, gt_iff_lt, ge_iff_le, Int.not_lt, Int.not_le] at h6q
      have hlt : j < 8 := by have := of_decide_eq_true h6; simp at this; omega
      show AWl _ _ _ _ _
      refine aIxL rfl rfl (by omega) ?_
      refine aLd st 0 rfl rfl (rs_at hlt) (by constructor) ?_
      have hrs := rs_bd hlt
      refine aN rfl rfl (by constructor) ?_
      refine sE ?_
      show AWl _ _ _ _ _
      refine aMovV x rfl ?_
      refine aN rfl rfl (by constructor) ?_
      refine aIxBK (st.slc hx) rfl rfl (by omega) fun b62 o62 g62 => ?_
      refine aLdG rfl (g62 _ (st.slc hx)) ?_
      refine aN rfl rfl (by constructor) ?_
      refine aN rfl rfl (by constructor) ?_
      refine gCase 65 rfl (fun h7 => ?_) (fun h7 => ?_)
      · have h7q := h7; try simp only [decide_eq_true_eq, decide_eq_false_iff_not, beq_iff_eq, beq_eq_false_iff_ne, bne_iff_ne, bne_eq_false_iff_eq, ne_eq, Decidable.not_not, Bool.not_eq_true, Bool.not_eq_false, gt_iff_lt, ge_iff_le, Int.not_lt, Int.not_le] at h7q
        refine gF rfl (by decide) ?_
        refine gF rfl (by decide) ?_
        refine aN rfl rfl (by constructor) ?_
        refine sE ?_
        show AW _ (.cond _ _ _) _ _ _
        refine cT rfl ?_
        show AWl _ _ _ _ _
        refine aBld rfl (by repeat constructor) ?_
        refine aSt st 1 rfl rfl rfl rfl (by first | rfl | simp [cellsOf, *]) (by first | decide | simp [*]) (by repeat constructor) fun H8 st => ?_
        refine aN rfl rfl (by constructor) ?_
        refine aN rfl rfl (by constructor) ?_
        refine sE ?_
        refine ⟨_, out3 (r_cellA st 1 rfl rfl (by first | decide | simp [*]) (by repeat constructor)) (r_tmp rfl (by constructor)) (r_tmp rfl (by constructor)) ⟨rfl, rfl, rfl⟩, ?_⟩
        have he := e_3 (d := false) hat (fun hc => by cases hc.1) (.inr fun hr => h7q (hr j hlt))
        obtain ⟨hP, hN⟩ := decP_no he (by decide)
        exact ⟨none, by rw [he, hP, hN]; rfl, by rw [hP]; exact (st.nil 5).pick 0 rfl⟩
      · have h7q := h7; try simp only [decide_eq_true_eq, decide_eq_false_iff_not, beq_iff_eq, beq_eq_false_iff_ne, bne_iff_ne, bne_eq_false_iff_eq, ne_eq, Decidable.not_not, Bool.not_eq_true, Bool.not_eq_false, gt_iff_lt, ge_iff_le, Int.not_lt, Int.not_le] at h7q
        refine gT rfl ?_
        refine aN rfl rfl (by constructor) ?_
        refine gT rfl ?_
        refine aN rfl rfl (by constructor) ?_
        refine aN rfl rfl (by constructor) ?_
        refine sE ?_
        show AW _ (.cond _ _ _) _ _ _
        refine cC' rfl (fun h9 => ?_) (fun h9 => ?_)
        · have h9q := h9; try simp only [decide_eq_true_eq, decide_eq_false_iff_not, beq_iff_eq, beq_eq_false_iff_ne, bne_iff_ne, bne_eq_false_iff_eq, ne_eq, Decidable.not_not, Bool.not_eq_true, Bool.not_eq_false, gt_iff_lt, ge_iff_le, Int.not_lt, Int.not_le] at h9q
          show AWl _ _ _ _ _
          refine aBld rfl (by repeat constructor) ?_
          refine aSt st 1 rfl rfl rfl rfl (by first | rfl | simp [cellsOf, *]) (by first | decide | simp [*]) (by repeat constructor) fun H10 st => ?_
          refine aN rfl rfl (by constructor) ?_
          refine aN rfl rfl (by constructor) ?_
          refine sE ?_
          refine ⟨_, out3 (r_cellA st 1 rfl rfl (by first | decide | simp [*]) (by repeat constructor)) (r_tmp rfl (by constructor)) (r_tmp rfl (by constructor)) ⟨rfl, rfl, rfl⟩, ?_⟩
          have he := e_3 (d := false) hat (fun hc => by cases hc.1) (.inl (by omega))
          obtain ⟨hP, hN⟩ := decP_no he (by decide)
          exact ⟨none, by rw [he, hP, hN]; rfl, by rw [hP]; exact (st.nil 5).pick 0 rfl⟩
        · have h9q := h9; try simp only [decide_eq_true_eq, decide_eq_false_iff_not, beq_iff_eq, beq_eq_false_iff_ne, bne_iff_ne, bne_eq_false_iff_eq, ne_eq, Decidable.not_not, Bool.not_eq_true, Bool.not_eq_false, gt_iff_lt, ge_iff_le, Int.not_lt, Int.not_le] at h9q
          show AWl _ _ _ _ _
          refine aN rfl rfl (by constructor) ?_
          refine aN rfl rfl (by constructor) ?_
          refine sE ?_
          exact ⟨_, by omega, j + 1, rfl, by omega, hrv.step h7q, fun _ => by omega, congrArg (Value.int .i64) (wi _ (by omega)), (st.sel [0, 1] (by decide))⟩
    · have h6q := h6; try simp only [decide_eq_true_eq, decide_eq_false_iff_not, beq_iff_eq, beq_eq_false_iff_ne, bne_iff_ne, bne_eq_false_iff_eq, ne_eq, Decidable.not_not, Bool.not_eq_true, Bool.not_eq_false, gt_iff_lt, ge_iff_le, Int.not_lt, Int.not_le] at h6q
      have hge : j = 8 := by have := of_decide_eq_false h6; simp at this; omega
      subst hge
      have hn8 := hn0 (by decide)
      have hc3 : ¬ (nOf xs > 8192 ∨ ¬ Rsv xs 8) := fun hc => hc.elim (fun h => by omega) (fun h => h hrv)
      show AWl _ _ _ _ _
      refine aN rfl rfl (by constructor) ?_
      refine aN rfl rfl (by constructor) ?_
      refine aC (pad_call (by omega)) fun v73 H11 ⟨hv, st1⟩ => ?_
      subst hv
      replace st := st.call st1 rfl
      clear st1
      refine aBinV (.int .i64 (mOf xs : Int)) (u := .int .i64 (nOf xs : Int)) (u' := .int .i64 (padN (nOf xs) : Int)) rfl rfl (congrArg (fun z => some (Value.int .i64 z)) (by have := padN_le (nOf xs); rw [wi _ (by omega)]; unfold mOf; omega)) ?_
      have hm := mOf_le xs
      have hpl := padN_le (nOf xs)
      have hmd : mOf xs = nOf xs + padN (nOf xs) := rfl
      refine aN rfl rfl (by constructor) ?_
      refine sE ?_
      show AWl _ _ _ _ _
      refine aN rfl rfl (by constructor) ?_
      refine aN rfl rfl (by constructor) ?_
      refine aBinV (.int .i64 ((48 + mOf xs : Nat) : Int)) (u := .int .i64 48) (u' := .int .i64 (mOf xs : Int)) rfl rfl (congrArg (fun z => some (Value.int .i64 z)) (by rw [wi _ (by omega)]; omega)) ?_
      refine aN rfl rfl (by constructor) ?_
      refine sE ?_
      show AWl _ _ _ _ _
      refine aN rfl rfl (by constructor) ?_
      refine aN rfl rfl (by constructor) ?_
      refine gF rfl (by decide) ?_
      refine gF rfl (by decide) ?_
      refine aN rfl rfl (by constructor) ?_
      refine sE ?_
      show AW _ (.cond _ _ _) _ _ _
      refine cF' rfl ?_
      show AWl _ _ _ _ _
      refine aMovV x rfl ?_
      have hE : endN xs false false = 48 + mOf xs + 0 := by unfold endN; rw [if_neg (fun hc => by cases hc.1)]; rfl
      refine aLen (st.slc hx) rfl ?_
      refine aN rfl rfl (by constructor) ?_
      refine aN rfl rfl (by constructor) ?_
      refine sE ?_
      show AW _ (.cond _ _ _) _ _ _
      refine cC' rfl (fun h12 => ?_) (fun h12 => ?_)
      · have h12q := h12; try simp only [decide_eq_true_eq, decide_eq_false_iff_not, beq_iff_eq, beq_eq_false_iff_ne, bne_iff_ne, bne_eq_false_iff_eq, ne_eq, Decidable.not_not, Bool.not_eq_true, Bool.not_eq_false, gt_iff_lt, ge_iff_le, Int.not_lt, Int.not_le] at h12q
        have hend : (xs.length < endN xs false false) := by have := of_decide_eq_true h12; rw [hE]; omega
        show AWl _ _ _ _ _
        refine aBld rfl (by repeat constructor) ?_
        refine aSt st 1 rfl rfl rfl rfl (by first | rfl | simp [cellsOf, *]) (by first | decide | simp [*]) (by repeat constructor) fun H13 st => ?_
        refine aN rfl rfl (by constructor) ?_
        refine aN rfl rfl (by constructor) ?_
        refine sE ?_
        refine ⟨_, out3 (r_cellA st 1 rfl rfl (by first | decide | simp [*]) (by repeat constructor)) (r_tmp rfl (by constructor)) (r_tmp rfl (by constructor)) ⟨rfl, rfl, rfl⟩, ?_⟩
        have he := e_8' (d := false) hat (fun hc => by cases hc.1) hc3 hend
        obtain ⟨hP, hN⟩ := decP_no he (by decide)
        exact ⟨none, by rw [he, hP, hN]; rfl, by rw [hP]; exact (st.nil 5).pick 0 rfl⟩
      · have h12q := h12; try simp only [decide_eq_true_eq, decide_eq_false_iff_not, beq_iff_eq, beq_eq_false_iff_ne, bne_iff_ne, bne_eq_false_iff_eq, ne_eq, Decidable.not_not, Bool.not_eq_true, Bool.not_eq_false, gt_iff_lt, ge_iff_le, Int.not_lt, Int.not_le] at h12q
        have hend : ¬ (xs.length < endN xs false false) := by have := of_decide_eq_false h12; rw [hE]; omega
        show AWl _ _ _ _ _
        refine aMovV x rfl ?_
        refine aN rfl rfl (by constructor) ?_
        refine aN rfl rfl (by constructor) ?_
        refine aN rfl rfl (by constructor) ?_
        refine aBinV (.int .i64 ((48 + mOf xs : Nat) : Int)) (u := .int .i64 48) (u' := .int .i64 (mOf xs : Int)) rfl rfl (congrArg (fun z => some (Value.int .i64 z)) (by rw [wi _ (by omega)]; omega)) ?_
        refine aCutLH (st.slc hx) rfl rfl rfl (by omega) fun v95 s95 => ?_
        replace s95 := s95 _ hx
        replace s95 : Sl H 1 ((xs.drop 48).take (mOf xs)).length (((xs.drop 48).take (mOf xs)).map (Value.int .u8)) v95 := by rw [show ((xs.drop 48).take (mOf xs)).length = mOf xs by rw [List.length_take, List.length_drop]; omega]; have e : ((48 + mOf xs : Nat) : Int).toNat - (48 : Int).toNat = mOf xs := (by omega); rw [e] at s95; exact s95
        refine aMovV v95 rfl ?_
        refine sE ?_
        show AWp _ _ _ _ _
        refine aN rfl rfl (by constructor) ?_
        refine aN rfl rfl (by constructor) ?_
        refine gF rfl (by decide) ?_
        refine gF rfl (by decide) ?_
        refine aN rfl rfl (by constructor) ?_
        refine aN rfl rfl (by constructor) ?_
        refine gF rfl (by decide) ?_
        refine gF rfl (by decide) ?_
        refine gF rfl (by decide) ?_
        refine gF rfl (by decide) ?_
        refine gF rfl (by decide) ?_
        refine gF rfl (by decide) ?_
        refine gF rfl (by decide) ?_
        refine ⟨gF rfl (by decide) ?_, trivial⟩
        refine ⟨⟨⟨some false, .bool false, rfl⟩, trivial⟩, ?_⟩
        refine gF rfl (by decide) ?_
        refine gF rfl (by decide) ?_
        refine aN rfl rfl (by constructor) ?_
        refine pE ?_
        show AW _ (.cond _ _ _) _ _ _
        refine cF' rfl ?_
        show AWl _ _ _ _ _
        refine aMovV v95 rfl ?_
        refine aN rfl rfl (by constructor) ?_
        refine aCutL (st.slc s95) rfl rfl (by rw [List.length_take, List.length_drop]; omega) fun v116 s116 => ?_
        replace s116 := s116 _ s95
        replace s116 : Sl H 1 (padN (nOf xs)) ((((xs.drop 48).take (mOf xs)).drop (nOf xs)).map (Value.int .u8)) v116 := by have e : ((xs.drop 48).take (mOf xs)).length - ((nOf xs : Int)).toNat = padN (nOf xs) := (by rw [List.length_take, List.length_drop]; omega); rw [e] at s116; exact s116
        refine aLen (st.slc s116) rfl ?_
        refine aN rfl rfl (by constructor) ?_
        refine sE ?_
        show AW _ (.loop _) _ _ _
        refine AW_loopN (fun m t1 H1 => ∃ (j : Nat), m = padN (nOf xs) - j ∧ (j ≤ padN (nOf xs)) ∧ (Zer xs (48 + nOf xs) j) ∧ t1 118 = .int .i64 (j : Int) ∧ Stt [] H H1 [⟨some b6, true, ⟨true, 26, [.int .u8 0, .int .u8 0, .int .u8 0, .int .u8 0, .int .u8 0, .int .u32 0, .int .u32 0, .int .u32 0, .int .u32 0, .int .u32 0, .int .u32 0, .int .u32 0, .int .u32 0, .slice none 0 0]⟩⟩]) (padN (nOf xs) - 0) ⟨0, rfl, by omega, fun i hi => by omega, rfl, (st.sel [1] (by decide))⟩ [7, 8, 19, 118, 119, 120, 121, 122, 123, 124, 125] (by decide) ?_
        rintro m t1 H1 hk hI
        obtain ⟨j, rfl, hj, hzr, ht118, st⟩ := hI
        obtain ⟨u, rfl⟩ : ∃ u, t1 = (upd (mix [7, 8, 19, 118, 119, 120, 121, 122, 123, 124, 125] _ u) (some 118) _) := ⟨t1, by rw [← hk, upd_self ht118]⟩
        clear hk ht118
        show AWl _ _ _ _ _
        refine aN rfl rfl (by constructor) ?_
        refine sE ?_
        show AW _ (.cond _ _ _) _ _ _
        refine cC' rfl (fun h14 => ?_) (fun h14 => ?_)
        · have h14q := h14; try simp only [decide_eq_true_eq, decide_eq_false_iff_not, beq_iff_eq, beq_eq_false_iff_ne, bne_iff_ne, bne_eq_false_iff_eq, ne_eq, Decidable.not_not, Bool.not_eq_true, Bool.not_eq_false, gt_iff_lt, ge_iff_le, Int.not_lt, Int.not_le] at h14q
          have hlt : j < padN (nOf xs) := by have := of_decide_eq_true h14; omega
          show AWl _ _ _ _ _
          refine aIxBK (st.slc s116) rfl rfl (by omega) fun b120 o120 g120 => ?_
          refine aLdG rfl (g120 _ (st.slc s116)) ?_
          refine aN rfl rfl (by constructor) ?_
          refine sE ?_
          show AWl _ _ _ _ _
          refine aN rfl rfl (by constructor) ?_
          refine aN rfl rfl (by constructor) ?_
          refine sE ?_
          show AW _ (.cond _ _ _) _ _ _
          refine cC' rfl (fun h15 => ?_) (fun h15 => ?_)
          · have h15q := h15; try simp only [decide_eq_true_eq, decide_eq_false_iff_not, beq_iff_eq, beq_eq_false_iff_ne, bne_iff_ne, bne_eq_false_iff_eq, ne_eq, Decidable.not_not, Bool.not_eq_true, Bool.not_eq_false, gt_iff_lt, ge_iff_le, Int.not_lt, Int.not_le] at h15q
            have hz0 : (((xs.drop 48).take (mOf xs)).drop (nOf xs)).getD j 0 ≠ 0 := by simpa using h15
            rw [zer_at (by omega) (by unfold mOf; omega)] at hz0
            show AWl _ _ _ _ _
            refine aBld rfl (by repeat constructor) ?_
            refine aSt st 0 rfl rfl rfl rfl (by first | rfl | simp [cellsOf, *]) (by first | decide | simp [*]) (by repeat constructor) fun H16 st => ?_
            refine aN rfl rfl (by constructor) ?_
            refine aN rfl rfl (by constructor) ?_
            refine sE ?_
            refine ⟨_, out3 (r_cellA st 0 rfl rfl (by first | decide | simp [*]) (by repeat constructor)) (r_tmp rfl (by constructor)) (r_tmp rfl (by constructor)) ⟨rfl, rfl, rfl⟩, ?_⟩
            have he := e_3' (d := false) hat (fun hc => by cases hc.1) hc3 hend (fun hc => by cases hc.1.1) (fun hz => hz0 (hz j hlt))
            obtain ⟨hP, hN⟩ := decP_no he (by decide)
            exact ⟨none, by rw [he, hP, hN]; rfl, by rw [hP]; exact (st.nil 5).pick 0 rfl⟩
          · have h15q := h15; try simp only [decide_eq_true_eq, decide_eq_false_iff_not, beq_iff_eq, beq_eq_false_iff_ne, bne_iff_ne, bne_eq_false_iff_eq, ne_eq, Decidable.not_not, Bool.not_eq_true, Bool.not_eq_false, gt_iff_lt, ge_iff_le, Int.not_lt, Int.not_le] at h15q
            have hz0 : (((xs.drop 48).take (mOf xs)).drop (nOf xs)).getD j 0 = 0 := by simpa using h15
            rw [zer_at (by omega) (by unfold mOf; omega)] at hz0
            show AWl _ _ _ _ _
            refine aN rfl rfl (by constructor) ?_
            refine aN rfl rfl (by constructor) ?_
            refine sE ?_
            exact ⟨_, by omega, j + 1, rfl, by omega, hzr.step hz0, congrArg (Value.int .i64) (wi _ (by omega)), (st.sel [0] (by decide))⟩
        · have h14q := h14; try simp only [decide_eq_true_eq, decide_eq_false_iff_not, beq_iff_eq, beq_eq_false_iff_ne, bne_iff_ne, bne_eq_false_iff_eq, ne_eq, Decidable.not_not, Bool.not_eq_true, Bool.not_eq_false, gt_iff_lt, ge_iff_le, Int.not_lt, Int.not_le] at h14q
          have hge : j = padN (nOf xs) := by have := of_decide_eq_false h14; omega
          subst hge
          show AWp _ _ _ _ _
          refine aMovV x rfl ?_
          refine aIxBK (st.slc hx) rfl rfl (by omega) fun b127 o127 g127 => ?_
          refine aLdG rfl (g127 _ (st.slc hx)) ?_
          refine aMovV x rfl ?_
          refine aIxBK (st.slc hx) rfl rfl (by omega) fun b130 o130 g130 => ?_
          refine aLdG rfl (g130 _ (st.slc hx)) ?_
          refine aMovV x rfl ?_
          refine aIxBK (st.slc hx) rfl rfl (by omega) fun b133 o133 g133 => ?_
          refine aLdG rfl (g133 _ (st.slc hx)) ?_
          refine aMovV x rfl ?_
          refine aIxBK (st.slc hx) rfl rfl (by omega) fun b136 o136 g136 => ?_
          refine aLdG rfl (g136 _ (st.slc hx)) ?_
          refine aMovV x rfl ?_
          refine aIxBK (st.slc hx) rfl rfl (by omega) fun b139 o139 g139 => ?_
          refine aLdG rfl (g139 _ (st.slc hx)) ?_
          refine aMovV v95 rfl ?_
          refine aN rfl rfl (by constructor) ?_
          refine aCutH (st.slc s95) rfl rfl (by rw [List.length_take, List.length_drop]; omega) fun v143 s143 => ?_
          replace s143 := s143 _ s95
          replace s143 : Sl H 1 (nOf xs) (((xs.drop 48).take (nOf xs)).map (Value.int .u8)) v143 := by have e : ((xs.drop 48).take (mOf xs)).take ((nOf xs : Int)).toNat = (xs.drop 48).take (nOf xs) := (by rw [List.take_take]; congr 1; omega); rw [e] at s143; exact s143
          refine ⟨?_, ?_⟩
          · have st := st.nil 5
            have hnil : (Value.slice none 0 0) = accV none 0 1 := rfl
            refine aApp st 0 (ob := none) (n := 0) rfl rfl rfl (by decide) (rfl) (st.slc s143).src (by rw [List.length_map, List.length_take, List.length_drop]; omega) (by omega) (by omega) fun b144 H17 hp144 st => ?_
            rw [show 0 + nOf xs = nOf xs from Nat.zero_add _]
            rw [List.nil_append] at st
            refine ⟨⟨(h_LdG rfl (g139 _ (st.slc hx))), (h_LdG rfl (g136 _ (st.slc hx))), (h_LdG rfl (g133 _ (st.slc hx))), (h_LdG rfl (g130 _ (st.slc hx))), (h_LdG rfl (g127 _ (st.slc hx))), trivial⟩, ?_⟩
            refine aBld (xs := [.int .u8 (xs.getD 0 0), .int .u8 (xs.getD 1 0), .int .u8 (xs.getD 2 0), .int .u8 (xs.getD 3 0), .int .u8 (xs.getD 9 0), .int .u32 0, .int .u32 0, .int .u32 0, .int .u32 0, .int .u32 0, .int .u32 0, .int .u32 0, .int .u32 0, accV b144 (nOf xs) 1]) (by cases b144 <;> rfl) (.any _) ?_
            refine ⟨?_, trivial⟩
            refine aNewP st rfl rfl (by repeat constructor) fun b20 H18 st => ?_
            refine ⟨⟨(h_LdG rfl (g139 _ (st.slc hx))), (h_LdG rfl (g136 _ (st.slc hx))), (h_LdG rfl (g133 _ (st.slc hx))), (h_LdG rfl (g130 _ (st.slc hx))), (h_LdG rfl (g127 _ (st.slc hx))), trivial⟩, ?_⟩
            refine ⟨?_, trivial⟩
            refine aSt st 0 rfl rfl rfl rfl (by first | rfl | simp [cellsOf, *]) (by first | decide | simp [*]) (by repeat constructor) fun H19 st => ?_
            refine ⟨trivial, ?_⟩
            refine pE ?_
            show AWl _ _ _ _ _
            refine aMovV x rfl ?_
            refine aC (get_call (st.slc hx) hb (by omega) (by decide)) fun v148 H20 ⟨hv, st1⟩ => ?_
            subst hv
            replace st := st.call st1 rfl
            clear st1
            refine aN rfl rfl (by constructor) ?_
            refine aN rfl rfl (by constructor) ?_
            refine aN rfl rfl (by constructor) ?_
            refine aN rfl rfl (by constructor) ?_
            refine aN rfl rfl (by constructor) ?_
            refine sE ?_
            show AWl _ _ _ _ _
            refine aN rfl rfl (by constructor) ?_
            refine aN rfl rfl (by constructor) ?_
            rw [show rgetV xs 16 4 = rgetV xs ((16 : Nat) : Int) 4 from rfl, w_conv hb (by omega)]
            refine aN rfl rfl (by constructor) ?_
            refine aSt st 0 rfl rfl rfl rfl (by first | rfl | simp [cellsOf, *]) (by first | decide | simp [*]) (by repeat constructor) fun H21 st => ?_
            refine sE ?_
            show AWl _ _ _ _ _
            refine aN rfl rfl (by constructor) ?_
            refine sE ?_
            show AW _ (.loop _) _ _ _
            refine AW_loopN (fun m t1 H1 => ∃ (j : Nat), m = 7 - j ∧ (j ≤ 7) ∧ t1 154 = .int .i64 (j : Int) ∧ Stt [] H H1 [⟨b144, true, ⟨true, 5, ((xs.drop 48).take (nOf xs)).map (Value.int .u8)⟩⟩, ⟨some b20, true, ⟨true, 26, [.int .u8 (xs.getD 0 0), .int .u8 (xs.getD 1 0), .int .u8 (xs.getD 2 0), .int .u8 (xs.getD 3 0), .int .u8 (xs.getD 9 0), .int .u32 (beN ((xs.drop 16).take 4)), .int .u32 (wj xs j 0), .int .u32 (wj xs j 1), .int .u32 (wj xs j 2), .int .u32 (wj xs j 3), .int .u32 (wj xs j 4), .int .u32 (wj xs j 5), .int .u32 (wj xs j 6), accV b144 (nOf xs) 1]⟩⟩, ⟨some b6, true, ⟨true, 26, [.int .u8 0, .int .u8 0, .int .u8 0, .int .u8 0, .int .u8 0, .int .u32 0, .int .u32 0, .int .u32 0, .int .u32 0, .int .u32 0, .int .u32 0, .int .u32 0, .int .u32 0, .slice none 0 0]⟩⟩]) (7 - 0) ⟨0, rfl, by omega, rfl, (st.sel [1, 0, 2] (by decide))⟩ [23, 24, 25, 154, 155, 156, 157, 158, 159, 160, 161, 162, 163, 164, 165, 166, 167, 168, 169, 170] (by decide) ?_
            rintro m t1 H1 hk hI
            obtain ⟨j, rfl, hj, ht154, st⟩ := hI
            obtain ⟨u, rfl⟩ : ∃ u, t1 = (upd (mix [23, 24, 25, 154, 155, 156, 157, 158, 159, 160, 161, 162, 163, 164, 165, 166, 167, 168, 169, 170] _ u) (some 154) _) := ⟨t1, by rw [← hk, upd_self ht154]⟩
            clear hk ht154
            show AWl _ _ _ _ _
            refine aN rfl rfl (by constructor) ?_
            refine sE ?_
            show AW _ (.cond _ _ _) _ _ _
            refine cC' rfl (fun h22 => ?_) (fun h22 => ?_)
            · have h22q := h22; try simp only [decide_eq_true_eq, decide_eq_false_iff_not, beq_iff_eq, beq_eq_false_iff_ne, bne_iff_ne, bne_eq_false_iff_eq, ne_eq, Decidable.not_not, Bool.not_eq_true, Bool.not_eq_false, gt_iff_lt, ge_iff_le, Int.not_lt, Int.not_le] at h22q
              have hlt : j < 7 := by have := of_decide_eq_true h22; omega
              show AWl _ _ _ _ _
              refine aN rfl rfl (by constructor) ?_
              refine aN rfl rfl (by constructor) ?_
              refine sE ?_
              show AWl _ _ _ _ _
              refine aMovV x rfl ?_
              refine aN rfl rfl (by constructor) ?_
              refine aN rfl rfl (by constructor) ?_
              refine aN rfl rfl (by constructor) ?_
              refine aC (get_call (st.slc hx) hb (by omega) (by decide)) fun v162 H23 ⟨hv, st1⟩ => ?_
              subst hv
              replace st := st.call st1 rfl
              clear st1
              refine aN rfl rfl (by constructor) ?_
              refine aN rfl rfl (by constructor) ?_
              refine aN rfl rfl (by constructor) ?_
              refine aN rfl rfl (by constructor) ?_
              refine aN rfl rfl (by constructor) ?_
              refine sE ?_
              show AWl _ _ _ _ _
              refine aN rfl rfl (by constructor) ?_
              refine aN rfl rfl (by constructor) ?_
              refine aN rfl rfl (by constructor) ?_
              rw [wi (4 * (j : Int)) (by omega), wi (20 + 4 * (j : Int)) (by omega), show (20 + 4 * (j : Int)) = ((20 + 4 * j : Nat) : Int) by omega, w_conv hb (by omega)]
              refine aN rfl rfl (by constructor) ?_
              refine aIxA rfl rfl (by omega) ?_
              refine aStAt st 1 rfl rfl rfl rfl rfl (by simp; omega) (row_set hlt) fun H24 st => ?_
              refine sE ?_
              show AWl _ _ _ _ _
              refine aN rfl rfl (by constructor) ?_
              refine aN rfl rfl (by constructor) ?_
              refine sE ?_
              exact ⟨_, by omega, j + 1, rfl, by omega, congrArg (Value.int .i64) (wi _ (by omega)), (st.sel [0, 1, 2] (by decide))⟩
            · have h22q := h22; try simp only [decide_eq_true_eq, decide_eq_false_iff_not, beq_iff_eq, beq_eq_false_iff_ne, bne_iff_ne, bne_eq_false_iff_eq, ne_eq, Decidable.not_not, Bool.not_eq_true, Bool.not_eq_false, gt_iff_lt, ge_iff_le, Int.not_lt, Int.not_le] at h22q
              have hge : j = 7 := by have := of_decide_eq_false h22; omega
              subst hge
              show AWl _ _ _ _ _
              refine aLdAll st 1 rfl rfl (rfl) ?_
              refine aN rfl rfl (by constructor) ?_
              refine aStAllA st 2 rfl rfl rfl (rfl) (rfl) fun H25 st => ?_
              refine aN rfl rfl (by constructor) ?_
              refine aN rfl rfl (by constructor) ?_
              refine sE ?_
              refine ⟨_, out3 (r_cellA st 2 rfl rfl (by first | decide | simp [*]) (by repeat constructor)) (r_tmp rfl (by constructor)) (r_tmp rfl (by constructor)) ⟨rfl, rfl, rfl⟩, ?_⟩
              have he := e_0 (d := false) hat (fun hc => by cases hc.1) hc3 hend (fun hc => by cases hc.1.1) hzr
              obtain ⟨hP, hN⟩ := decP_yes he
              have hdl : (decD xs false).data.length = nOf xs := by show (((xs.drop 48).take (nOf xs)) : List Int).length = _; rw [List.length_take, List.length_drop]; omega
              refine ⟨b144, ?_, ?_⟩
              · rw [he, hP, hN, hdl, hE]; rfl
              · rw [hP]; exact st.pick 0 rfl
          · refine ⟨?_, trivial⟩
            refine aNewP st rfl rfl (by repeat constructor) fun b20 H26 st => ?_
            refine ⟨⟨(h_LdG rfl (g139 _ (st.slc hx))), (h_LdG rfl (g136 _ (st.slc hx))), (h_LdG rfl (g133 _ (st.slc hx))), (h_LdG rfl (g130 _ (st.slc hx))), (h_LdG rfl (g127 _ (st.slc hx))), trivial⟩, ?_⟩
            refine ⟨?_, trivial⟩
            have st := st.nil 5
            have hnil : (Value.slice none 0 0) = accV none 0 1 := rfl
            refine aApp st 0 (ob := none) (n := 0) rfl rfl rfl (by decide) (rfl) (st.slc s143).src (by rw [List.length_map, List.length_take, List.length_drop]; omega) (by omega) (by omega) fun b144 H27 hp144 st => ?_
            rw [show 0 + nOf xs = nOf xs from Nat.zero_add _]
            rw [List.nil_append] at st
            refine ⟨⟨(h_LdG rfl (g139 _ (st.slc hx))), (h_LdG rfl (g136 _ (st.slc hx))), (h_LdG rfl (g133 _ (st.slc hx))), (h_LdG rfl (g130 _ (st.slc hx))), (h_LdG rfl (g127 _ (st.slc hx))), trivial⟩, ?_⟩
            refine aBld (xs := [.int .u8 (xs.getD 0 0), .int .u8 (xs.getD 1 0), .int .u8 (xs.getD 2 0), .int .u8 (xs.getD 3 0), .int .u8 (xs.getD 9 0), .int .u32 0, .int .u32 0, .int .u32 0, .int .u32 0, .int .u32 0, .int .u32 0, .int .u32 0, .int .u32 0, accV b144 (nOf xs) 1]) (by cases b144 <;> rfl) (.any _) ?_
            refine ⟨?_, trivial⟩
            refine aSt st 1 rfl rfl rfl rfl (by first | rfl | simp [cellsOf, *]) (by first | decide | simp [*]) (by repeat constructor) fun H28 st => ?_
            refine ⟨trivial, ?_⟩
            refine pE ?_
            show AWl _ _ _ _ _
            refine aMovV x rfl ?_
            refine aC (get_call (st.slc hx) hb (by omega) (by decide)) fun v148 H29 ⟨hv, st1⟩ => ?_
            subst hv
            replace st := st.call st1 rfl
            clear st1
            refine aN rfl rfl (by constructor) ?_
            refine aN rfl rfl (by constructor) ?_
            refine aN rfl rfl (by constructor) ?_
            refine aN rfl rfl (by constructor) ?_
            refine aN rfl rfl (by constructor) ?_
            refine sE ?_
            show AWl _ _ _ _ _
            refine aN rfl rfl (by constructor) ?_
            refine aN rfl rfl (by constructor) ?_
            rw [show rgetV xs 16 4 = rgetV xs ((16 : Nat) : Int) 4 from rfl, w_conv hb (by omega)]
            refine aN rfl rfl (by constructor) ?_
            refine aSt st 1 rfl rfl rfl rfl (by first | rfl | simp [cellsOf, *]) (by first | decide | simp [*]) (by repeat constructor) fun H30 st => ?_
            refine sE ?_
            show AWl _ _ _ _ _
            refine aN rfl rfl (by constructor) ?_
            refine sE ?_
            show AW _ (.loop _) _ _ _
            refine AW_loopN (fun m t1 H1 => ∃ (j : Nat), m = 7 - j ∧ (j ≤ 7) ∧ t1 154 = .int .i64 (j : Int) ∧ Stt [] H H1 [⟨b144, true, ⟨true, 5, ((xs.drop 48).take (nOf xs)).map (Value.int .u8)⟩⟩, ⟨some b20, true, ⟨true, 26, [.int .u8 (xs.getD 0 0), .int .u8 (xs.getD 1 0), .int .u8 (xs.getD 2 0), .int .u8 (xs.getD 3 0), .int .u8 (xs.getD 9 0), .int .u32 (beN ((xs.drop 16).take 4)), .int .u32 (wj xs j 0), .int .u32 (wj xs j 1), .int .u32 (wj xs j 2), .int .u32 (wj xs j 3), .int .u32 (wj xs j 4), .int .u32 (wj xs j 5), .int .u32 (wj xs j 6), accV b144 (nOf xs) 1]⟩⟩, ⟨some b6, true, ⟨true, 26, [.int .u8 0, .int .u8 0, .int .u8 0, .int .u8 0, .int .u8 0, .int .u32 0, .int .u32 0, .int .u32 0, .int .u32 0, .int .u32 0, .int .u32 0, .int .u32 0, .int .u32 0, .slice none 0 0]⟩⟩]) (7 - 0) ⟨0, rfl, by omega, rfl, (st.sel [0, 1, 2] (by decide))⟩ [23, 24, 25, 154, 155, 156, 157, 158, 159, 160, 161, 162, 163, 164, 165, 166, 167, 168, 169, 170] (by decide) ?_
            rintro m t1 H1 hk hI
            obtain ⟨j, rfl, hj, ht154, st⟩ := hI
            obtain ⟨u, rfl⟩ : ∃ u, t1 = (upd (mix [23, 24, 25, 154, 155, 156, 157, 158, 159, 160, 161, 162, 163, 164, 165, 166, 167, 168, 169, 170] _ u) (some 154) _) := ⟨t1, by rw [← hk, upd_self ht154]⟩
            clear hk ht154
            show AWl _ _ _ _ _
            refine aN rfl rfl (by constructor) ?_
            refine sE ?_
            show AW _ (.cond _ _ _) _ _ _
            refine cC' rfl (fun h31 => ?_) (fun h31 => ?_)
            · have h31q := h31; try simp only [decide_eq_true_eq, decide_eq_false_iff_not, beq_iff_eq, beq_eq_false_iff_ne, bne_iff_ne, bne_eq_false_iff_eq, ne_eq, Decidable.not_not, Bool.not_eq_true, Bool.not_eq_false, gt_iff_lt, ge_iff_le, Int.not_lt, Int.not_le] at h31q
              have hlt : j < 7 := by have := of_decide_eq_true h31; omega
              show AWl _ _ _ _ _
              refine aN rfl rfl (by constructor) ?_
              refine aN rfl rfl (by constructor) ?_
              refine sE ?_
              show AWl _ _ _ _ _
              refine aMovV x rfl ?_
              refine aN rfl rfl (by constructor) ?_
              refine aN rfl rfl (by constructor) ?_
              refine aN rfl rfl (by constructor) ?_
              refine aC (get_call (st.slc hx) hb (by omega) (by decide)) fun v162 H32 ⟨hv, st1⟩ => ?_
              subst hv
              replace st := st.call st1 rfl
              clear st1
              refine aN rfl rfl (by constructor) ?_
              refine aN rfl rfl (by constructor) ?_
              refine aN rfl rfl (by constructor) ?_
              refine aN rfl rfl (by constructor) ?_
              refine aN rfl rfl (by constructor) ?_
              refine sE ?_
              show AWl _ _ _ _ _
              refine aN rfl rfl (by constructor) ?_
              refine aN rfl rfl (by constructor) ?_
              refine aN rfl rfl (by constructor) ?_
              rw [wi (4 * (j : Int)) (by omega), wi (20 + 4 * (j : Int)) (by omega), show (20 + 4 * (j : Int)) = ((20 + 4 * j : Nat) : Int) by omega, w_conv hb (by omega)]
              refine aN rfl rfl (by constructor) ?_
              refine aIxA rfl rfl (by omega) ?_
              refine aStAt st 1 rfl rfl rfl rfl rfl (by simp; omega) (row_set hlt) fun H33 st => ?_
              refine sE ?_
              show AWl _ _ _ _ _
              refine aN rfl rfl (by constructor) ?_
              refine aN rfl rfl (by constructor) ?_
              refine sE ?_
              exact ⟨_, by omega, j + 1, rfl, by omega, congrArg (Value.int .i64) (wi _ (by omega)), (st.sel [0, 1, 2] (by decide))⟩
            · have h31q := h31; try simp only [decide_eq_true_eq, decide_eq_false_iff_not, beq_iff_eq, beq_eq_false_iff_ne, bne_iff_ne, bne_eq_false_iff_eq, ne_eq, Decidable.not_not, Bool.not_eq_true, Bool.not_eq_false, gt_iff_lt, ge_iff_le, Int.not_lt, Int.not_le] at h31q
              have hge : j = 7 := by have := of_decide_eq_false h31; omega
              subst hge
              show AWl _ _ _ _ _
              refine aLdAll st 1 rfl rfl (rfl) ?_
              refine aN rfl rfl (by constructor) ?_
              refine aStAllA st 2 rfl rfl rfl (rfl) (rfl) fun H34 st => ?_
              refine aN rfl rfl (by constructor) ?_
              refine aN rfl rfl (by constructor) ?_
              refine sE ?_
              refine ⟨_, out3 (r_cellA st 2 rfl rfl (by first | decide | simp [*]) (by repeat constructor)) (r_tmp rfl (by constructor)) (r_tmp rfl (by constructor)) ⟨rfl, rfl, rfl⟩, ?_⟩
              have he := e_0 (d := false) hat (fun hc => by cases hc.1) hc3 hend (fun hc => by cases hc.1.1) hzr
              obtain ⟨hP, hN⟩ := decP_yes he
              have hdl : (decD xs false).data.length = nOf xs := by show (((xs.drop 48).take (nOf xs)) : List Int).length = _; rw [List.length_take, List.length_drop]; omega
              refine ⟨b144, ?_, ?_⟩
              · rw [he, hP, hN, hdl, hE]; rfl
              · rw [hP]; exact st.pick 0 rfl
end Go.Proofs.Ytfjlniemgmimnaa.Abs
