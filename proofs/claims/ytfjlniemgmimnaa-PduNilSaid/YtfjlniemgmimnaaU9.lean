/- PDUs: PduBytes, PduLengths. -/
import Derived.Test.YtfjlniemgmimnaaU8
set_option linter.unusedVariables false
set_option linter.unusedSimpArgs false
set_option maxRecDepth 100000
namespace Go.Proofs.Ytfjlniemgmimnaa.Abs
open Go Go.RowKit
theorem bytes_call {H : Hp} {p : Pd} {x : Value} {hd dt : Bool} (hp : p.wf) (hx : Sl H 1 p.data.length (p.data.map (Value.int .u8)) x) :
    ACalls Try.prog 3 [.agg #[.int .u8 p.op, .int .u8 p.fl, .int .u8 p.res, .int .u8 p.st, .int .u8 p.lun, .int .u32 p.tag, .int .u32 p.w0, .int .u32 p.w1, .int .u32 p.w2, .int .u32 p.w3, .int .u32 p.w4, .int .u32 p.w5, .int .u32 p.w6, x], .bool hd, .bool dt] H (fun v _ => v = .bool true) := by
  refine acallsW Try.func3 f3_ok (Nat.le_of_ble_eq_true rfl) fun hw => ?_
  have st : Stt [] H H [] := Stt.start hw
  unfold f3c
  show AWl _ _ _ _ _
  refine aBoxN st rfl rfl (by repeat constructor) rfl fun b3 H1 st => ?_
  refine aN rfl rfl (by constructor) ?_
  refine sE ?_
  show AWl _ _ _ _ _
  refine aC (awake_call) fun v14 H2 ⟨hv, st1⟩ => ?_
  subst hv
  replace st := st.call st1 rfl
  clear st1
  refine aN rfl rfl (by constructor) ?_
  refine aN rfl rfl (by constructor) ?_
  refine aN rfl rfl (by constructor) ?_
  refine aN rfl rfl (by constructor) ?_
  refine aN rfl rfl (by constructor) ?_
  refine aN rfl rfl (by constructor) ?_
  refine aN rfl rfl (by constructor) ?_
  refine aN rfl rfl (by constructor) ?_
  refine aN rfl rfl (by constructor) ?_
  refine aN rfl rfl (by constructor) ?_
  refine aN rfl rfl (by constructor) ?_
  refine sE ?_
  show AW _ (.cond _ _ _) _ _ _
  refine cF' rfl ?_
  show AWl _ _ _ _ _
  refine aLdA st 0 rfl rfl (by first | decide | simp [*]) (by repeat constructor) ?_
  refine aN rfl rfl (by constructor) ?_
  refine aN rfl rfl (by constructor) ?_
  refine aC (enc_call hp (st.slc hx)) fun v30 H3 ⟨ob30, hv, st1⟩ => ?_
  subst hv
  replace st := st.call st1 rfl
  clear st1
  refine aN rfl rfl (by constructor) ?_
  refine aExtA rfl rfl ?_
  refine aN rfl rfl (by constructor) ?_
  refine aMovA rfl ?_
  refine aN rfl rfl (by constructor) ?_
  refine sE ?_
  show AWl _ _ _ _ _
  refine aLdA st 1 rfl rfl (by first | decide | simp [*]) (by repeat constructor) ?_
  refine aN rfl rfl (by constructor) ?_
  refine aN rfl rfl (by constructor) ?_
  refine aC (renc_call hp (st.slc hx)) fun v37 H4 ⟨ob37, hv, st1⟩ => ?_
  subst hv
  replace st := st.call st1 rfl
  clear st1
  refine aN rfl rfl (by constructor) ?_
  refine aExtA rfl rfl ?_
  refine aN rfl rfl (by constructor) ?_
  refine aMovA rfl ?_
  refine aN rfl rfl (by constructor) ?_
  refine sE ?_
  show AWl _ _ _ _ _
  refine aN rfl rfl (by constructor) ?_
  refine aN rfl rfl (by constructor) ?_
  refine aBinV (.bool false) (u := .int .i64 (encE p)) (u' := .int .i64 (encE p)) rfl rfl (by simp [aBin, isShift, aInt]) ?_
  refine aN rfl rfl (by constructor) ?_
  refine gT rfl ?_
  refine aMovA rfl ?_
  refine gT rfl ?_
  refine aText (st.rowAcc 1 rfl (by decide) (by simp)) rfl ?_
  refine gT rfl ?_
  refine aMovA rfl ?_
  refine gT rfl ?_
  refine aText (st.rowAcc 0 rfl (by decide) (by simp)) rfl ?_
  refine gT rfl ?_
  refine aBinV (.bool false) (u := .string (ofInts (encR p hd dt))) (u' := .string (ofInts (encR p hd dt))) rfl rfl (by simp [aBin, aStr]) ?_
  refine aN rfl rfl (by constructor) ?_
  refine sE ?_
  show AW _ (.cond _ _ _) _ _ _
  refine cF' rfl ?_
  show AWl _ _ _ _ _
  refine aN rfl rfl (by constructor) ?_
  refine aN rfl rfl (by constructor) ?_
  refine sE ?_
  show AW _ (.cond _ _ _) _ _ _
  refine cC' rfl (fun h5 => ?_) (fun h5 => ?_)
  · show AWl _ _ _ _ _
    refine aN rfl rfl (by constructor) ?_
    refine sE ?_
    refine ⟨_, out1 (r_tmp rfl (by constructor)), ?_⟩
    rfl
  · have hE : encE p = 0 := by simpa using h5
    have hn : p.data.length ≤ 8192 := by unfold encE at hE; split at hE; exact absurd hE (by decide); omega
    have e1 : encR p hd dt = encB p hd dt := if_neg (by omega)
    obtain ⟨d1, d2, d3⟩ := enc_dec hp hn hd dt
    rw [e1] at st ⊢
    show AWl _ _ _ _ _
    refine aMovA rfl ?_
    refine aN rfl rfl (by constructor) ?_
    refine aN rfl rfl (by constructor) ?_
    refine aC (pdec_call (st.rowAcc 1 rfl (by decide) (by simp)) (encB_bytes hp hd dt) (by have := encB_le hn hd dt; omega)) fun v56 H6 ⟨ob56, hv, st1⟩ => ?_
    subst hv
    replace st := st.call st1 rfl
    clear st1
    rw [d2] at st ⊢
    refine aN rfl rfl (by constructor) ?_
    refine aN rfl rfl (by constructor) ?_
    refine aN rfl rfl (by constructor) ?_
    refine aN rfl rfl (by constructor) ?_
    refine aNewP st rfl rfl (by repeat constructor) fun b11 H7 st => ?_
    refine aSt st 0 rfl rfl rfl rfl (by first | rfl | simp [cellsOf, *]) (by first | decide | simp [*]) (by repeat constructor) fun H8 st => ?_
    refine aN rfl rfl (by constructor) ?_
    refine aN rfl rfl (by constructor) ?_
    refine sE ?_
    show AWl _ _ _ _ _
    refine aN rfl rfl (by constructor) ?_
    refine aBinV (.bool true) (u := .int .i64 (decE (encB p hd dt) hd dt)) (u' := .int .i64 0) rfl rfl (by rw [d1]; rfl) ?_
    refine aN rfl rfl (by constructor) ?_
    refine gT rfl ?_
    refine aN rfl rfl (by constructor) ?_
    refine gT rfl ?_
    refine aMovA rfl ?_
    refine gT rfl ?_
    refine aLen (st.rowAcc 3 rfl (by decide) (by simp)) rfl ?_
    refine gT rfl ?_
    refine aBinV (.bool true) (u := .int .i64 ((decN (encB p hd dt) hd dt : Nat) : Int)) (u' := .int .i64 ((encB p hd dt).length : Int)) rfl rfl (by rw [d3]; simp [aBin, isShift, aInt]) ?_
    refine aN rfl rfl (by constructor) ?_
    refine aN rfl rfl (by constructor) ?_
    refine gT rfl ?_
    refine aLdA st 0 rfl rfl (by first | decide | simp [*]) (by repeat constructor) ?_
    refine gT rfl ?_
    refine aLdA st 4 rfl rfl (by first | decide | simp [*]) (by repeat constructor) ?_
    refine gT rfl ?_
    refine aC (same_call (p := p) (st.rowAcc 1 rfl (by decide) (by simp)) (st.slc hx)) fun v71 H9 ⟨hv, st1⟩ => ?_
    subst hv
    replace st := st.call st1 rfl
    clear st1
    refine aN rfl rfl (by constructor) ?_
    refine aN rfl rfl (by constructor) ?_
    refine sE ?_
    refine ⟨_, out1 (r_tmp rfl (by constructor)), ?_⟩
    rfl
theorem lengths_call {H : Hp} {p : Pd} {x : Value} {hd dt : Bool} (hp : p.wf) (hx : Sl H 1 p.data.length (p.data.map (Value.int .u8)) x) :
    ACalls Try.prog 6 [.agg #[.int .u8 p.op, .int .u8 p.fl, .int .u8 p.res, .int .u8 p.st, .int .u8 p.lun, .int .u32 p.tag, .int .u32 p.w0, .int .u32 p.w1, .int .u32 p.w2, .int .u32 p.w3, .int .u32 p.w4, .int .u32 p.w5, .int .u32 p.w6, x], .bool hd, .bool dt] H (fun v _ => v = .bool true) := by
  refine acallsW Try.func6 f6_ok (Nat.le_of_ble_eq_true rfl) fun hw => ?_
  have st : Stt [] H H [] := Stt.start hw
  unfold f6c
  show AWl _ _ _ _ _
  refine aBoxN st rfl rfl (by repeat constructor) rfl fun b3 H1 st => ?_
  refine aN rfl rfl (by constructor) ?_
  refine sE ?_
  show AWl _ _ _ _ _
  refine aC (awake_call) fun v15 H2 ⟨hv, st1⟩ => ?_
  subst hv
  replace st := st.call st1 rfl
  clear st1
  refine aN rfl rfl (by constructor) ?_
  refine sE ?_
  show AW _ (.cond _ _ _) _ _ _
  refine cF' rfl ?_
  show AWl _ _ _ _ _
  refine aLdA st 0 rfl rfl (by first | decide | simp [*]) (by repeat constructor) ?_
  refine aN rfl rfl (by constructor) ?_
  refine aN rfl rfl (by constructor) ?_
  refine aC (enc_call hp (st.slc hx)) fun v21 H3 ⟨ob21, hv, st1⟩ => ?_
  subst hv
  replace st := st.call st1 rfl
  clear st1
  refine aN rfl rfl (by constructor) ?_
  refine aExtA rfl rfl ?_
  refine aN rfl rfl (by constructor) ?_
  refine aMovA rfl ?_
  refine aN rfl rfl (by constructor) ?_
  refine sE ?_
  show AWl _ _ _ _ _
  refine aN rfl rfl (by constructor) ?_
  refine aLdQ st 1 rfl rfl rfl (rfl : x = _) ?_
  refine aLen (st.slc hx) rfl ?_
  refine aN rfl rfl (by constructor) ?_
  refine sE ?_
  show AW _ (.cond _ _ _) _ _ _
  refine cC' rfl (fun h4 => ?_) (fun h4 => ?_)
  · have h4q := h4; try simp only [decide_eq_true_eq, decide_eq_false_iff_not, beq_iff_eq, beq_eq_false_iff_ne, bne_iff_ne, bne_eq_false_iff_eq, ne_eq, Decidable.not_not, Bool.not_eq_true, Bool.not_eq_false, gt_iff_lt, ge_iff_le, Int.not_lt, Int.not_le] at h4q
    have h8 : (p.data.length > 8192) := by have := of_decide_eq_true h4; omega
    show AWl _ _ _ _ _
    refine aN rfl rfl (by constructor) ?_
    refine aBinV (.bool true) (u := .int .i64 (encE p)) (u' := .int .i64 2) rfl rfl (by rw [show encE p = 2 from if_pos h8]; rfl) ?_
    refine aN rfl rfl (by constructor) ?_
    refine gT rfl ?_
    refine aMovA rfl ?_
    refine gT rfl ?_
    refine aLen (st.rowAcc 0 rfl (by decide) (by simp)) rfl ?_
    refine gT rfl ?_
    refine aBinV (.bool true) (u := .int .i64 ((encR p hd dt).length : Int)) (u' := .int .i64 0) rfl rfl (by rw [show encR p hd dt = [] from if_pos h8]; rfl) ?_
    refine aN rfl rfl (by constructor) ?_
    refine aN rfl rfl (by constructor) ?_
    refine sE ?_
    refine ⟨_, out1 (r_tmp rfl (by constructor)), ?_⟩
    rfl
  · have h4q := h4; try simp only [decide_eq_true_eq, decide_eq_false_iff_not, beq_iff_eq, beq_eq_false_iff_ne, bne_iff_ne, bne_eq_false_iff_eq, ne_eq, Decidable.not_not, Bool.not_eq_true, Bool.not_eq_false, gt_iff_lt, ge_iff_le, Int.not_lt, Int.not_le] at h4q
    have h8 : ¬ (p.data.length > 8192) := by have := of_decide_eq_false h4; omega
    have hn : p.data.length ≤ 8192 := by omega
    have e1 : encR p hd dt = encB p hd dt := if_neg h8
    have hE : encE p = 0 := if_neg h8
    rw [e1] at st ⊢
    have hlen := enc_len hp hn hd dt
    have hbl := bodyL_len p; have hpl := padN_le p.data.length
    have hle := encB_le hn hd dt
    unfold endN at hlen; rw [body_m hp hn] at hlen
    show AWl _ _ _ _ _
    refine aN rfl rfl (by constructor) ?_
    refine aLdQ st 1 rfl rfl rfl (rfl : x = _) ?_
    refine aLen (st.slc hx) rfl ?_
    refine aN rfl rfl (by constructor) ?_
    refine aN rfl rfl (by constructor) ?_
    refine aBinV (.int .i64 ((bodyL p).length : Int)) (u := .int .i64 (IntKind.i64.wrap ((IntKind.i64.wrap ((p.data.length : Int) + 3)).tdiv 4))) (u' := .int .i64 4) rfl rfl (congrArg (fun z => some (Value.int .i64 z)) (by rw [wi ((p.data.length : Int) + 3) (by omega), Int.tdiv_eq_ediv_of_nonneg (by omega), wi (((p.data.length : Int) + 3) / 4) (by omega), wi _ (by omega)]; unfold padN at *; omega)) ?_
    refine aN rfl rfl (by constructor) ?_
    refine sE ?_
    show AWl _ _ _ _ _
    refine aN rfl rfl (by constructor) ?_
    refine aBinV (.int .i64 ((48 + (bodyL p).length : Nat) : Int)) (u := .int .i64 48) (u' := .int .i64 ((bodyL p).length : Int)) rfl rfl (congrArg (fun z => some (Value.int .i64 z)) (by rw [wi _ (by omega)]; omega)) ?_
    refine aN rfl rfl (by constructor) ?_
    refine sE ?_
    show AWl _ _ _ _ _
    refine aN rfl rfl (by constructor) ?_
    refine sE ?_
    show AW _ (.cond _ _ _) _ _ _
    refine cC' rfl (fun h5 => ?_) (fun h5 => ?_)
    · have h5q := h5; try simp only [decide_eq_true_eq, decide_eq_false_iff_not, beq_iff_eq, beq_eq_false_iff_ne, bne_iff_ne, bne_eq_false_iff_eq, ne_eq, Decidable.not_not, Bool.not_eq_true, Bool.not_eq_false, gt_iff_lt, ge_iff_le, Int.not_lt, Int.not_le] at h5q
      show AWl _ _ _ _ _
      refine aN rfl rfl (by constructor) ?_
      refine aBinV (.int .i64 ((52 + (bodyL p).length : Nat) : Int)) (u := .int .i64 ((48 + (bodyL p).length : Nat) : Int)) (u' := .int .i64 4) rfl rfl (congrArg (fun z => some (Value.int .i64 z)) (by rw [wi _ (by omega)]; omega)) ?_
      refine aN rfl rfl (by constructor) ?_
      refine sE ?_
      show AWl _ _ _ _ _
      refine aN rfl rfl (by constructor) ?_
      refine aN rfl rfl (by constructor) ?_
      refine gCase 47 rfl (fun h6 => ?_) (fun h6 => ?_)
      · have h6q := h6; try simp only [decide_eq_true_eq, decide_eq_false_iff_not, beq_iff_eq, beq_eq_false_iff_ne, bne_iff_ne, bne_eq_false_iff_eq, ne_eq, Decidable.not_not, Bool.not_eq_true, Bool.not_eq_false, gt_iff_lt, ge_iff_le, Int.not_lt, Int.not_le] at h6q
        refine gT rfl ?_
        refine aN rfl rfl (by constructor) ?_
        refine gT rfl ?_
        refine aN rfl rfl (by constructor) ?_
        refine aN rfl rfl (by constructor) ?_
        refine sE ?_
        show AW _ (.cond _ _ _) _ _ _
        refine cC' rfl (fun h7 => ?_) (fun h7 => ?_)
        · have h7q := h7; try simp only [decide_eq_true_eq, decide_eq_false_iff_not, beq_iff_eq, beq_eq_false_iff_ne, bne_iff_ne, bne_eq_false_iff_eq, ne_eq, Decidable.not_not, Bool.not_eq_true, Bool.not_eq_false, gt_iff_lt, ge_iff_le, Int.not_lt, Int.not_le] at h7q
          show AWl _ _ _ _ _
          refine aN rfl rfl (by constructor) ?_
          refine aBinV (.int .i64 ((56 + (bodyL p).length : Nat) : Int)) (u := .int .i64 ((52 + (bodyL p).length : Nat) : Int)) (u' := .int .i64 4) rfl rfl (congrArg (fun z => some (Value.int .i64 z)) (by rw [wi _ (by omega)]; omega)) ?_
          refine aN rfl rfl (by constructor) ?_
          refine sE ?_
          show AWl _ _ _ _ _
          refine aN rfl rfl (by constructor) ?_
          refine aBinV (.bool false) (u := .int .i64 (encE p)) (u' := .int .i64 0) rfl rfl (by rw [hE]; rfl) ?_
          refine aN rfl rfl (by constructor) ?_
          refine gT rfl ?_
          refine aMovA rfl ?_
          refine gT rfl ?_
          refine aLen (st.rowAcc 0 rfl (by decide) (by simp)) rfl ?_
          refine gT rfl ?_
          refine aN rfl rfl (by constructor) ?_
          refine gT rfl ?_
          have hw : (encB p hd dt).length = 56 + (bodyL p).length := by rw [hlen, show atN hd = 52 by rw [h5]; rfl]; rw [if_pos ⟨h6, by omega⟩]; omega
          refine aBinV (.bool false) (u := .int .i64 ((encB p hd dt).length : Int)) (u' := .int .i64 ((56 + (bodyL p).length : Nat) : Int)) rfl rfl (by rw [hw]; simp [aBin, isShift, aInt]) ?_
          refine aN rfl rfl (by constructor) ?_
          refine sE ?_
          show AW _ (.cond _ _ _) _ _ _
          refine cF' rfl ?_
          show AWl _ _ _ _ _
          refine aN rfl rfl (by constructor) ?_
          refine sE ?_
          show AW _ (.loop _) _ _ _
          refine AW_loopN (fun m t1 H1 => ∃ (j : Nat), m = (encB p hd dt).length + 7 - j ∧ (j ≤ (encB p hd dt).length + 7) ∧ t1 11 = .int .i64 (j : Int) ∧ Stt [] H H1 [⟨ob21, true, ⟨true, 5, (encB p hd dt).map (Value.int .u8)⟩⟩]) ((encB p hd dt).length + 7 - 0) ⟨0, rfl, by omega, rfl, (st.sel [0] (by decide))⟩ [6, 11, 12, 13, 14, 61, 62, 63, 64, 65, 66, 67, 68, 69, 70, 71, 72, 73, 74, 75, 76, 77, 78, 79, 80, 81, 82] (by decide) ?_
          rintro m t1 H1 hk hI
          obtain ⟨j, rfl, hj, ht11, st⟩ := hI
          obtain ⟨u, rfl⟩ : ∃ u, t1 = (upd (mix [6, 11, 12, 13, 14, 61, 62, 63, 64, 65, 66, 67, 68, 69, 70, 71, 72, 73, 74, 75, 76, 77, 78, 79, 80, 81, 82] _ u) (some 11) _) := ⟨t1, by rw [← hk, upd_self ht11]⟩
          clear hk ht11
          show AWl _ _ _ _ _
          refine aN rfl rfl (by constructor) ?_
          refine aMovA rfl ?_
          refine aLen (st.rowAcc 0 rfl (by decide) (by simp)) rfl ?_
          refine aN rfl rfl (by constructor) ?_
          refine sE ?_
          show AW _ (.cond _ _ _) _ _ _
          refine cC' rfl (fun h8 => ?_) (fun h8 => ?_)
          · have h8q := h8; try simp only [decide_eq_true_eq, decide_eq_false_iff_not, beq_iff_eq, beq_eq_false_iff_ne, bne_iff_ne, bne_eq_false_iff_eq, ne_eq, Decidable.not_not, Bool.not_eq_true, Bool.not_eq_false, gt_iff_lt, ge_iff_le, Int.not_lt, Int.not_le] at h8q
            have hlt : j < (encB p hd dt).length := by have := of_decide_eq_true h8; omega
            show AWl _ _ _ _ _
            refine aMovA rfl ?_
            refine aN rfl rfl (by constructor) ?_
            refine aCutH (st.rowAcc 0 rfl (by decide) (by simp)) rfl rfl (by omega) fun v70 s70 => ?_
            refine aN rfl rfl (by constructor) ?_
            refine aN rfl rfl (by constructor) ?_
            refine aC (pdec_call (xs := (encB p hd dt).take j) (by rw [show ((encB p hd dt).take j).length = j by rw [List.length_take]; omega]; exact (s70 _ (st.rowAcc 0 rfl (by decide) (by simp)))) ((encB_bytes hp hd dt).take j) (by rw [List.length_take]; omega)) fun v73 H9 ⟨ob73, hv, st1⟩ => ?_
            subst hv
            replace st := st.call st1 rfl
            clear st1
            have c8 := enc_cut hp hn hlt
            obtain ⟨c1, c2⟩ := decP_no c8 (by decide)
            refine aN rfl rfl (by constructor) ?_
            refine aN rfl rfl (by constructor) ?_
            refine aN rfl rfl (by constructor) ?_
            refine aN rfl rfl (by constructor) ?_
            refine aNewP st rfl rfl (by repeat constructor) fun b12 H10 st => ?_
            refine aSt st 0 rfl rfl rfl rfl (by first | rfl | simp [cellsOf, *]) (by first | decide | simp [*]) (by repeat constructor) fun H11 st => ?_
            refine aN rfl rfl (by constructor) ?_
            refine aN rfl rfl (by constructor) ?_
            refine sE ?_
            show AWl _ _ _ _ _
            refine aN rfl rfl (by constructor) ?_
            refine aBinV (.bool false) (u := .int .i64 (decE ((encB p hd dt).take j) hd dt)) (u' := .int .i64 8) rfl rfl (by rw [c8]; rfl) ?_
            refine aN rfl rfl (by constructor) ?_
            refine gT rfl ?_
            refine aN rfl rfl (by constructor) ?_
            refine gT rfl ?_
            refine aBinV (.bool false) (u := .int .i64 ((decN ((encB p hd dt).take j) hd dt : Nat) : Int)) (u' := .int .i64 0) rfl rfl (by rw [c2]; rfl) ?_
            refine aN rfl rfl (by constructor) ?_
            refine sE ?_
            show AW _ (.cond _ _ _) _ _ _
            refine cF' rfl ?_
            show AWl _ _ _ _ _
            refine aN rfl rfl (by constructor) ?_
            refine aN rfl rfl (by constructor) ?_
            refine aN rfl rfl (by constructor) ?_
            refine sE ?_
            exact ⟨_, by omega, j + 7, rfl, by omega, congrArg (Value.int .i64) (wi _ (by omega)), (st.sel [2] (by decide))⟩
          · have h8q := h8; try simp only [decide_eq_true_eq, decide_eq_false_iff_not, beq_iff_eq, beq_eq_false_iff_ne, bne_iff_ne, bne_eq_false_iff_eq, ne_eq, Decidable.not_not, Bool.not_eq_true, Bool.not_eq_false, gt_iff_lt, ge_iff_le, Int.not_lt, Int.not_le] at h8q
            show AWl _ _ _ _ _
            refine aN rfl rfl (by constructor) ?_
            refine sE ?_
            refine ⟨_, out1 (r_tmp rfl (by constructor)), ?_⟩
            rfl
        · have h7q := h7; try simp only [decide_eq_true_eq, decide_eq_false_iff_not, beq_iff_eq, beq_eq_false_iff_ne, bne_iff_ne, bne_eq_false_iff_eq, ne_eq, Decidable.not_not, Bool.not_eq_true, Bool.not_eq_false, gt_iff_lt, ge_iff_le, Int.not_lt, Int.not_le] at h7q
          show AWl _ _ _ _ _
          refine aN rfl rfl (by constructor) ?_
          refine aBinV (.bool false) (u := .int .i64 (encE p)) (u' := .int .i64 0) rfl rfl (by rw [hE]; rfl) ?_
          refine aN rfl rfl (by constructor) ?_
          refine gT rfl ?_
          refine aMovA rfl ?_
          refine gT rfl ?_
          refine aLen (st.rowAcc 0 rfl (by decide) (by simp)) rfl ?_
          refine gT rfl ?_
          refine aN rfl rfl (by constructor) ?_
          refine gT rfl ?_
          have hw : (encB p hd dt).length = 52 + (bodyL p).length := by rw [hlen, show atN hd = 52 by rw [h5]; rfl]; rw [if_neg (fun hc => by omega)]; omega
          refine aBinV (.bool false) (u := .int .i64 ((encB p hd dt).length : Int)) (u' := .int .i64 ((52 + (bodyL p).length : Nat) : Int)) rfl rfl (by rw [hw]; simp [aBin, isShift, aInt]) ?_
          refine aN rfl rfl (by constructor) ?_
          refine sE ?_
          show AW _ (.cond _ _ _) _ _ _
          refine cF' rfl ?_
          show AWl _ _ _ _ _
          refine aN rfl rfl (by constructor) ?_
          refine sE ?_
          show AW _ (.loop _) _ _ _
          refine AW_loopN (fun m t1 H1 => ∃ (j : Nat), m = (encB p hd dt).length + 7 - j ∧ (j ≤ (encB p hd dt).length + 7) ∧ t1 11 = .int .i64 (j : Int) ∧ Stt [] H H1 [⟨ob21, true, ⟨true, 5, (encB p hd dt).map (Value.int .u8)⟩⟩]) ((encB p hd dt).length + 7 - 0) ⟨0, rfl, by omega, rfl, (st.sel [0] (by decide))⟩ [6, 11, 12, 13, 14, 61, 62, 63, 64, 65, 66, 67, 68, 69, 70, 71, 72, 73, 74, 75, 76, 77, 78, 79, 80, 81, 82] (by decide) ?_
          rintro m t1 H1 hk hI
          obtain ⟨j, rfl, hj, ht11, st⟩ := hI
          obtain ⟨u, rfl⟩ : ∃ u, t1 = (upd (mix [6, 11, 12, 13, 14, 61, 62, 63, 64, 65, 66, 67, 68, 69, 70, 71, 72, 73, 74, 75, 76, 77, 78, 79, 80, 81, 82] _ u) (some 11) _) := ⟨t1, by rw [← hk, upd_self ht11]⟩
          clear hk ht11
          show AWl _ _ _ _ _
          refine aN rfl rfl (by constructor) ?_
          refine aMovA rfl ?_
          refine aLen (st.rowAcc 0 rfl (by decide) (by simp)) rfl ?_
          refine aN rfl rfl (by constructor) ?_
          refine sE ?_
          show AW _ (.cond _ _ _) _ _ _
          refine cC' rfl (fun h12 => ?_) (fun h12 => ?_)
          · have h12q := h12; try simp only [decide_eq_true_eq, decide_eq_false_iff_not, beq_iff_eq, beq_eq_false_iff_ne, bne_iff_ne, bne_eq_false_iff_eq, ne_eq, Decidable.not_not, Bool.not_eq_true, Bool.not_eq_false, gt_iff_lt, ge_iff_le, Int.not_lt, Int.not_le] at h12q
            have hlt : j < (encB p hd dt).length := by have := of_decide_eq_true h12; omega
            show AWl _ _ _ _ _
            refine aMovA rfl ?_
            refine aN rfl rfl (by constructor) ?_
            refine aCutH (st.rowAcc 0 rfl (by decide) (by simp)) rfl rfl (by omega) fun v70 s70 => ?_
            refine aN rfl rfl (by constructor) ?_
            refine aN rfl rfl (by constructor) ?_
            refine aC (pdec_call (xs := (encB p hd dt).take j) (by rw [show ((encB p hd dt).take j).length = j by rw [List.length_take]; omega]; exact (s70 _ (st.rowAcc 0 rfl (by decide) (by simp)))) ((encB_bytes hp hd dt).take j) (by rw [List.length_take]; omega)) fun v73 H13 ⟨ob73, hv, st1⟩ => ?_
            subst hv
            replace st := st.call st1 rfl
            clear st1
            have c8 := enc_cut hp hn hlt
            obtain ⟨c1, c2⟩ := decP_no c8 (by decide)
            refine aN rfl rfl (by constructor) ?_
            refine aN rfl rfl (by constructor) ?_
            refine aN rfl rfl (by constructor) ?_
            refine aN rfl rfl (by constructor) ?_
            refine aNewP st rfl rfl (by repeat constructor) fun b12 H14 st => ?_
            refine aSt st 0 rfl rfl rfl rfl (by first | rfl | simp [cellsOf, *]) (by first | decide | simp [*]) (by repeat constructor) fun H15 st => ?_
            refine aN rfl rfl (by constructor) ?_
            refine aN rfl rfl (by constructor) ?_
            refine sE ?_
            show AWl _ _ _ _ _
            refine aN rfl rfl (by constructor) ?_
            refine aBinV (.bool false) (u := .int .i64 (decE ((encB p hd dt).take j) hd dt)) (u' := .int .i64 8) rfl rfl (by rw [c8]; rfl) ?_
            refine aN rfl rfl (by constructor) ?_
            refine gT rfl ?_
            refine aN rfl rfl (by constructor) ?_
            refine gT rfl ?_
            refine aBinV (.bool false) (u := .int .i64 ((decN ((encB p hd dt).take j) hd dt : Nat) : Int)) (u' := .int .i64 0) rfl rfl (by rw [c2]; rfl) ?_
            refine aN rfl rfl (by constructor) ?_
            refine sE ?_
            show AW _ (.cond _ _ _) _ _ _
            refine cF' rfl ?_
            show AWl _ _ _ _ _
            refine aN rfl rfl (by constructor) ?_
            refine aN rfl rfl (by constructor) ?_
            refine aN rfl rfl (by constructor) ?_
            refine sE ?_
            exact ⟨_, by omega, j + 7, rfl, by omega, congrArg (Value.int .i64) (wi _ (by omega)), (st.sel [2] (by decide))⟩
          · have h12q := h12; try simp only [decide_eq_true_eq, decide_eq_false_iff_not, beq_iff_eq, beq_eq_false_iff_ne, bne_iff_ne, bne_eq_false_iff_eq, ne_eq, Decidable.not_not, Bool.not_eq_true, Bool.not_eq_false, gt_iff_lt, ge_iff_le, Int.not_lt, Int.not_le] at h12q
            show AWl _ _ _ _ _
            refine aN rfl rfl (by constructor) ?_
            refine sE ?_
            refine ⟨_, out1 (r_tmp rfl (by constructor)), ?_⟩
            rfl
      · have h6q := h6; try simp only [decide_eq_true_eq, decide_eq_false_iff_not, beq_iff_eq, beq_eq_false_iff_ne, bne_iff_ne, bne_eq_false_iff_eq, ne_eq, Decidable.not_not, Bool.not_eq_true, Bool.not_eq_false, gt_iff_lt, ge_iff_le, Int.not_lt, Int.not_le] at h6q
        refine gF rfl (by decide) ?_
        refine gF rfl (by decide) ?_
        refine aN rfl rfl (by constructor) ?_
        refine sE ?_
        show AW _ (.cond _ _ _) _ _ _
        refine cF' rfl ?_
        show AWl _ _ _ _ _
        refine aN rfl rfl (by constructor) ?_
        refine aBinV (.bool false) (u := .int .i64 (encE p)) (u' := .int .i64 0) rfl rfl (by rw [hE]; rfl) ?_
        refine aN rfl rfl (by constructor) ?_
        refine gT rfl ?_
        refine aMovA rfl ?_
        refine gT rfl ?_
        refine aLen (st.rowAcc 0 rfl (by decide) (by simp)) rfl ?_
        refine gT rfl ?_
        refine aN rfl rfl (by constructor) ?_
        refine gT rfl ?_
        have hw : (encB p hd dt).length = 52 + (bodyL p).length := by rw [hlen, show atN hd = 52 by rw [h5]; rfl]; rw [if_neg (fun hc => by rw [h6] at hc; cases hc.1)]; omega
        refine aBinV (.bool false) (u := .int .i64 ((encB p hd dt).length : Int)) (u' := .int .i64 ((52 + (bodyL p).length : Nat) : Int)) rfl rfl (by rw [hw]; simp [aBin, isShift, aInt]) ?_
        refine aN rfl rfl (by constructor) ?_
        refine sE ?_
        show AW _ (.cond _ _ _) _ _ _
        refine cF' rfl ?_
        show AWl _ _ _ _ _
        refine aN rfl rfl (by constructor) ?_
        refine sE ?_
        show AW _ (.loop _) _ _ _
        refine AW_loopN (fun m t1 H1 => ∃ (j : Nat), m = (encB p hd dt).length + 7 - j ∧ (j ≤ (encB p hd dt).length + 7) ∧ t1 11 = .int .i64 (j : Int) ∧ Stt [] H H1 [⟨ob21, true, ⟨true, 5, (encB p hd dt).map (Value.int .u8)⟩⟩]) ((encB p hd dt).length + 7 - 0) ⟨0, rfl, by omega, rfl, (st.sel [0] (by decide))⟩ [6, 11, 12, 13, 14, 61, 62, 63, 64, 65, 66, 67, 68, 69, 70, 71, 72, 73, 74, 75, 76, 77, 78, 79, 80, 81, 82] (by decide) ?_
        rintro m t1 H1 hk hI
        obtain ⟨j, rfl, hj, ht11, st⟩ := hI
        obtain ⟨u, rfl⟩ : ∃ u, t1 = (upd (mix [6, 11, 12, 13, 14, 61, 62, 63, 64, 65, 66, 67, 68, 69, 70, 71, 72, 73, 74, 75, 76, 77, 78, 79, 80, 81, 82] _ u) (some 11) _) := ⟨t1, by rw [← hk, upd_self ht11]⟩
        clear hk ht11
        show AWl _ _ _ _ _
        refine aN rfl rfl (by constructor) ?_
        refine aMovA rfl ?_
        refine aLen (st.rowAcc 0 rfl (by decide) (by simp)) rfl ?_
        refine aN rfl rfl (by constructor) ?_
        refine sE ?_
        show AW _ (.cond _ _ _) _ _ _
        refine cC' rfl (fun h16 => ?_) (fun h16 => ?_)
        · have h16q := h16; try simp only [decide_eq_true_eq, decide_eq_false_iff_not, beq_iff_eq, beq_eq_false_iff_ne, bne_iff_ne, bne_eq_false_iff_eq, ne_eq, Decidable.not_not, Bool.not_eq_true, Bool.not_eq_false, gt_iff_lt, ge_iff_le, Int.not_lt, Int.not_le] at h16q
          have hlt : j < (encB p hd dt).length := by have := of_decide_eq_true h16; omega
          show AWl _ _ _ _ _
          refine aMovA rfl ?_
          refine aN rfl rfl (by constructor) ?_
          refine aCutH (st.rowAcc 0 rfl (by decide) (by simp)) rfl rfl (by omega) fun v70 s70 => ?_
          refine aN rfl rfl (by constructor) ?_
          refine aN rfl rfl (by constructor) ?_
          refine aC (pdec_call (xs := (encB p hd dt).take j) (by rw [show ((encB p hd dt).take j).length = j by rw [List.length_take]; omega]; exact (s70 _ (st.rowAcc 0 rfl (by decide) (by simp)))) ((encB_bytes hp hd dt).take j) (by rw [List.length_take]; omega)) fun v73 H17 ⟨ob73, hv, st1⟩ => ?_
          subst hv
          replace st := st.call st1 rfl
          clear st1
          have c8 := enc_cut hp hn hlt
          obtain ⟨c1, c2⟩ := decP_no c8 (by decide)
          refine aN rfl rfl (by constructor) ?_
          refine aN rfl rfl (by constructor) ?_
          refine aN rfl rfl (by constructor) ?_
          refine aN rfl rfl (by constructor) ?_
          refine aNewP st rfl rfl (by repeat constructor) fun b12 H18 st => ?_
          refine aSt st 0 rfl rfl rfl rfl (by first | rfl | simp [cellsOf, *]) (by first | decide | simp [*]) (by repeat constructor) fun H19 st => ?_
          refine aN rfl rfl (by constructor) ?_
          refine aN rfl rfl (by constructor) ?_
          refine sE ?_
          show AWl _ _ _ _ _
          refine aN rfl rfl (by constructor) ?_
          refine aBinV (.bool false) (u := .int .i64 (decE ((encB p hd dt).take j) hd dt)) (u' := .int .i64 8) rfl rfl (by rw [c8]; rfl) ?_
          refine aN rfl rfl (by constructor) ?_
          refine gT rfl ?_
          refine aN rfl rfl (by constructor) ?_
          refine gT rfl ?_
          refine aBinV (.bool false) (u := .int .i64 ((decN ((encB p hd dt).take j) hd dt : Nat) : Int)) (u' := .int .i64 0) rfl rfl (by rw [c2]; rfl) ?_
          refine aN rfl rfl (by constructor) ?_
          refine sE ?_
          show AW _ (.cond _ _ _) _ _ _
          refine cF' rfl ?_
          show AWl _ _ _ _ _
          refine aN rfl rfl (by constructor) ?_
          refine aN rfl rfl (by constructor) ?_
          refine aN rfl rfl (by constructor) ?_
          refine sE ?_
          exact ⟨_, by omega, j + 7, rfl, by omega, congrArg (Value.int .i64) (wi _ (by omega)), (st.sel [2] (by decide))⟩
        · have h16q := h16; try simp only [decide_eq_true_eq, decide_eq_false_iff_not, beq_iff_eq, beq_eq_false_iff_ne, bne_iff_ne, bne_eq_false_iff_eq, ne_eq, Decidable.not_not, Bool.not_eq_true, Bool.not_eq_false, gt_iff_lt, ge_iff_le, Int.not_lt, Int.not_le] at h16q
          show AWl _ _ _ _ _
          refine aN rfl rfl (by constructor) ?_
          refine sE ?_
          refine ⟨_, out1 (r_tmp rfl (by constructor)), ?_⟩
          rfl
    · have h5q := h5; try simp only [decide_eq_true_eq, decide_eq_false_iff_not, beq_iff_eq, beq_eq_false_iff_ne, bne_iff_ne, bne_eq_false_iff_eq, ne_eq, Decidable.not_not, Bool.not_eq_true, Bool.not_eq_false, gt_iff_lt, ge_iff_le, Int.not_lt, Int.not_le] at h5q
      show AWl _ _ _ _ _
      refine aN rfl rfl (by constructor) ?_
      refine aN rfl rfl (by constructor) ?_
      refine gCase 47 rfl (fun h20 => ?_) (fun h20 => ?_)
      · have h20q := h20; try simp only [decide_eq_true_eq, decide_eq_false_iff_not, beq_iff_eq, beq_eq_false_iff_ne, bne_iff_ne, bne_eq_false_iff_eq, ne_eq, Decidable.not_not, Bool.not_eq_true, Bool.not_eq_false, gt_iff_lt, ge_iff_le, Int.not_lt, Int.not_le] at h20q
        refine gT rfl ?_
        refine aN rfl rfl (by constructor) ?_
        refine gT rfl ?_
        refine aN rfl rfl (by constructor) ?_
        refine aN rfl rfl (by constructor) ?_
        refine sE ?_
        show AW _ (.cond _ _ _) _ _ _
        refine cC' rfl (fun h21 => ?_) (fun h21 => ?_)
        · have h21q := h21; try simp only [decide_eq_true_eq, decide_eq_false_iff_not, beq_iff_eq, beq_eq_false_iff_ne, bne_iff_ne, bne_eq_false_iff_eq, ne_eq, Decidable.not_not, Bool.not_eq_true, Bool.not_eq_false, gt_iff_lt, ge_iff_le, Int.not_lt, Int.not_le] at h21q
          show AWl _ _ _ _ _
          refine aN rfl rfl (by constructor) ?_
          refine aBinV (.int .i64 ((52 + (bodyL p).length : Nat) : Int)) (u := .int .i64 ((48 + (bodyL p).length : Nat) : Int)) (u' := .int .i64 4) rfl rfl (congrArg (fun z => some (Value.int .i64 z)) (by rw [wi _ (by omega)]; omega)) ?_
          refine aN rfl rfl (by constructor) ?_
          refine sE ?_
          show AWl _ _ _ _ _
          refine aN rfl rfl (by constructor) ?_
          refine aBinV (.bool false) (u := .int .i64 (encE p)) (u' := .int .i64 0) rfl rfl (by rw [hE]; rfl) ?_
          refine aN rfl rfl (by constructor) ?_
          refine gT rfl ?_
          refine aMovA rfl ?_
          refine gT rfl ?_
          refine aLen (st.rowAcc 0 rfl (by decide) (by simp)) rfl ?_
          refine gT rfl ?_
          refine aN rfl rfl (by constructor) ?_
          refine gT rfl ?_
          have hw : (encB p hd dt).length = 52 + (bodyL p).length := by rw [hlen, show atN hd = 48 by rw [h5]; rfl]; rw [if_pos ⟨h20, by omega⟩]; omega
          refine aBinV (.bool false) (u := .int .i64 ((encB p hd dt).length : Int)) (u' := .int .i64 ((52 + (bodyL p).length : Nat) : Int)) rfl rfl (by rw [hw]; simp [aBin, isShift, aInt]) ?_
          refine aN rfl rfl (by constructor) ?_
          refine sE ?_
          show AW _ (.cond _ _ _) _ _ _
          refine cF' rfl ?_
          show AWl _ _ _ _ _
          refine aN rfl rfl (by constructor) ?_
          refine sE ?_
          show AW _ (.loop _) _ _ _
          refine AW_loopN (fun m t1 H1 => ∃ (j : Nat), m = (encB p hd dt).length + 7 - j ∧ (j ≤ (encB p hd dt).length + 7) ∧ t1 11 = .int .i64 (j : Int) ∧ Stt [] H H1 [⟨ob21, true, ⟨true, 5, (encB p hd dt).map (Value.int .u8)⟩⟩]) ((encB p hd dt).length + 7 - 0) ⟨0, rfl, by omega, rfl, (st.sel [0] (by decide))⟩ [6, 11, 12, 13, 14, 61, 62, 63, 64, 65, 66, 67, 68, 69, 70, 71, 72, 73, 74, 75, 76, 77, 78, 79, 80, 81, 82] (by decide) ?_
          rintro m t1 H1 hk hI
          obtain ⟨j, rfl, hj, ht11, st⟩ := hI
          obtain ⟨u, rfl⟩ : ∃ u, t1 = (upd (mix [6, 11, 12, 13, 14, 61, 62, 63, 64, 65, 66, 67, 68, 69, 70, 71, 72, 73, 74, 75, 76, 77, 78, 79, 80, 81, 82] _ u) (some 11) _) := ⟨t1, by rw [← hk, upd_self ht11]⟩
          clear hk ht11
          show AWl _ _ _ _ _
          refine aN rfl rfl (by constructor) ?_
          refine aMovA rfl ?_
          refine aLen (st.rowAcc 0 rfl (by decide) (by simp)) rfl ?_
          refine aN rfl rfl (by constructor) ?_
          refine sE ?_
          show AW _ (.cond _ _ _) _ _ _
          refine cC' rfl (fun h22 => ?_) (fun h22 => ?_)
          · have h22q := h22; try simp only [decide_eq_true_eq, decide_eq_false_iff_not, beq_iff_eq, beq_eq_false_iff_ne, bne_iff_ne, bne_eq_false_iff_eq, ne_eq, Decidable.not_not, Bool.not_eq_true, Bool.not_eq_false, gt_iff_lt, ge_iff_le, Int.not_lt, Int.not_le] at h22q
            have hlt : j < (encB p hd dt).length := by have := of_decide_eq_true h22; omega
            show AWl _ _ _ _ _
            refine aMovA rfl ?_
            refine aN rfl rfl (by constructor) ?_
            refine aCutH (st.rowAcc 0 rfl (by decide) (by simp)) rfl rfl (by omega) fun v70 s70 => ?_
            refine aN rfl rfl (by constructor) ?_
            refine aN rfl rfl (by constructor) ?_
            refine aC (pdec_call (xs := (encB p hd dt).take j) (by rw [show ((encB p hd dt).take j).length = j by rw [List.length_take]; omega]; exact (s70 _ (st.rowAcc 0 rfl (by decide) (by simp)))) ((encB_bytes hp hd dt).take j) (by rw [List.length_take]; omega)) fun v73 H23 ⟨ob73, hv, st1⟩ => ?_
            subst hv
            replace st := st.call st1 rfl
            clear st1
            have c8 := enc_cut hp hn hlt
            obtain ⟨c1, c2⟩ := decP_no c8 (by decide)
            refine aN rfl rfl (by constructor) ?_
            refine aN rfl rfl (by constructor) ?_
            refine aN rfl rfl (by constructor) ?_
            refine aN rfl rfl (by constructor) ?_
            refine aNewP st rfl rfl (by repeat constructor) fun b12 H24 st => ?_
            refine aSt st 0 rfl rfl rfl rfl (by first | rfl | simp [cellsOf, *]) (by first | decide | simp [*]) (by repeat constructor) fun H25 st => ?_
            refine aN rfl rfl (by constructor) ?_
            refine aN rfl rfl (by constructor) ?_
            refine sE ?_
            show AWl _ _ _ _ _
            refine aN rfl rfl (by constructor) ?_
            refine aBinV (.bool false) (u := .int .i64 (decE ((encB p hd dt).take j) hd dt)) (u' := .int .i64 8) rfl rfl (by rw [c8]; rfl) ?_
            refine aN rfl rfl (by constructor) ?_
            refine gT rfl ?_
            refine aN rfl rfl (by constructor) ?_
            refine gT rfl ?_
            refine aBinV (.bool false) (u := .int .i64 ((decN ((encB p hd dt).take j) hd dt : Nat) : Int)) (u' := .int .i64 0) rfl rfl (by rw [c2]; rfl) ?_
            refine aN rfl rfl (by constructor) ?_
            refine sE ?_
            show AW _ (.cond _ _ _) _ _ _
            refine cF' rfl ?_
            show AWl _ _ _ _ _
            refine aN rfl rfl (by constructor) ?_
            refine aN rfl rfl (by constructor) ?_
            refine aN rfl rfl (by constructor) ?_
            refine sE ?_
            exact ⟨_, by omega, j + 7, rfl, by omega, congrArg (Value.int .i64) (wi _ (by omega)), (st.sel [2] (by decide))⟩
          · have h22q := h22; try simp only [decide_eq_true_eq, decide_eq_false_iff_not, beq_iff_eq, beq_eq_false_iff_ne, bne_iff_ne, bne_eq_false_iff_eq, ne_eq, Decidable.not_not, Bool.not_eq_true, Bool.not_eq_false, gt_iff_lt, ge_iff_le, Int.not_lt, Int.not_le] at h22q
            show AWl _ _ _ _ _
            refine aN rfl rfl (by constructor) ?_
            refine sE ?_
            refine ⟨_, out1 (r_tmp rfl (by constructor)), ?_⟩
            rfl
        · have h21q := h21; try simp only [decide_eq_true_eq, decide_eq_false_iff_not, beq_iff_eq, beq_eq_false_iff_ne, bne_iff_ne, bne_eq_false_iff_eq, ne_eq, Decidable.not_not, Bool.not_eq_true, Bool.not_eq_false, gt_iff_lt, ge_iff_le, Int.not_lt, Int.not_le] at h21q
          show AWl _ _ _ _ _
          refine aN rfl rfl (by constructor) ?_
          refine aBinV (.bool false) (u := .int .i64 (encE p)) (u' := .int .i64 0) rfl rfl (by rw [hE]; rfl) ?_
          refine aN rfl rfl (by constructor) ?_
          refine gT rfl ?_
          refine aMovA rfl ?_
          refine gT rfl ?_
          refine aLen (st.rowAcc 0 rfl (by decide) (by simp)) rfl ?_
          refine gT rfl ?_
          refine aN rfl rfl (by constructor) ?_
          refine gT rfl ?_
          have hw : (encB p hd dt).length = 48 + (bodyL p).length := by rw [hlen, show atN hd = 48 by rw [h5]; rfl]; rw [if_neg (fun hc => by omega)]; omega
          refine aBinV (.bool false) (u := .int .i64 ((encB p hd dt).length : Int)) (u' := .int .i64 ((48 + (bodyL p).length : Nat) : Int)) rfl rfl (by rw [hw]; simp [aBin, isShift, aInt]) ?_
          refine aN rfl rfl (by constructor) ?_
          refine sE ?_
          show AW _ (.cond _ _ _) _ _ _
          refine cF' rfl ?_
          show AWl _ _ _ _ _
          refine aN rfl rfl (by constructor) ?_
          refine sE ?_
          show AW _ (.loop _) _ _ _
          refine AW_loopN (fun m t1 H1 => ∃ (j : Nat), m = (encB p hd dt).length + 7 - j ∧ (j ≤ (encB p hd dt).length + 7) ∧ t1 11 = .int .i64 (j : Int) ∧ Stt [] H H1 [⟨ob21, true, ⟨true, 5, (encB p hd dt).map (Value.int .u8)⟩⟩]) ((encB p hd dt).length + 7 - 0) ⟨0, rfl, by omega, rfl, (st.sel [0] (by decide))⟩ [6, 11, 12, 13, 14, 61, 62, 63, 64, 65, 66, 67, 68, 69, 70, 71, 72, 73, 74, 75, 76, 77, 78, 79, 80, 81, 82] (by decide) ?_
          rintro m t1 H1 hk hI
          obtain ⟨j, rfl, hj, ht11, st⟩ := hI
          obtain ⟨u, rfl⟩ : ∃ u, t1 = (upd (mix [6, 11, 12, 13, 14, 61, 62, 63, 64, 65, 66, 67, 68, 69, 70, 71, 72, 73, 74, 75, 76, 77, 78, 79, 80, 81, 82] _ u) (some 11) _) := ⟨t1, by rw [← hk, upd_self ht11]⟩
          clear hk ht11
          show AWl _ _ _ _ _
          refine aN rfl rfl (by constructor) ?_
          refine aMovA rfl ?_
          refine aLen (st.rowAcc 0 rfl (by decide) (by simp)) rfl ?_
          refine aN rfl rfl (by constructor) ?_
          refine sE ?_
          show AW _ (.cond _ _ _) _ _ _
          refine cC' rfl (fun h26 => ?_) (fun h26 => ?_)
          · have h26q := h26; try simp only [decide_eq_true_eq, decide_eq_false_iff_not, beq_iff_eq, beq_eq_false_iff_ne, bne_iff_ne, bne_eq_false_iff_eq, ne_eq, Decidable.not_not, Bool.not_eq_true, Bool.not_eq_false, gt_iff_lt, ge_iff_le, Int.not_lt, Int.not_le] at h26q
            have hlt : j < (encB p hd dt).length := by have := of_decide_eq_true h26; omega
            show AWl _ _ _ _ _
            refine aMovA rfl ?_
            refine aN rfl rfl (by constructor) ?_
            refine aCutH (st.rowAcc 0 rfl (by decide) (by simp)) rfl rfl (by omega) fun v70 s70 => ?_
            refine aN rfl rfl (by constructor) ?_
            refine aN rfl rfl (by constructor) ?_
            refine aC (pdec_call (xs := (encB p hd dt).take j) (by rw [show ((encB p hd dt).take j).length = j by rw [List.length_take]; omega]; exact (s70 _ (st.rowAcc 0 rfl (by decide) (by simp)))) ((encB_bytes hp hd dt).take j) (by rw [List.length_take]; omega)) fun v73 H27 ⟨ob73, hv, st1⟩ => ?_
            subst hv
            replace st := st.call st1 rfl
            clear st1
            have c8 := enc_cut hp hn hlt
            obtain ⟨c1, c2⟩ := decP_no c8 (by decide)
            refine aN rfl rfl (by constructor) ?_
            refine aN rfl rfl (by constructor) ?_
            refine aN rfl rfl (by constructor) ?_
            refine aN rfl rfl (by constructor) ?_
            refine aNewP st rfl rfl (by repeat constructor) fun b12 H28 st => ?_
            refine aSt st 0 rfl rfl rfl rfl (by first | rfl | simp [cellsOf, *]) (by first | decide | simp [*]) (by repeat constructor) fun H29 st => ?_
            refine aN rfl rfl (by constructor) ?_
            refine aN rfl rfl (by constructor) ?_
            refine sE ?_
            show AWl _ _ _ _ _
            refine aN rfl rfl (by constructor) ?_
            refine aBinV (.bool false) (u := .int .i64 (decE ((encB p hd dt).take j) hd dt)) (u' := .int .i64 8) rfl rfl (by rw [c8]; rfl) ?_
            refine aN rfl rfl (by constructor) ?_
            refine gT rfl ?_
            refine aN rfl rfl (by constructor) ?_
            refine gT rfl ?_
            refine aBinV (.bool false) (u := .int .i64 ((decN ((encB p hd dt).take j) hd dt : Nat) : Int)) (u' := .int .i64 0) rfl rfl (by rw [c2]; rfl) ?_
            refine aN rfl rfl (by constructor) ?_
            refine sE ?_
            show AW _ (.cond _ _ _) _ _ _
            refine cF' rfl ?_
            show AWl _ _ _ _ _
            refine aN rfl rfl (by constructor) ?_
            refine aN rfl rfl (by constructor) ?_
            refine aN rfl rfl (by constructor) ?_
            refine sE ?_
            exact ⟨_, by omega, j + 7, rfl, by omega, congrArg (Value.int .i64) (wi _ (by omega)), (st.sel [2] (by decide))⟩
          · have h26q := h26; try simp only [decide_eq_true_eq, decide_eq_false_iff_not, beq_iff_eq, beq_eq_false_iff_ne, bne_iff_ne, bne_eq_false_iff_eq, ne_eq, Decidable.not_not, Bool.not_eq_true, Bool.not_eq_false, gt_iff_lt, ge_iff_le, Int.not_lt, Int.not_le] at h26q
            show AWl _ _ _ _ _
            refine aN rfl rfl (by constructor) ?_
            refine sE ?_
            refine ⟨_, out1 (r_tmp rfl (by constructor)), ?_⟩
            rfl
      · have h20q := h20; try simp only [decide_eq_true_eq, decide_eq_false_iff_not, beq_iff_eq, beq_eq_false_iff_ne, bne_iff_ne, bne_eq_false_iff_eq, ne_eq, Decidable.not_not, Bool.not_eq_true, Bool.not_eq_false, gt_iff_lt, ge_iff_le, Int.not_lt, Int.not_le] at h20q
        refine gF rfl (by decide) ?_
        refine gF rfl (by decide) ?_
        refine aN rfl rfl (by constructor) ?_
        refine sE ?_
        show AW _ (.cond _ _ _) _ _ _
        refine cF' rfl ?_
        show AWl _ _ _ _ _
        refine aN rfl rfl (by constructor) ?_
        refine aBinV (.bool false) (u := .int .i64 (encE p)) (u' := .int .i64 0) rfl rfl (by rw [hE]; rfl) ?_
        refine aN rfl rfl (by constructor) ?_
        refine gT rfl ?_
        refine aMovA rfl ?_
        refine gT rfl ?_
        refine aLen (st.rowAcc 0 rfl (by decide) (by simp)) rfl ?_
        refine gT rfl ?_
        refine aN rfl rfl (by constructor) ?_
        refine gT rfl ?_
        have hw : (encB p hd dt).length = 48 + (bodyL p).length := by rw [hlen, show atN hd = 48 by rw [h5]; rfl]; rw [if_neg (fun hc => by rw [h20] at hc; cases hc.1)]; omega
        refine aBinV (.bool false) (u := .int .i64 ((encB p hd dt).length : Int)) (u' := .int .i64 ((48 + (bodyL p).length : Nat) : Int)) rfl rfl (by rw [hw]; simp [aBin, isShift, aInt]) ?_
        refine aN rfl rfl (by constructor) ?_
        refine sE ?_
        show AW _ (.cond _ _ _) _ _ _
        refine cF' rfl ?_
        show AWl _ _ _ _ _
        refine aN rfl rfl (by constructor) ?_
        refine sE ?_
        show AW _ (.loop _) _ _ _
        refine AW_loopN (fun m t1 H1 => ∃ (j : Nat), m = (encB p hd dt).length + 7 - j ∧ (j ≤ (encB p hd dt).length + 7) ∧ t1 11 = .int .i64 (j : Int) ∧ Stt [] H H1 [⟨ob21, true, ⟨true, 5, (encB p hd dt).map (Value.int .u8)⟩⟩]) ((encB p hd dt).length + 7 - 0) ⟨0, rfl, by omega, rfl, (st.sel [0] (by decide))⟩ [6, 11, 12, 13, 14, 61, 62, 63, 64, 65, 66, 67, 68, 69, 70, 71, 72, 73, 74, 75, 76, 77, 78, 79, 80, 81, 82] (by decide) ?_
        rintro m t1 H1 hk hI
        obtain ⟨j, rfl, hj, ht11, st⟩ := hI
        obtain ⟨u, rfl⟩ : ∃ u, t1 = (upd (mix [6, 11, 12, 13, 14, 61, 62, 63, 64, 65, 66, 67, 68, 69, 70, 71, 72, 73, 74, 75, 76, 77, 78, 79, 80, 81, 82] _ u) (some 11) _) := ⟨t1, by rw [← hk, upd_self ht11]⟩
        clear hk ht11
        show AWl _ _ _ _ _
        refine aN rfl rfl (by constructor) ?_
        refine aMovA rfl ?_
        refine aLen (st.rowAcc 0 rfl (by decide) (by simp)) rfl ?_
        refine aN rfl rfl (by constructor) ?_
        refine sE ?_
        show AW _ (.cond _ _ _) _ _ _
        refine cC' rfl (fun h30 => ?_) (fun h30 => ?_)
        · have h30q := h30; try simp only [decide_eq_true_eq, decide_eq_false_iff_not, beq_iff_eq, beq_eq_false_iff_ne, bne_iff_ne, bne_eq_false_iff_eq, ne_eq, Decidable.not_not, Bool.not_eq_true, Bool.not_eq_false, gt_iff_lt, ge_iff_le, Int.not_lt, Int.not_le] at h30q
          have hlt : j < (encB p hd dt).length := by have := of_decide_eq_true h30; omega
          show AWl _ _ _ _ _
          refine aMovA rfl ?_
          refine aN rfl rfl (by constructor) ?_
          refine aCutH (st.rowAcc 0 rfl (by decide) (by simp)) rfl rfl (by omega) fun v70 s70 => ?_
          refine aN rfl rfl (by constructor) ?_
          refine aN rfl rfl (by constructor) ?_
          refine aC (pdec_call (xs := (encB p hd dt).take j) (by rw [show ((encB p hd dt).take j).length = j by rw [List.length_take]; omega]; exact (s70 _ (st.rowAcc 0 rfl (by decide) (by simp)))) ((encB_bytes hp hd dt).take j) (by rw [List.length_take]; omega)) fun v73 H31 ⟨ob73, hv, st1⟩ => ?_
          subst hv
          replace st := st.call st1 rfl
          clear st1
          have c8 := enc_cut hp hn hlt
          obtain ⟨c1, c2⟩ := decP_no c8 (by decide)
          refine aN rfl rfl (by constructor) ?_
          refine aN rfl rfl (by constructor) ?_
          refine aN rfl rfl (by constructor) ?_
          refine aN rfl rfl (by constructor) ?_
          refine aNewP st rfl rfl (by repeat constructor) fun b12 H32 st => ?_
          refine aSt st 0 rfl rfl rfl rfl (by first | rfl | simp [cellsOf, *]) (by first | decide | simp [*]) (by repeat constructor) fun H33 st => ?_
          refine aN rfl rfl (by constructor) ?_
          refine aN rfl rfl (by constructor) ?_
          refine sE ?_
          show AWl _ _ _ _ _
          refine aN rfl rfl (by constructor) ?_
          refine aBinV (.bool false) (u := .int .i64 (decE ((encB p hd dt).take j) hd dt)) (u' := .int .i64 8) rfl rfl (by rw [c8]; rfl) ?_
          refine aN rfl rfl (by constructor) ?_
          refine gT rfl ?_
          refine aN rfl rfl (by constructor) ?_
          refine gT rfl ?_
          refine aBinV (.bool false) (u := .int .i64 ((decN ((encB p hd dt).take j) hd dt : Nat) : Int)) (u' := .int .i64 0) rfl rfl (by rw [c2]; rfl) ?_
          refine aN rfl rfl (by constructor) ?_
          refine sE ?_
          show AW _ (.cond _ _ _) _ _ _
          refine cF' rfl ?_
          show AWl _ _ _ _ _
          refine aN rfl rfl (by constructor) ?_
          refine aN rfl rfl (by constructor) ?_
          refine aN rfl rfl (by constructor) ?_
          refine sE ?_
          exact ⟨_, by omega, j + 7, rfl, by omega, congrArg (Value.int .i64) (wi _ (by omega)), (st.sel [2] (by decide))⟩
        · have h30q := h30; try simp only [decide_eq_true_eq, decide_eq_false_iff_not, beq_iff_eq, beq_eq_false_iff_ne, bne_iff_ne, bne_eq_false_iff_eq, ne_eq, Decidable.not_not, Bool.not_eq_true, Bool.not_eq_false, gt_iff_lt, ge_iff_le, Int.not_lt, Int.not_le] at h30q
          show AWl _ _ _ _ _
          refine aN rfl rfl (by constructor) ?_
          refine sE ?_
          refine ⟨_, out1 (r_tmp rfl (by constructor)), ?_⟩
          rfl
end Go.Proofs.Ytfjlniemgmimnaa.Abs
