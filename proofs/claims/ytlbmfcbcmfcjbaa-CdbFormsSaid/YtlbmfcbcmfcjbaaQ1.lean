/- Commands: what bytes are. -/
import Derived.Test.YtlbmfcbcmfcjbaaQ0
set_option linter.unusedVariables false
set_option linter.unusedSimpArgs false
set_option maxRecDepth 100000
namespace Go.Proofs.Ytlbmfcbcmfcjbaa.Abs
open Go Go.RowKit
theorem parse_call {H : Hp} {xs : List Int} {x : Value} (hx : Sl H 1 xs.length (xs.map (Value.int .u8)) x) (hb : ByteL xs) (hl : xs.length ≤ 140737488355328) :
    ACalls Try.prog 10 [x] H (fun v H' => ∃ f b : Int, v = .tuple #[.agg #[.int .u8 (parseM xs f b).1.kind, .bool (parseM xs f b).1.long, .int .u64 (parseM xs f b).1.lba, .int .u64 (parseM xs f b).1.blocks, .int .i64 (parseM xs f b).1.alloc, .bool (parseM xs f b).1.fua, .int .u8 (parseM xs f b).1.prot, .bool (parseM xs f b).1.unmap, .bool (parseM xs f b).1.evpd, .int .u8 (parseM xs f b).1.page, .int .u8 (parseM xs f b).1.control, .bool (parseM xs f b).1.save, .int .u8 (parseM xs f b).1.service, .int .u8 (parseM xs f b).1.type, .bool (parseM xs f b).1.bytes], .agg #[.int .u8 (parseM xs f b).2.1.key, .int .u16 (parseM xs f b).2.1.code, .int .u64 (parseM xs f b).2.1.info, .bool (parseM xs f b).2.1.hasInfo, .int .i64 (parseM xs f b).2.1.field, .int .i64 (parseM xs f b).2.1.bit, .bool (parseM xs f b).2.1.hasField, .bool (parseM xs f b).2.1.inCmd], .bool (parseM xs f b).2.2] ∧ Stt [] H H' [] ∧ POdd xs f b) := by
  refine acallsW Try.func10 f10_ok (Nat.le_of_ble_eq_true rfl) fun hw => ?_
  have st : Stt [] H H [] := Stt.start hw
  unfold f10c
  show AWl _ _ _ _ _
  refine aNewP st rfl rfl (by repeat constructor) fun b2 H1 st => ?_
  refine aNewP st rfl rfl (by repeat constructor) fun b3 H2 st => ?_
  refine aN rfl rfl (by constructor) ?_
  refine sE ?_
  show AWl _ _ _ _ _
  refine aMovV x rfl ?_
  refine aLen (st.slc hx) rfl ?_
  refine aN rfl rfl (by constructor) ?_
  refine sE ?_
  show AW _ (.cond _ _ _) _ _ _
  refine cC' rfl (fun h3 => ?_) (fun h3 => ?_)
  · have h3q := h3; try simp only [decide_eq_true_eq, decide_eq_false_iff_not, beq_iff_eq, beq_eq_false_iff_ne, bne_iff_ne, bne_eq_false_iff_eq, ne_eq, Decidable.not_not, Bool.not_eq_true, Bool.not_eq_false, gt_iff_lt, ge_iff_le, Int.not_lt, Int.not_le] at h3q
    have h0 : xs.length = 0 := by have := h3q; omega
    show AWl _ _ _ _ _
    refine aBld rfl (by repeat constructor) ?_
    refine aC (fault_call) fun v18 H4 ⟨hv, st1⟩ => ?_
    subst hv
    replace st := st.call st1 rfl
    clear st1
    refine aSt st 1 rfl rfl rfl rfl (by first | rfl | simp [cellsOf, *]) (by first | decide | simp [*]) (by repeat constructor) fun H5 st => ?_
    refine aSt st 0 rfl rfl rfl rfl (by first | rfl | simp [cellsOf, *]) (by first | decide | simp [*]) (by repeat constructor) fun H6 st => ?_
    refine aN rfl rfl (by constructor) ?_
    refine sE ?_
    refine ⟨_, out3 (r_cellA st 1 rfl rfl (by first | decide | simp [*]) (by repeat constructor)) (r_cellA st 0 rfl rfl (by first | decide | simp [*]) (by repeat constructor)) (r_tmp rfl (by constructor)) ⟨rfl, rfl, rfl⟩, ?_⟩
    exact ⟨0, 0, by rw [pm1 h0]; rfl, st.drop, fun h h3 => absurd (show xs.length < (useL (xs.getD 0 0)).length by have : 0 < (useL (xs.getD 0 0)).length := List.length_pos_iff.2 h; omega) h3⟩
  · have h3q := h3; try simp only [decide_eq_true_eq, decide_eq_false_iff_not, beq_iff_eq, beq_eq_false_iff_ne, bne_iff_ne, bne_eq_false_iff_eq, ne_eq, Decidable.not_not, Bool.not_eq_true, Bool.not_eq_false, gt_iff_lt, ge_iff_le, Int.not_lt, Int.not_le] at h3q
    have h0 : xs.length ≠ 0 := by have := h3q; omega
    show AWl _ _ _ _ _
    refine aMovV x rfl ?_
    refine aIxB (st.slc hx) rfl rfl (by omega) fun b20 o20 g20 => ?_
    refine aLdG rfl g20 ?_
    refine aN rfl rfl (by constructor) ?_
    refine aN rfl rfl (by constructor) ?_
    refine sE ?_
    refine AW_cutK (b := .seq (.list (⟨some 46, _, _⟩ :: _)) _) (fun t1 H1 => (tellsB (xs.getD 0 0) = true → xs.length ≠ 1) ∧ t1 5 = .int .u8 (xs.getD 0 0) ∧ t1 6 = .int .u8 (svOf xs) ∧ Stt [] H H1 [⟨some b2, true, ⟨true, 27, [.int .u8 0, .bool false, .int .u64 0, .int .u64 0, .int .i64 0, .bool false, .int .u8 0, .bool false, .bool false, .int .u8 0, .int .u8 0, .bool false, .int .u8 0, .int .u8 0, .bool false]⟩⟩, ⟨some b3, true, ⟨true, 30, [.int .u8 0, .int .u16 0, .int .u64 0, .bool false, .int .i64 0, .int .i64 0, .bool false, .bool false]⟩⟩]) [4, 6, 22, 23, 24, 25, 26, 27, 28, 29, 30, 31, 32, 33, 34, 35, 36, 37, 38, 39, 40, 41, 42, 43, 44] (by decide) ?_ fun t1 H1 hk hI => ?_
    · show AWl _ _ _ _ _
      refine aN rfl rfl (by constructor) ?_
      refine aN rfl rfl (by constructor) ?_
      refine aN rfl rfl (by constructor) ?_
      refine gCase 24 rfl (fun h7 => ?_) (fun h7 => ?_)
      · have h7q := h7; try simp only [decide_eq_true_eq, decide_eq_false_iff_not, beq_iff_eq, beq_eq_false_iff_ne, bne_iff_ne, bne_eq_false_iff_eq, ne_eq, Decidable.not_not, Bool.not_eq_true, Bool.not_eq_false, gt_iff_lt, ge_iff_le, Int.not_lt, Int.not_le] at h7q
        refine gF rfl (by decide) ?_
        refine gF rfl (by decide) ?_
        refine aN rfl rfl (by constructor) ?_
        refine aN rfl rfl (by constructor) ?_
        refine gF rfl (by decide) ?_
        refine gF rfl (by decide) ?_
        refine aN rfl rfl (by constructor) ?_
        refine aN rfl rfl (by constructor) ?_
        refine gF rfl (by decide) ?_
        refine gF rfl (by decide) ?_
        refine aN rfl rfl (by constructor) ?_
        refine sE ?_
        show AW _ (.cond _ _ _) _ _ _
        refine cT rfl ?_
        show AWl _ _ _ _ _
        refine aMovV x rfl ?_
        refine aLen (st.slc hx) rfl ?_
        refine aN rfl rfl (by constructor) ?_
        refine sE ?_
        show AW _ (.cond _ _ _) _ _ _
        refine cC' rfl (fun h8 => ?_) (fun h8 => ?_)
        · have h8q := h8; try simp only [decide_eq_true_eq, decide_eq_false_iff_not, beq_iff_eq, beq_eq_false_iff_ne, bne_iff_ne, bne_eq_false_iff_eq, ne_eq, Decidable.not_not, Bool.not_eq_true, Bool.not_eq_false, gt_iff_lt, ge_iff_le, Int.not_lt, Int.not_le] at h8q
          have hs1 : xs.length = 1 := by have := h8q; omega
          show AWl _ _ _ _ _
          refine aBld rfl (by repeat constructor) ?_
          refine aC (fault_call) fun v40 H9 ⟨hv, st1⟩ => ?_
          subst hv
          replace st := st.call st1 rfl
          clear st1
          refine aSt st 1 rfl rfl rfl rfl (by first | rfl | simp [cellsOf, *]) (by first | decide | simp [*]) (by repeat constructor) fun H10 st => ?_
          refine aSt st 0 rfl rfl rfl rfl (by first | rfl | simp [cellsOf, *]) (by first | decide | simp [*]) (by repeat constructor) fun H11 st => ?_
          refine aN rfl rfl (by constructor) ?_
          refine sE ?_
          refine ⟨_, out3 (r_cellA st 1 rfl rfl (by first | decide | simp [*]) (by repeat constructor)) (r_cellA st 0 rfl rfl (by first | decide | simp [*]) (by repeat constructor)) (r_tmp rfl (by constructor)) ⟨rfl, rfl, rfl⟩, ?_⟩
          have ht : tellsB (xs.getD 0 0) = true := by unfold tellsB; simp_all
          exact ⟨0, 0, by rw [pm2 h0 ht hs1]; rfl, st.drop, fun h h3 => absurd (show xs.length < (useL (xs.getD 0 0)).length by have := tells_len ht; omega) h3⟩
        · have h8q := h8; try simp only [decide_eq_true_eq, decide_eq_false_iff_not, beq_iff_eq, beq_eq_false_iff_ne, bne_iff_ne, bne_eq_false_iff_eq, ne_eq, Decidable.not_not, Bool.not_eq_true, Bool.not_eq_false, gt_iff_lt, ge_iff_le, Int.not_lt, Int.not_le] at h8q
          have hs1 : xs.length ≠ 1 := by have := h8q; omega
          show AWl _ _ _ _ _
          refine aMovV x rfl ?_
          refine aIxB (st.slc hx) rfl rfl (by omega) fun b42 o42 g42 => ?_
          refine aLdG rfl g42 ?_
          refine aN rfl rfl (by constructor) ?_
          refine aN rfl rfl (by constructor) ?_
          refine sE ?_
          have ht : tellsB (xs.getD 0 0) = true := by unfold tellsB; simp_all
          have hs35 : tellsB (xs.getD 0 0) = true → xs.length ≠ 1 := fun _ => hs1
          have hsv : svOf xs = xs.getD 1 0 % 32 := if_pos ht
          exact ⟨hs35, rfl, congrArg (Value.int .u8) ((b_and31 (hb.getD _)).trans hsv.symm), st.sel [1, 0] (by decide)⟩
      · have h7q := h7; try simp only [decide_eq_true_eq, decide_eq_false_iff_not, beq_iff_eq, beq_eq_false_iff_ne, bne_iff_ne, bne_eq_false_iff_eq, ne_eq, Decidable.not_not, Bool.not_eq_true, Bool.not_eq_false, gt_iff_lt, ge_iff_le, Int.not_lt, Int.not_le] at h7q
        refine gT rfl ?_
        refine aN rfl rfl (by constructor) ?_
        refine gT rfl ?_
        refine aN rfl rfl (by constructor) ?_
        refine aN rfl rfl (by constructor) ?_
        refine aN rfl rfl (by constructor) ?_
        refine gCase 28 rfl (fun h12 => ?_) (fun h12 => ?_)
        · have h12q := h12; try simp only [decide_eq_true_eq, decide_eq_false_iff_not, beq_iff_eq, beq_eq_false_iff_ne, bne_iff_ne, bne_eq_false_iff_eq, ne_eq, Decidable.not_not, Bool.not_eq_true, Bool.not_eq_false, gt_iff_lt, ge_iff_le, Int.not_lt, Int.not_le] at h12q
          refine gF rfl (by decide) ?_
          refine gF rfl (by decide) ?_
          refine aN rfl rfl (by constructor) ?_
          refine aN rfl rfl (by constructor) ?_
          refine gF rfl (by decide) ?_
          refine gF rfl (by decide) ?_
          refine aN rfl rfl (by constructor) ?_
          refine sE ?_
          show AW _ (.cond _ _ _) _ _ _
          refine cT rfl ?_
          show AWl _ _ _ _ _
          refine aMovV x rfl ?_
          refine aLen (st.slc hx) rfl ?_
          refine aN rfl rfl (by constructor) ?_
          refine sE ?_
          show AW _ (.cond _ _ _) _ _ _
          refine cC' rfl (fun h13 => ?_) (fun h13 => ?_)
          · have h13q := h13; try simp only [decide_eq_true_eq, decide_eq_false_iff_not, beq_iff_eq, beq_eq_false_iff_ne, bne_iff_ne, bne_eq_false_iff_eq, ne_eq, Decidable.not_not, Bool.not_eq_true, Bool.not_eq_false, gt_iff_lt, ge_iff_le, Int.not_lt, Int.not_le] at h13q
            have hs1 : xs.length = 1 := by have := h13q; omega
            show AWl _ _ _ _ _
            refine aBld rfl (by repeat constructor) ?_
            refine aC (fault_call) fun v40 H14 ⟨hv, st1⟩ => ?_
            subst hv
            replace st := st.call st1 rfl
            clear st1
            refine aSt st 1 rfl rfl rfl rfl (by first | rfl | simp [cellsOf, *]) (by first | decide | simp [*]) (by repeat constructor) fun H15 st => ?_
            refine aSt st 0 rfl rfl rfl rfl (by first | rfl | simp [cellsOf, *]) (by first | decide | simp [*]) (by repeat constructor) fun H16 st => ?_
            refine aN rfl rfl (by constructor) ?_
            refine sE ?_
            refine ⟨_, out3 (r_cellA st 1 rfl rfl (by first | decide | simp [*]) (by repeat constructor)) (r_cellA st 0 rfl rfl (by first | decide | simp [*]) (by repeat constructor)) (r_tmp rfl (by constructor)) ⟨rfl, rfl, rfl⟩, ?_⟩
            have ht : tellsB (xs.getD 0 0) = true := by unfold tellsB; simp_all
            exact ⟨0, 0, by rw [pm2 h0 ht hs1]; rfl, st.drop, fun h h3 => absurd (show xs.length < (useL (xs.getD 0 0)).length by have := tells_len ht; omega) h3⟩
          · have h13q := h13; try simp only [decide_eq_true_eq, decide_eq_false_iff_not, beq_iff_eq, beq_eq_false_iff_ne, bne_iff_ne, bne_eq_false_iff_eq, ne_eq, Decidable.not_not, Bool.not_eq_true, Bool.not_eq_false, gt_iff_lt, ge_iff_le, Int.not_lt, Int.not_le] at h13q
            have hs1 : xs.length ≠ 1 := by have := h13q; omega
            show AWl _ _ _ _ _
            refine aMovV x rfl ?_
            refine aIxB (st.slc hx) rfl rfl (by omega) fun b42 o42 g42 => ?_
            refine aLdG rfl g42 ?_
            refine aN rfl rfl (by constructor) ?_
            refine aN rfl rfl (by constructor) ?_
            refine sE ?_
            have ht : tellsB (xs.getD 0 0) = true := by unfold tellsB; simp_all
            have hs35 : tellsB (xs.getD 0 0) = true → xs.length ≠ 1 := fun _ => hs1
            have hsv : svOf xs = xs.getD 1 0 % 32 := if_pos ht
            exact ⟨hs35, rfl, congrArg (Value.int .u8) ((b_and31 (hb.getD _)).trans hsv.symm), st.sel [1, 0] (by decide)⟩
        · have h12q := h12; try simp only [decide_eq_true_eq, decide_eq_false_iff_not, beq_iff_eq, beq_eq_false_iff_ne, bne_iff_ne, bne_eq_false_iff_eq, ne_eq, Decidable.not_not, Bool.not_eq_true, Bool.not_eq_false, gt_iff_lt, ge_iff_le, Int.not_lt, Int.not_le] at h12q
          refine gT rfl ?_
          refine aN rfl rfl (by constructor) ?_
          refine gT rfl ?_
          refine aN rfl rfl (by constructor) ?_
          refine aN rfl rfl (by constructor) ?_
          refine aN rfl rfl (by constructor) ?_
          refine gCase 32 rfl (fun h17 => ?_) (fun h17 => ?_)
          · have h17q := h17; try simp only [decide_eq_true_eq, decide_eq_false_iff_not, beq_iff_eq, beq_eq_false_iff_ne, bne_iff_ne, bne_eq_false_iff_eq, ne_eq, Decidable.not_not, Bool.not_eq_true, Bool.not_eq_false, gt_iff_lt, ge_iff_le, Int.not_lt, Int.not_le] at h17q
            refine gF rfl (by decide) ?_
            refine gF rfl (by decide) ?_
            refine aN rfl rfl (by constructor) ?_
            refine sE ?_
            show AW _ (.cond _ _ _) _ _ _
            refine cT rfl ?_
            show AWl _ _ _ _ _
            refine aMovV x rfl ?_
            refine aLen (st.slc hx) rfl ?_
            refine aN rfl rfl (by constructor) ?_
            refine sE ?_
            show AW _ (.cond _ _ _) _ _ _
            refine cC' rfl (fun h18 => ?_) (fun h18 => ?_)
            · have h18q := h18; try simp only [decide_eq_true_eq, decide_eq_false_iff_not, beq_iff_eq, beq_eq_false_iff_ne, bne_iff_ne, bne_eq_false_iff_eq, ne_eq, Decidable.not_not, Bool.not_eq_true, Bool.not_eq_false, gt_iff_lt, ge_iff_le, Int.not_lt, Int.not_le] at h18q
              have hs1 : xs.length = 1 := by have := h18q; omega
              show AWl _ _ _ _ _
              refine aBld rfl (by repeat constructor) ?_
              refine aC (fault_call) fun v40 H19 ⟨hv, st1⟩ => ?_
              subst hv
              replace st := st.call st1 rfl
              clear st1
              refine aSt st 1 rfl rfl rfl rfl (by first | rfl | simp [cellsOf, *]) (by first | decide | simp [*]) (by repeat constructor) fun H20 st => ?_
              refine aSt st 0 rfl rfl rfl rfl (by first | rfl | simp [cellsOf, *]) (by first | decide | simp [*]) (by repeat constructor) fun H21 st => ?_
              refine aN rfl rfl (by constructor) ?_
              refine sE ?_
              refine ⟨_, out3 (r_cellA st 1 rfl rfl (by first | decide | simp [*]) (by repeat constructor)) (r_cellA st 0 rfl rfl (by first | decide | simp [*]) (by repeat constructor)) (r_tmp rfl (by constructor)) ⟨rfl, rfl, rfl⟩, ?_⟩
              have ht : tellsB (xs.getD 0 0) = true := by unfold tellsB; simp_all
              exact ⟨0, 0, by rw [pm2 h0 ht hs1]; rfl, st.drop, fun h h3 => absurd (show xs.length < (useL (xs.getD 0 0)).length by have := tells_len ht; omega) h3⟩
            · have h18q := h18; try simp only [decide_eq_true_eq, decide_eq_false_iff_not, beq_iff_eq, beq_eq_false_iff_ne, bne_iff_ne, bne_eq_false_iff_eq, ne_eq, Decidable.not_not, Bool.not_eq_true, Bool.not_eq_false, gt_iff_lt, ge_iff_le, Int.not_lt, Int.not_le] at h18q
              have hs1 : xs.length ≠ 1 := by have := h18q; omega
              show AWl _ _ _ _ _
              refine aMovV x rfl ?_
              refine aIxB (st.slc hx) rfl rfl (by omega) fun b42 o42 g42 => ?_
              refine aLdG rfl g42 ?_
              refine aN rfl rfl (by constructor) ?_
              refine aN rfl rfl (by constructor) ?_
              refine sE ?_
              have ht : tellsB (xs.getD 0 0) = true := by unfold tellsB; simp_all
              have hs35 : tellsB (xs.getD 0 0) = true → xs.length ≠ 1 := fun _ => hs1
              have hsv : svOf xs = xs.getD 1 0 % 32 := if_pos ht
              exact ⟨hs35, rfl, congrArg (Value.int .u8) ((b_and31 (hb.getD _)).trans hsv.symm), st.sel [1, 0] (by decide)⟩
          · have h17q := h17; try simp only [decide_eq_true_eq, decide_eq_false_iff_not, beq_iff_eq, beq_eq_false_iff_ne, bne_iff_ne, bne_eq_false_iff_eq, ne_eq, Decidable.not_not, Bool.not_eq_true, Bool.not_eq_false, gt_iff_lt, ge_iff_le, Int.not_lt, Int.not_le] at h17q
            refine gT rfl ?_
            refine aN rfl rfl (by constructor) ?_
            refine gT rfl ?_
            refine aN rfl rfl (by constructor) ?_
            refine aN rfl rfl (by constructor) ?_
            refine sE ?_
            show AW _ (.cond _ _ _) _ _ _
            refine cC' rfl (fun h22 => ?_) (fun h22 => ?_)
            · have h22q := h22; try simp only [decide_eq_true_eq, decide_eq_false_iff_not, beq_iff_eq, beq_eq_false_iff_ne, bne_iff_ne, bne_eq_false_iff_eq, ne_eq, Decidable.not_not, Bool.not_eq_true, Bool.not_eq_false, gt_iff_lt, ge_iff_le, Int.not_lt, Int.not_le] at h22q
              show AWl _ _ _ _ _
              refine aMovV x rfl ?_
              refine aLen (st.slc hx) rfl ?_
              refine aN rfl rfl (by constructor) ?_
              refine sE ?_
              show AW _ (.cond _ _ _) _ _ _
              refine cC' rfl (fun h23 => ?_) (fun h23 => ?_)
              · have h23q := h23; try simp only [decide_eq_true_eq, decide_eq_false_iff_not, beq_iff_eq, beq_eq_false_iff_ne, bne_iff_ne, bne_eq_false_iff_eq, ne_eq, Decidable.not_not, Bool.not_eq_true, Bool.not_eq_false, gt_iff_lt, ge_iff_le, Int.not_lt, Int.not_le] at h23q
                have hs1 : xs.length = 1 := by have := h23q; omega
                show AWl _ _ _ _ _
                refine aBld rfl (by repeat constructor) ?_
                refine aC (fault_call) fun v40 H24 ⟨hv, st1⟩ => ?_
                subst hv
                replace st := st.call st1 rfl
                clear st1
                refine aSt st 1 rfl rfl rfl rfl (by first | rfl | simp [cellsOf, *]) (by first | decide | simp [*]) (by repeat constructor) fun H25 st => ?_
                refine aSt st 0 rfl rfl rfl rfl (by first | rfl | simp [cellsOf, *]) (by first | decide | simp [*]) (by repeat constructor) fun H26 st => ?_
                refine aN rfl rfl (by constructor) ?_
                refine sE ?_
                refine ⟨_, out3 (r_cellA st 1 rfl rfl (by first | decide | simp [*]) (by repeat constructor)) (r_cellA st 0 rfl rfl (by first | decide | simp [*]) (by repeat constructor)) (r_tmp rfl (by constructor)) ⟨rfl, rfl, rfl⟩, ?_⟩
                have ht : tellsB (xs.getD 0 0) = true := by unfold tellsB; simp_all
                exact ⟨0, 0, by rw [pm2 h0 ht hs1]; rfl, st.drop, fun h h3 => absurd (show xs.length < (useL (xs.getD 0 0)).length by have := tells_len ht; omega) h3⟩
              · have h23q := h23; try simp only [decide_eq_true_eq, decide_eq_false_iff_not, beq_iff_eq, beq_eq_false_iff_ne, bne_iff_ne, bne_eq_false_iff_eq, ne_eq, Decidable.not_not, Bool.not_eq_true, Bool.not_eq_false, gt_iff_lt, ge_iff_le, Int.not_lt, Int.not_le] at h23q
                have hs1 : xs.length ≠ 1 := by have := h23q; omega
                show AWl _ _ _ _ _
                refine aMovV x rfl ?_
                refine aIxB (st.slc hx) rfl rfl (by omega) fun b42 o42 g42 => ?_
                refine aLdG rfl g42 ?_
                refine aN rfl rfl (by constructor) ?_
                refine aN rfl rfl (by constructor) ?_
                refine sE ?_
                have ht : tellsB (xs.getD 0 0) = true := by unfold tellsB; simp_all
                have hs35 : tellsB (xs.getD 0 0) = true → xs.length ≠ 1 := fun _ => hs1
                have hsv : svOf xs = xs.getD 1 0 % 32 := if_pos ht
                exact ⟨hs35, rfl, congrArg (Value.int .u8) ((b_and31 (hb.getD _)).trans hsv.symm), st.sel [1, 0] (by decide)⟩
            · have h22q := h22; try simp only [decide_eq_true_eq, decide_eq_false_iff_not, beq_iff_eq, beq_eq_false_iff_ne, bne_iff_ne, bne_eq_false_iff_eq, ne_eq, Decidable.not_not, Bool.not_eq_true, Bool.not_eq_false, gt_iff_lt, ge_iff_le, Int.not_lt, Int.not_le] at h22q
              have ht : tellsB (xs.getD 0 0) = false := by unfold tellsB; simp_all
              have hs35 : tellsB (xs.getD 0 0) = true → xs.length ≠ 1 := fun h => by rw [ht] at h; cases h
              have hsv : svOf xs = 0 := if_neg (by rw [ht]; decide)
              exact ⟨hs35, rfl, congrArg (Value.int .u8) hsv.symm, st.sel [1, 0] (by decide)⟩
    · obtain ⟨h1, ht5, ht6, st⟩ := hI
      obtain ⟨u, rfl⟩ : ∃ u, t1 = (upd (upd (mix [4, 6, 22, 23, 24, 25, 26, 27, 28, 29, 30, 31, 32, 33, 34, 35, 36, 37, 38, 39, 40, 41, 42, 43, 44] _ u) (some 5) _) (some 6) _) := ⟨t1, by rw [← hk, upd_self ht5, upd_self ht6]⟩
      clear hk ht5 ht6
      show AWl _ _ _ _ _
      refine aN rfl rfl (by constructor) ?_
      refine aN rfl rfl (by constructor) ?_
      have ho := hb.getD 0
      refine aC (usage_call (by omega)) fun v48 H27 ⟨ob48, hv, st1, he48⟩ => ?_
      subst hv
      replace st := st.call st1 rfl
      clear st1
      by_cases h2 : useL (xs.getD 0 0) = []
      · obtain rfl := he48 h2
        refine aN rfl rfl (by constructor) ?_
        refine aN rfl rfl (by constructor) ?_
        refine aN rfl rfl (by constructor) ?_
        refine aN rfl rfl (by constructor) ?_
        refine aN rfl rfl (by constructor) ?_
        refine sE ?_
        show AWl _ _ _ _ _
        refine aN rfl rfl (by constructor) ?_
        refine aBinV (.bool true) (u := .slice none 0 0) (u' := .slice none 0 0) rfl rfl rfl ?_
        refine sE ?_
        show AW _ (.cond _ _ _) _ _ _
        refine cT rfl ?_
        show AWl _ _ _ _ _
        refine aBld rfl (by repeat constructor) ?_
        refine aBld rfl (by repeat constructor) ?_
        refine aSt st 1 rfl rfl rfl rfl (by first | rfl | simp [cellsOf, *]) (by first | decide | simp [*]) (by repeat constructor) fun H28 st => ?_
        refine aSt st 2 rfl rfl rfl rfl (by first | rfl | simp [cellsOf, *]) (by first | decide | simp [*]) (by repeat constructor) fun H29 st => ?_
        refine aN rfl rfl (by constructor) ?_
        refine sE ?_
        refine ⟨_, out3 (r_cellA st 1 rfl rfl (by first | decide | simp [*]) (by repeat constructor)) (r_cellA st 2 rfl rfl (by first | decide | simp [*]) (by repeat constructor)) (r_tmp rfl (by constructor)) ⟨rfl, rfl, rfl⟩, ?_⟩
        exact ⟨0, 0, by rw [pm3 h0 h1 h2]; rfl, st.drop, fun h => absurd h2 h⟩
      · obtain ⟨b48, rfl⟩ := st.isSome 0 rfl (by intro hc; rw [List.map_eq_nil_iff] at hc; exact h2 hc)
        have hcode : (xs.getD 0 0) ∈ codes := (use_elim _).resolve_left h2
        obtain ⟨eR, lR⟩ := code_row _ hcode
        have hn20 : (useL (xs.getD 0 0)).length ≤ 21 := by have h9 := congrArg List.length eR; simp only [List.length_cons] at h9; omega
        refine aN rfl rfl (by constructor) ?_
        refine aN rfl rfl (by constructor) ?_
        refine aN rfl rfl (by constructor) ?_
        refine aN rfl rfl (by constructor) ?_
        refine aN rfl rfl (by constructor) ?_
        refine sE ?_
        show AWl _ _ _ _ _
        refine aN rfl rfl (by constructor) ?_
        refine aBinV (.bool false) (u := .slice (some ⟨b48, 0, none⟩) (useL (xs.getD 0 0)).length 1) (u' := .slice none 0 0) rfl rfl rfl ?_
        refine sE ?_
        show AW _ (.cond _ _ _) _ _ _
        refine cF' rfl ?_
        show AWl _ _ _ _ _
        refine aMovV x rfl ?_
        refine aLen (st.slc hx) rfl ?_
        refine aN rfl rfl (by constructor) ?_
        refine aN rfl rfl (by constructor) ?_
        refine aN rfl rfl (by constructor) ?_
        refine sE ?_
        show AW _ (.cond _ _ _) _ _ _
        refine cC' rfl (fun h30 => ?_) (fun h30 => ?_)
        · have h30q := h30; try simp only [decide_eq_true_eq, decide_eq_false_iff_not, beq_iff_eq, beq_eq_false_iff_ne, bne_iff_ne, bne_eq_false_iff_eq, ne_eq, Decidable.not_not, Bool.not_eq_true, Bool.not_eq_false, gt_iff_lt, ge_iff_le, Int.not_lt, Int.not_le] at h30q
          have h3 : (xs.length < (useL (xs.getD 0 0)).length) := by have := h30q; omega
          show AWl _ _ _ _ _
          refine aBld rfl (by repeat constructor) ?_
          refine aMovV x rfl ?_
          refine aLen (st.slc hx) rfl ?_
          refine aC (fault_call) fun v63 H31 ⟨hv, st1⟩ => ?_
          subst hv
          replace st := st.call st1 rfl
          clear st1
          refine aSt st 1 rfl rfl rfl rfl (by first | rfl | simp [cellsOf, *]) (by first | decide | simp [*]) (by repeat constructor) fun H32 st => ?_
          refine aSt st 2 rfl rfl rfl rfl (by first | rfl | simp [cellsOf, *]) (by first | decide | simp [*]) (by repeat constructor) fun H33 st => ?_
          refine aN rfl rfl (by constructor) ?_
          refine sE ?_
          refine ⟨_, out3 (r_cellA st 1 rfl rfl (by first | decide | simp [*]) (by repeat constructor)) (r_cellA st 2 rfl rfl (by first | decide | simp [*]) (by repeat constructor)) (r_tmp rfl (by constructor)) ⟨rfl, rfl, rfl⟩, ?_⟩
          exact ⟨0, 0, by rw [pm4 h0 h1 h2 h3]; rfl, st.drop, fun _ h => absurd h3 h⟩
        · have h30q := h30; try simp only [decide_eq_true_eq, decide_eq_false_iff_not, beq_iff_eq, beq_eq_false_iff_ne, bne_iff_ne, bne_eq_false_iff_eq, ne_eq, Decidable.not_not, Bool.not_eq_true, Bool.not_eq_false, gt_iff_lt, ge_iff_le, Int.not_lt, Int.not_le] at h30q
          have h3 : ¬ (xs.length < (useL (xs.getD 0 0)).length) := by have := h30q; omega
          show AWl _ _ _ _ _
          refine aMovV x rfl ?_
          refine aN rfl rfl (by constructor) ?_
          refine aN rfl rfl (by constructor) ?_
          refine aCutH (st.slc hx) rfl rfl (by omega) fun v67 s67 => ?_
          replace s67 := s67 _ hx
          have hlt : (xs.take (useL (xs.getD 0 0)).length).length = (useL (xs.getD 0 0)).length := by rw [List.length_take]; omega
          replace s67 : Sl H 1 (xs.take (useL (xs.getD 0 0)).length).length ((xs.take (useL (xs.getD 0 0)).length).map (Value.int .u8)) v67 := by rw [hlt]; exact s67
          refine aMovV v67 rfl ?_
          refine sE ?_
          show AWl _ _ _ _ _
          refine aMovV v67 rfl ?_
          refine aN rfl rfl (by constructor) ?_
          have hbm : ByteL (useL (xs.getD 0 0)) := use_bytes _ hcode
          refine aC (odd_call (st.slc s67) (st.rowAll 0 rfl (by simp)) (hb.take _) hbm (by omega) (by omega)) fun v71 H34 ⟨f71, b71, hv, st1, hod71⟩ => ?_
          subst hv
          replace st := st.call st1 rfl
          clear st1
          have hP : POdd xs f71 b71 := fun _ _ => hod71
          refine aN rfl rfl (by constructor) ?_
          refine aN rfl rfl (by constructor) ?_
          refine aN rfl rfl (by constructor) ?_
          refine aN rfl rfl (by constructor) ?_
          refine aN rfl rfl (by constructor) ?_
          refine sE ?_
          show AWl _ _ _ _ _
          refine aN rfl rfl (by constructor) ?_
          refine aN rfl rfl (by constructor) ?_
          refine sE ?_
          show AW _ (.cond _ _ _) _ _ _
          refine cC' rfl (fun h35 => ?_) (fun h35 => ?_)
          · have h35q := h35; try simp only [decide_eq_true_eq, decide_eq_false_iff_not, beq_iff_eq, beq_eq_false_iff_ne, bne_iff_ne, bne_eq_false_iff_eq, ne_eq, Decidable.not_not, Bool.not_eq_true, Bool.not_eq_false, gt_iff_lt, ge_iff_le, Int.not_lt, Int.not_le] at h35q
            have h4 : (f71 ≥ 0) := by have := h35q; omega
            show AWl _ _ _ _ _
            refine aBld rfl (by repeat constructor) ?_
            refine aN rfl rfl (by constructor) ?_
            refine aN rfl rfl (by constructor) ?_
            refine aC (fault_call) fun v79 H36 ⟨hv, st1⟩ => ?_
            subst hv
            replace st := st.call st1 rfl
            clear st1
            refine aSt st 1 rfl rfl rfl rfl (by first | rfl | simp [cellsOf, *]) (by first | decide | simp [*]) (by repeat constructor) fun H37 st => ?_
            refine aSt st 2 rfl rfl rfl rfl (by first | rfl | simp [cellsOf, *]) (by first | decide | simp [*]) (by repeat constructor) fun H38 st => ?_
            refine aN rfl rfl (by constructor) ?_
            refine sE ?_
            refine ⟨_, out3 (r_cellA st 1 rfl rfl (by first | decide | simp [*]) (by repeat constructor)) (r_cellA st 2 rfl rfl (by first | decide | simp [*]) (by repeat constructor)) (r_tmp rfl (by constructor)) ⟨rfl, rfl, rfl⟩, ?_⟩
            exact ⟨f71, b71, by rw [pm5 h0 h1 h2 h3 h4]; rfl, st.drop, hP⟩
          · have h35q := h35; try simp only [decide_eq_true_eq, decide_eq_false_iff_not, beq_iff_eq, beq_eq_false_iff_ne, bne_iff_ne, bne_eq_false_iff_eq, ne_eq, Decidable.not_not, Bool.not_eq_true, Bool.not_eq_false, gt_iff_lt, ge_iff_le, Int.not_lt, Int.not_le] at h35q
            have h4 : ¬ (f71 ≥ 0) := by have := h35q; omega
            show AWl _ _ _ _ _
            refine aN rfl rfl (by constructor) ?_
            refine aN rfl rfl (by constructor) ?_
            refine sE ?_
            show AW _ (.cond _ _ _) _ _ _
            refine cC' rfl (fun h39 => ?_) (fun h39 => ?_)
            · have h39q := h39; try simp only [decide_eq_true_eq, decide_eq_false_iff_not, beq_iff_eq, beq_eq_false_iff_ne, bne_iff_ne, bne_eq_false_iff_eq, ne_eq, Decidable.not_not, Bool.not_eq_true, Bool.not_eq_false, gt_iff_lt, ge_iff_le, Int.not_lt, Int.not_le] at h39q
              have h39n : serveB (xs.getD 0 0) (svOf xs) = false := by simpa using h39
              have h5 : serveB (xs.getD 0 0) (svOf xs) = false := by simpa using h39
              show AWl _ _ _ _ _
              refine aBld rfl (by repeat constructor) ?_
              refine aC (fault_call) fun v83 H40 ⟨hv, st1⟩ => ?_
              subst hv
              replace st := st.call st1 rfl
              clear st1
              refine aSt st 1 rfl rfl rfl rfl (by first | rfl | simp [cellsOf, *]) (by first | decide | simp [*]) (by repeat constructor) fun H41 st => ?_
              refine aSt st 2 rfl rfl rfl rfl (by first | rfl | simp [cellsOf, *]) (by first | decide | simp [*]) (by repeat constructor) fun H42 st => ?_
              refine aN rfl rfl (by constructor) ?_
              refine sE ?_
              refine ⟨_, out3 (r_cellA st 1 rfl rfl (by first | decide | simp [*]) (by repeat constructor)) (r_cellA st 2 rfl rfl (by first | decide | simp [*]) (by repeat constructor)) (r_tmp rfl (by constructor)) ⟨rfl, rfl, rfl⟩, ?_⟩
              exact ⟨f71, b71, by rw [pm6 h0 h1 h2 h3 h4 h5]; rfl, st.drop, hP⟩
            · have h39q := h39; try simp only [decide_eq_true_eq, decide_eq_false_iff_not, beq_iff_eq, beq_eq_false_iff_ne, bne_iff_ne, bne_eq_false_iff_eq, ne_eq, Decidable.not_not, Bool.not_eq_true, Bool.not_eq_false, gt_iff_lt, ge_iff_le, Int.not_lt, Int.not_le] at h39q
              have h39n : serveB (xs.getD 0 0) (svOf xs) = true := by simpa using h39
              have h5 : serveB (xs.getD 0 0) (svOf xs) = true := by simpa using h39
              show AWl _ _ _ _ _
              refine aN rfl rfl (by constructor) ?_
              refine aC (kind_call) fun v85 H43 ⟨hv, st1⟩ => ?_
              subst hv
              replace st := st.call st1 rfl
              clear st1
              refine aBld rfl (by repeat constructor) ?_
              refine aNewP st rfl rfl (by repeat constructor) fun b11 H44 st => ?_
              refine aSt st 0 rfl rfl rfl rfl (by first | rfl | simp [cellsOf, *]) (by first | decide | simp [*]) (by repeat constructor) fun H45 st => ?_
              refine sE ?_
              show AWl _ _ _ _ _
              refine aMovV v67 rfl ?_
              refine aN rfl rfl (by constructor) ?_
              refine aC (fill_call (xs := xs.take (useL (xs.getD 0 0)).length) hcode (st.get (j := 0) rfl) (by have s9 := st.slc s67; rw [hlt] at s9; exact s9) (hb.take _) hlt (st.apart (j := 0) rfl s67)) fun v90 H46 ⟨hv, st1⟩ => ?_
              subst hv
              replace st := st.callX 0 rfl st1 rfl
              clear st1
              refine aN rfl rfl (by constructor) ?_
              refine aN rfl rfl (by constructor) ?_
              refine aN rfl rfl (by constructor) ?_
              refine aN rfl rfl (by constructor) ?_
              refine aN rfl rfl (by constructor) ?_
              refine sE ?_
              show AWl _ _ _ _ _
              refine aN rfl rfl (by constructor) ?_
              refine aN rfl rfl (by constructor) ?_
              refine sE ?_
              show AW _ (.cond _ _ _) _ _ _
              refine cC' rfl (fun h47 => ?_) (fun h47 => ?_)
              · have h47q := h47; try simp only [decide_eq_true_eq, decide_eq_false_iff_not, beq_iff_eq, beq_eq_false_iff_ne, bne_iff_ne, bne_eq_false_iff_eq, ne_eq, Decidable.not_not, Bool.not_eq_true, Bool.not_eq_false, gt_iff_lt, ge_iff_le, Int.not_lt, Int.not_le] at h47q
                have h6 : ((fillF (kindL (xs.getD 0 0)) (useL (xs.getD 0 0)).length (xs.take (useL (xs.getD 0 0)).length)).1 ≥ 0) := by have := h47q; omega
                show AWl _ _ _ _ _
                refine aBld rfl (by repeat constructor) ?_
                refine aN rfl rfl (by constructor) ?_
                refine aN rfl rfl (by constructor) ?_
                refine aC (fault_call) fun v98 H48 ⟨hv, st1⟩ => ?_
                subst hv
                replace st := st.call st1 rfl
                clear st1
                refine aSt st 2 rfl rfl rfl rfl (by first | rfl | simp [cellsOf, *]) (by first | decide | simp [*]) (by repeat constructor) fun H49 st => ?_
                refine aSt st 3 rfl rfl rfl rfl (by first | rfl | simp [cellsOf, *]) (by first | decide | simp [*]) (by repeat constructor) fun H50 st => ?_
                refine aN rfl rfl (by constructor) ?_
                refine sE ?_
                refine ⟨_, out3 (r_cellA st 2 rfl rfl (by first | decide | simp [*]) (by repeat constructor)) (r_cellA st 3 rfl rfl (by first | decide | simp [*]) (by repeat constructor)) (r_tmp rfl (by constructor)) ⟨rfl, rfl, rfl⟩, ?_⟩
                exact ⟨f71, b71, by rw [pm7 h0 h1 h2 h3 h4 h5 h6]; rfl, st.drop, hP⟩
              · have h47q := h47; try simp only [decide_eq_true_eq, decide_eq_false_iff_not, beq_iff_eq, beq_eq_false_iff_ne, bne_iff_ne, bne_eq_false_iff_eq, ne_eq, Decidable.not_not, Bool.not_eq_true, Bool.not_eq_false, gt_iff_lt, ge_iff_le, Int.not_lt, Int.not_le] at h47q
                have h6 : ¬ ((fillF (kindL (xs.getD 0 0)) (useL (xs.getD 0 0)).length (xs.take (useL (xs.getD 0 0)).length)).1 ≥ 0) := by have := h47q; omega
                show AWl _ _ _ _ _
                refine aLdAll st 0 rfl rfl (rfl) ?_
                refine aBld rfl (by repeat constructor) ?_
                refine aStAllA st 2 rfl rfl rfl (rfl) (rfl) fun H51 st => ?_
                refine aSt st 3 rfl rfl rfl rfl (by first | rfl | simp [cellsOf, *]) (by first | decide | simp [*]) (by repeat constructor) fun H52 st => ?_
                refine aN rfl rfl (by constructor) ?_
                refine sE ?_
                refine ⟨_, out3 (r_cellA st 2 rfl rfl (by first | decide | simp [*]) (by repeat constructor)) (r_cellA st 3 rfl rfl (by first | decide | simp [*]) (by repeat constructor)) (r_tmp rfl (by constructor)) ⟨rfl, rfl, rfl⟩, ?_⟩
                exact ⟨f71, b71, by rw [pm8 h0 h1 h2 h3 h4 h5 h6]; rfl, st.drop, hP⟩
end Go.Proofs.Ytlbmfcbcmfcjbaa.Abs
