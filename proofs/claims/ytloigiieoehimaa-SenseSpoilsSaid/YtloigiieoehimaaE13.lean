/- Sense: the document reads. -/
import Derived.Test.YtloigiieoehimaaE12
set_option linter.unusedVariables false
set_option linter.unusedSimpArgs false
set_option maxRecDepth 100000
namespace Go.Proofs.Ytloigiieoehimaa.Abs
open Go Go.RowKit
theorem rdec_call {H : Hp} {xs : List Int} {x : Value} (hx : Sl H 1 xs.length (xs.map (Value.int .u8)) x) (hb : ByteL xs) (hl : xs.length ≤ 140737488351232) :
    ACalls Try.prog 18 [x] H (fun v H' => ∃ o, DecOk xs o ∧ v = .tuple #[snV (snO o), .int .i64 (if o.isSome = true then 0 else 3)] ∧ Stt [] H H' []) := by
  refine acallsW Try.func18 f18_ok (Nat.le_of_ble_eq_true rfl) fun hw => ?_
  have st : Stt [] H H [] := Stt.start hw
  unfold f18c
  show AWl _ _ _ _ _
  refine aNewP st rfl rfl (by repeat constructor) fun b2 H1 st => ?_
  refine aN rfl rfl (by constructor) ?_
  refine sE ?_
  show AWl _ _ _ _ _
  refine aNewP st rfl rfl (by repeat constructor) fun b4 H2 st => ?_
  refine sE ?_
  show AWl _ _ _ _ _
  refine aMovV x rfl ?_
  refine aLen (st.slc hx) rfl ?_
  refine aN rfl rfl (by constructor) ?_
  refine aN rfl rfl (by constructor) ?_
  refine sE ?_
  show AWl _ _ _ _ _
  refine aN rfl rfl (by constructor) ?_
  refine sE ?_
  show AWl _ _ _ _ _
  refine aN rfl rfl (by constructor) ?_
  refine sE ?_
  show AW _ (.cond _ _ _) _ _ _
  refine cC' rfl (fun h3 => ?_) (fun h3 => ?_)
  · have h3q := h3; try simp only [decide_eq_true_eq, decide_eq_false_iff_not, beq_iff_eq, beq_eq_false_iff_ne, bne_iff_ne, bne_eq_false_iff_eq, ne_eq, Decidable.not_not, Bool.not_eq_true, Bool.not_eq_false, gt_iff_lt, ge_iff_le, Int.not_lt, Int.not_le] at h3q
    have hl18 : xs.length = 18 := by omega
    show AWl _ _ _ _ _
    refine aMovV x rfl ?_
    refine aIxB (st.slc hx) rfl rfl (by omega) fun b14 o14 g14 => ?_
    refine aLdG rfl g14 ?_
    refine aN rfl rfl (by constructor) ?_
    refine aSt st 0 rfl rfl rfl rfl (by first | rfl | simp [cellsOf, *]) (by first | decide | simp [*]) (by repeat constructor) fun H4 st => ?_
    refine sE ?_
    show AWl _ _ _ _ _
    refine aMovV x rfl ?_
    refine aC (rnum_call (st.slc hx) hb (by omega) (by first | omega | (rw [wi _ (by omega)]; omega))) fun v18 H5 ⟨hv, st1⟩ => ?_
    subst hv
    replace st := st.call st1 rfl
    clear st1
    refine aN rfl rfl (by constructor) ?_
    refine aN rfl rfl (by constructor) ?_
    refine aSt st 0 rfl rfl rfl rfl (by first | rfl | simp [cellsOf, *]) (by first | decide | simp [*]) (by repeat constructor) fun H6 st => ?_
    refine sE ?_
    show AWl _ _ _ _ _
    refine aMovV x rfl ?_
    refine aIxB (st.slc hx) rfl rfl (by omega) fun b22 o22 g22 => ?_
    refine aLdG rfl g22 ?_
    refine aN rfl rfl (by constructor) ?_
    refine aN rfl rfl (by constructor) ?_
    refine aSt st 0 rfl rfl rfl rfl (by first | rfl | simp [cellsOf, *]) (by first | decide | simp [*]) (by repeat constructor) fun H7 st => ?_
    refine sE ?_
    refine AW_cutK (b := .list (⟨some 6, _, _⟩ :: _)) (fun t1 H1 => ∃ (g : Sn), (g.wf) ∧ (Zer g) ∧ (∀ s, Enc s xs → Bas s g) ∧ Stt [] H H1 [⟨some b4, true, ⟨true, 25, [.int .u8 g.key, .int .u16 g.code, .int .u64 g.info, .bool g.hi, .int .i64 g.fld, .int .i64 g.bit, .bool g.hf, .bool g.ic]⟩⟩, ⟨some b2, true, ⟨true, 25, [.int .u8 0, .int .u16 0, .int .u64 0, .bool false, .int .i64 0, .int .i64 0, .bool false, .bool false]⟩⟩]) [26, 27, 28, 29, 30] (by decide) ?_ fun t1 H1 hk hI => ?_
    · show AWl _ _ _ _ _
      refine aN rfl rfl (by constructor) ?_
      refine aLd st 0 rfl rfl rfl (by constructor) ?_
      refine sE ?_
      show AW _ (.cond _ _ _) _ _ _
      refine cC' rfl (fun h8 => ?_) (fun h8 => ?_)
      · have h8q := h8; try simp only [decide_eq_true_eq, decide_eq_false_iff_not, beq_iff_eq, beq_eq_false_iff_ne, bne_iff_ne, bne_eq_false_iff_eq, ne_eq, Decidable.not_not, Bool.not_eq_true, Bool.not_eq_false, gt_iff_lt, ge_iff_le, Int.not_lt, Int.not_le] at h8q
        show AWl _ _ _ _ _
        refine aMovV x rfl ?_
        refine aC (rnum_call (st.slc hx) hb (by omega) (by first | omega | (rw [wi _ (by omega)]; omega))) fun v29 H9 ⟨hv, st1⟩ => ?_
        subst hv
        replace st := st.call st1 rfl
        clear st1
        refine aN rfl rfl (by constructor) ?_
        refine aSt st 0 rfl rfl rfl rfl (by first | rfl | simp [cellsOf, *]) (by first | decide | simp [*]) (by repeat constructor) fun H10 st => ?_
        refine sE ?_
        refine ⟨⟨xs.getD 2 0, IntKind.u16.wrap (rgetV xs 12 2), rgetV xs 3 4, decide (xs.getD 0 0 ≥ 128), 0, 0, false, false⟩, ⟨?_, ?_, ?_, zb, zb⟩, ⟨rfl, rfl, rfl, rfl⟩, ?_, st.sel [0, 1] (by decide)⟩
        · have := hb.getD 2; show 0 ≤ xs.getD 2 0 ∧ xs.getD 2 0 < 256; omega
        · show 0 ≤ IntKind.u16.wrap _ ∧ IntKind.u16.wrap _ < 65536; rw [w16]; omega
        · exact rgetV_bd hb 3 4
        · intro s h
          obtain ⟨p1, p2, p3, p4, p5⟩ := basF h hl18
          have ph := (enc_and h hl18).2.2
          have hh : decide (xs.getD 0 0 ≥ 128) = true := h8
          exact ⟨p1, by show s.code = IntKind.u16.wrap (rgetV xs 12 2); rw [← p3, w16]; have := h.1.2.1; omega, p4 (by rw [← ph, hh]), ph.symm⟩
      · have h8q := h8; try simp only [decide_eq_true_eq, decide_eq_false_iff_not, beq_iff_eq, beq_eq_false_iff_ne, bne_iff_ne, bne_eq_false_iff_eq, ne_eq, Decidable.not_not, Bool.not_eq_true, Bool.not_eq_false, gt_iff_lt, ge_iff_le, Int.not_lt, Int.not_le] at h8q
        refine ⟨⟨xs.getD 2 0, IntKind.u16.wrap (rgetV xs 12 2), 0, decide (xs.getD 0 0 ≥ 128), 0, 0, false, false⟩, ⟨?_, ?_, ?_, zb, zb⟩, ⟨rfl, rfl, rfl, rfl⟩, ?_, st.sel [0, 1] (by decide)⟩
        · have := hb.getD 2; show 0 ≤ xs.getD 2 0 ∧ xs.getD 2 0 < 256; omega
        · show 0 ≤ IntKind.u16.wrap _ ∧ IntKind.u16.wrap _ < 65536; rw [w16]; omega
        · exact z64
        · intro s h
          obtain ⟨p1, p2, p3, p4, p5⟩ := basF h hl18
          have ph := (enc_and h hl18).2.2
          have hh : decide (xs.getD 0 0 ≥ 128) = false := h8
          exact ⟨p1, by show s.code = IntKind.u16.wrap (rgetV xs 12 2); rw [← p3, w16]; have := h.1.2.1; omega, p5 (by rw [← ph, hh]), ph.symm⟩
    · obtain ⟨g, gw, g0, gb, st⟩ := hI
      obtain ⟨u, rfl⟩ : ∃ u, t1 = (mix [26, 27, 28, 29, 30] _ u) := ⟨t1, by rw [← hk]⟩
      clear hk
      show AWl _ _ _ _ _
      refine aN rfl rfl (by constructor) ?_
      refine sE ?_
      refine AW_cutK (b := .seq (.list (⟨some 106, _, _⟩ :: _)) _) (fun t1 H1 => ∃ (g : Sn), (g.wf) ∧ (∀ s, Enc s xs → s = g) ∧ Stt [] H H1 [⟨some b4, true, ⟨true, 25, [.int .u8 g.key, .int .u16 g.code, .int .u64 g.info, .bool g.hi, .int .i64 g.fld, .int .i64 g.bit, .bool g.hf, .bool g.ic]⟩⟩, ⟨some b2, true, ⟨true, 25, [.int .u8 0, .int .u16 0, .int .u64 0, .bool false, .int .i64 0, .int .i64 0, .bool false, .bool false]⟩⟩]) [68, 69, 70, 71, 72, 73, 74, 75, 76, 77, 78, 79, 80, 81, 82, 83, 84, 85, 86, 87, 88, 89, 90, 91, 92, 93, 94, 95, 96, 97, 98, 99, 100, 101, 102, 103, 104] (by decide) ?_ fun t1 H1 hk hI => ?_
      · show AWl _ _ _ _ _
        refine aN rfl rfl (by constructor) ?_
        refine aBinV (.bool true) rfl rfl rfl ?_
        refine aN rfl rfl (by constructor) ?_
        refine gT rfl ?_
        refine aMovV x rfl ?_
        refine gT rfl ?_
        refine aN rfl rfl (by constructor) ?_
        refine gT rfl ?_
        refine aIxB (st.slc hx) rfl rfl (by omega) fun b73 o73 g73 => ?_
        refine gT rfl ?_
        refine aLdG rfl g73 ?_
        refine gT rfl ?_
        refine aN rfl rfl (by constructor) ?_
        refine aN rfl rfl (by constructor) ?_
        refine sE ?_
        show AW _ (.cond _ _ _) _ _ _
        refine cC' rfl (fun h11 => ?_) (fun h11 => ?_)
        · have h11q := h11; try simp only [decide_eq_true_eq, decide_eq_false_iff_not, beq_iff_eq, beq_eq_false_iff_ne, bne_iff_ne, bne_eq_false_iff_eq, ne_eq, Decidable.not_not, Bool.not_eq_true, Bool.not_eq_false, gt_iff_lt, ge_iff_le, Int.not_lt, Int.not_le] at h11q
          show AWl _ _ _ _ _
          refine aN rfl rfl (by constructor) ?_
          refine aSt st 0 rfl rfl rfl rfl (by first | rfl | simp [cellsOf, *]) (by first | decide | simp [*]) (by repeat constructor) fun H12 st => ?_
          refine sE ?_
          show AWl _ _ _ _ _
          refine aMovV x rfl ?_
          refine aN rfl rfl (by constructor) ?_
          refine aIxB (st.slc hx) rfl rfl (by omega) fun b80 o80 g80 => ?_
          refine aLdG rfl g80 ?_
          refine aN rfl rfl (by constructor) ?_
          refine aN rfl rfl (by constructor) ?_
          refine aN rfl rfl (by constructor) ?_
          refine aSt st 0 rfl rfl rfl rfl (by first | rfl | simp [cellsOf, *]) (by first | decide | simp [*]) (by repeat constructor) fun H13 st => ?_
          refine sE ?_
          show AWl _ _ _ _ _
          refine aN rfl rfl (by constructor) ?_
          refine aSt st 0 rfl rfl rfl rfl (by first | rfl | simp [cellsOf, *]) (by first | decide | simp [*]) (by repeat constructor) fun H14 st => ?_
          refine sE ?_
          show AWl _ _ _ _ _
          refine aMovV x rfl ?_
          refine aN rfl rfl (by constructor) ?_
          refine aIxB (st.slc hx) rfl rfl (by omega) fun b88 o88 g88 => ?_
          refine aLdG rfl g88 ?_
          refine aN rfl rfl (by constructor) ?_
          refine aN rfl rfl (by constructor) ?_
          refine sE ?_
          show AW _ (.cond _ _ _) _ _ _
          refine cC' rfl (fun h15 => ?_) (fun h15 => ?_)
          · have h15q := h15; try simp only [decide_eq_true_eq, decide_eq_false_iff_not, beq_iff_eq, beq_eq_false_iff_ne, bne_iff_ne, bne_eq_false_iff_eq, ne_eq, Decidable.not_not, Bool.not_eq_true, Bool.not_eq_false, gt_iff_lt, ge_iff_le, Int.not_lt, Int.not_le] at h15q
            show AWl _ _ _ _ _
            refine aMovV x rfl ?_
            refine aN rfl rfl (by constructor) ?_
            refine aIxB (st.slc hx) rfl rfl (by omega) fun b94 o94 g94 => ?_
            refine aLdG rfl g94 ?_
            refine aN rfl rfl (by constructor) ?_
            refine aN rfl rfl (by constructor) ?_
            refine aN rfl rfl (by constructor) ?_
            refine aSt st 0 rfl rfl rfl rfl (by first | rfl | simp [cellsOf, *]) (by first | decide | simp [*]) (by repeat constructor) fun H16 st => ?_
            refine sE ?_
            show AWl _ _ _ _ _
            refine aMovV x rfl ?_
            refine aN rfl rfl (by constructor) ?_
            refine aN rfl rfl (by constructor) ?_
            refine aC (rnum_call (st.slc hx) hb (by omega) (by first | omega | (rw [wi _ (by omega)]; omega))) fun v102 H17 ⟨hv, st1⟩ => ?_
            subst hv
            replace st := st.call st1 rfl
            clear st1
            refine aN rfl rfl (by constructor) ?_
            refine aN rfl rfl (by constructor) ?_
            refine aSt st 0 rfl rfl rfl rfl (by first | rfl | simp [cellsOf, *]) (by first | decide | simp [*]) (by repeat constructor) fun H18 st => ?_
            refine sE ?_
            have ha : ((15 : Int)).toNat = 15 := by omega
            have e : refS g xs 15 = { g with hf := true, ic := bits .and .u8 (xs.getD 15 0) 64 != 0, bit := IntKind.i64.wrap ((xs.getD 15 0).tmod 8), fld := IntKind.i64.wrap (rgetV xs ((15 : Nat) + 1 : Int) 2) } := by
              have h0 := h15; rw [ha] at h0
              unfold refS; rw [if_pos h0]
            refine ⟨refS g xs 15, refS_wf gw, fun s h => ?_, ?_⟩
            · exact refFix h hl18 (gb s h) (by have h0 := h11q; rw [ha] at h0; exact h0)
            · have st2 := st.sel [0, 1] (by decide)
              rw [ha] at st2
              rw [e]
              rw [wi (15 + 1) (by decide)] at st2
              exact st2
          · have h15q := h15; try simp only [decide_eq_true_eq, decide_eq_false_iff_not, beq_iff_eq, beq_eq_false_iff_ne, bne_iff_ne, bne_eq_false_iff_eq, ne_eq, Decidable.not_not, Bool.not_eq_true, Bool.not_eq_false, gt_iff_lt, ge_iff_le, Int.not_lt, Int.not_le] at h15q
            show AWl _ _ _ _ _
            refine aMovV x rfl ?_
            refine aN rfl rfl (by constructor) ?_
            refine aN rfl rfl (by constructor) ?_
            refine aC (rnum_call (st.slc hx) hb (by omega) (by first | omega | (rw [wi _ (by omega)]; omega))) fun v102 H19 ⟨hv, st1⟩ => ?_
            subst hv
            replace st := st.call st1 rfl
            clear st1
            refine aN rfl rfl (by constructor) ?_
            refine aN rfl rfl (by constructor) ?_
            refine aSt st 0 rfl rfl rfl rfl (by first | rfl | simp [cellsOf, *]) (by first | decide | simp [*]) (by repeat constructor) fun H20 st => ?_
            refine sE ?_
            have ha : ((15 : Int)).toNat = 15 := by omega
            have e : refS g xs 15 = { g with hf := true, ic := bits .and .u8 (xs.getD 15 0) 64 != 0, bit := -1, fld := IntKind.i64.wrap (rgetV xs ((15 : Nat) + 1 : Int) 2) } := by
              have h0 := h15; rw [ha] at h0
              unfold refS; rw [if_neg (by rw [h0]; decide)]
            refine ⟨refS g xs 15, refS_wf gw, fun s h => ?_, ?_⟩
            · exact refFix h hl18 (gb s h) (by have h0 := h11q; rw [ha] at h0; exact h0)
            · have st2 := st.sel [0, 1] (by decide)
              rw [ha] at st2
              rw [e]
              rw [wi (15 + 1) (by decide)] at st2
              exact st2
        · have h11q := h11; try simp only [decide_eq_true_eq, decide_eq_false_iff_not, beq_iff_eq, beq_eq_false_iff_ne, bne_iff_ne, bne_eq_false_iff_eq, ne_eq, Decidable.not_not, Bool.not_eq_true, Bool.not_eq_false, gt_iff_lt, ge_iff_le, Int.not_lt, Int.not_le] at h11q
          exact ⟨g, gw, fun s h => no_fld h (gb s h) g0 (Bool.eq_false_iff.2 fun hc => by have := ((fixHf h hl18).1 hc).2; have h0 := h11q; rw [show ((15 : Int)).toNat = 15 from rfl] at h0; omega), st.sel [0, 1] (by decide)⟩
      · obtain ⟨g, gw, gb, st⟩ := hI
        obtain ⟨u, rfl⟩ : ∃ u, t1 = (mix [68, 69, 70, 71, 72, 73, 74, 75, 76, 77, 78, 79, 80, 81, 82, 83, 84, 85, 86, 87, 88, 89, 90, 91, 92, 93, 94, 95, 96, 97, 98, 99, 100, 101, 102, 103, 104] _ u) := ⟨t1, by rw [← hk]⟩
        clear hk
        show AWl _ _ _ _ _
        refine aLdAll st 0 rfl rfl (rfl) ?_
        refine aC (rdesc_call (s := g) gw) fun v107 H21 ⟨ob107, hv, st1⟩ => ?_
        subst hv
        replace st := st.call st1 rfl
        clear st1
        refine aN rfl rfl (by constructor) ?_
        refine aExtA rfl rfl ?_
        refine aN rfl rfl (by constructor) ?_
        refine aMovA rfl ?_
        refine aN rfl rfl (by constructor) ?_
        refine sE ?_
        show AWl _ _ _ _ _
        refine aMovV (.bool true) (congrArg Value.bool h3) ?_
        refine sE ?_
        show AW _ (.cond _ _ _) _ _ _
        refine cT rfl ?_
        show AWl _ _ _ _ _
        refine aLdAll st 1 rfl rfl (rfl) ?_
        refine aC (rfixed_call (s := g) gw) fun v113 H22 ⟨ob113, hv, st1⟩ => ?_
        subst hv
        replace st := st.call st1 rfl
        clear st1
        refine aN rfl rfl (by constructor) ?_
        refine aExtA rfl rfl ?_
        refine aN rfl rfl (by constructor) ?_
        refine aMovA rfl ?_
        refine aN rfl rfl (by constructor) ?_
        refine sE ?_
        show AWl _ _ _ _ _
        refine aN rfl rfl (by constructor) ?_
        refine aN rfl rfl (by constructor) ?_
        refine aN rfl rfl (by constructor) ?_
        refine gCase 118 rfl (fun h23 => ?_) (fun h23 => ?_)
        · have h23q := h23; try simp only [decide_eq_true_eq, decide_eq_false_iff_not, beq_iff_eq, beq_eq_false_iff_ne, bne_iff_ne, bne_eq_false_iff_eq, ne_eq, Decidable.not_not, Bool.not_eq_true, Bool.not_eq_false, gt_iff_lt, ge_iff_le, Int.not_lt, Int.not_le] at h23q
          refine gF rfl (by decide) ?_
          refine gF rfl (by decide) ?_
          refine gF rfl (by decide) ?_
          refine gF rfl (by decide) ?_
          refine gF rfl (by decide) ?_
          refine aN rfl rfl (by constructor) ?_
          refine sE ?_
          show AW _ (.cond _ _ _) _ _ _
          refine cT rfl ?_
          show AWl _ _ _ _ _
          refine aBld rfl (by repeat constructor) ?_
          refine aSt st 3 rfl rfl rfl rfl (by first | rfl | simp [cellsOf, *]) (by first | decide | simp [*]) (by repeat constructor) fun H24 st => ?_
          refine aN rfl rfl (by constructor) ?_
          refine sE ?_
          refine ⟨_, out2 (r_cellA st 3 rfl rfl (by first | decide | simp [*]) (by repeat constructor)) (r_tmp rfl (by constructor)) ⟨rfl, rfl⟩, ?_⟩
          exact ⟨none, DecOk.no (fun s h => by have := enc_fixR h hl18; rw [gb s h] at this; omega), rfl, st.drop⟩
        · have h23q := h23; try simp only [decide_eq_true_eq, decide_eq_false_iff_not, beq_iff_eq, beq_eq_false_iff_ne, bne_iff_ne, bne_eq_false_iff_eq, ne_eq, Decidable.not_not, Bool.not_eq_true, Bool.not_eq_false, gt_iff_lt, ge_iff_le, Int.not_lt, Int.not_le] at h23q
          refine gT rfl ?_
          refine aMovA rfl ?_
          refine gT rfl ?_
          refine aText (st.rowAcc 0 rfl (by decide) (by simp)) rfl ?_
          refine gT rfl ?_
          refine aMovV x rfl ?_
          refine gT rfl ?_
          refine aText (st.slc hx) rfl ?_
          refine gT rfl ?_
          refine aBinV (.bool (!decide (fixR g = xs))) (u := .string (ofInts (fixR g))) (u' := .string (ofInts xs)) rfl rfl (by show some (Value.bool (!((ofInts (fixR g)).toList == (ofInts xs).toList))) = _; rw [texts_beq (fixR_bytes gw) hb]) ?_
          refine aN rfl rfl (by constructor) ?_
          refine sE ?_
          show AW _ (.cond _ _ _) _ _ _
          refine cC' rfl (fun h25 => ?_) (fun h25 => ?_)
          · have h25q := h25; try simp only [decide_eq_true_eq, decide_eq_false_iff_not, beq_iff_eq, beq_eq_false_iff_ne, bne_iff_ne, bne_eq_false_iff_eq, ne_eq, Decidable.not_not, Bool.not_eq_true, Bool.not_eq_false, gt_iff_lt, ge_iff_le, Int.not_lt, Int.not_le] at h25q
            have h25n : decide (fixR g = xs) = false := by simpa using h25
            show AWl _ _ _ _ _
            refine aBld rfl (by repeat constructor) ?_
            refine aSt st 3 rfl rfl rfl rfl (by first | rfl | simp [cellsOf, *]) (by first | decide | simp [*]) (by repeat constructor) fun H26 st => ?_
            refine aN rfl rfl (by constructor) ?_
            refine sE ?_
            refine ⟨_, out2 (r_cellA st 3 rfl rfl (by first | decide | simp [*]) (by repeat constructor)) (r_tmp rfl (by constructor)) ⟨rfl, rfl⟩, ?_⟩
            exact ⟨none, DecOk.no (fun s h => of_decide_eq_false h25n (by have := enc_fixR h hl18; rw [gb s h] at this; exact this.2)), rfl, st.drop⟩
          · have h25q := h25; try simp only [decide_eq_true_eq, decide_eq_false_iff_not, beq_iff_eq, beq_eq_false_iff_ne, bne_iff_ne, bne_eq_false_iff_eq, ne_eq, Decidable.not_not, Bool.not_eq_true, Bool.not_eq_false, gt_iff_lt, ge_iff_le, Int.not_lt, Int.not_le] at h25q
            have h25n : decide (fixR g = xs) = true := by simpa using h25
            show AWl _ _ _ _ _
            refine aLdAll st 2 rfl rfl (rfl) ?_
            refine aStAllA st 3 rfl rfl rfl (rfl) (rfl) fun H27 st => ?_
            refine aN rfl rfl (by constructor) ?_
            refine sE ?_
            refine ⟨_, out2 (r_cellA st 3 rfl rfl (by first | decide | simp [*]) (by repeat constructor)) (r_tmp rfl (by constructor)) ⟨rfl, rfl⟩, ?_⟩
            exact ⟨some g, DecOk.yes (fix_enc gw (by omega) (of_decide_eq_true h25n)) gb, rfl, st.drop⟩
  · have h3q := h3; try simp only [decide_eq_true_eq, decide_eq_false_iff_not, beq_iff_eq, beq_eq_false_iff_ne, bne_iff_ne, bne_eq_false_iff_eq, ne_eq, Decidable.not_not, Bool.not_eq_true, Bool.not_eq_false, gt_iff_lt, ge_iff_le, Int.not_lt, Int.not_le] at h3q
    have hn : ∀ s, Enc s xs → xs.length ≠ 18 := fun s _ => by omega
    show AWl _ _ _ _ _
    refine aMovV x rfl ?_
    refine aLen (st.slc hx) rfl ?_
    refine aN rfl rfl (by constructor) ?_
    refine sE ?_
    show AW _ (.cond _ _ _) _ _ _
    refine cC' rfl (fun h28 => ?_) (fun h28 => ?_)
    · have h28q := h28; try simp only [decide_eq_true_eq, decide_eq_false_iff_not, beq_iff_eq, beq_eq_false_iff_ne, bne_iff_ne, bne_eq_false_iff_eq, ne_eq, Decidable.not_not, Bool.not_eq_true, Bool.not_eq_false, gt_iff_lt, ge_iff_le, Int.not_lt, Int.not_le] at h28q
      have h8 : 8 ≤ xs.length := by omega
      show AWl _ _ _ _ _
      refine aMovV x rfl ?_
      refine aIxB (st.slc hx) rfl rfl (by omega) fun b35 o35 g35 => ?_
      refine aLdG rfl g35 ?_
      refine aN rfl rfl (by constructor) ?_
      refine aSt st 0 rfl rfl rfl rfl (by first | rfl | simp [cellsOf, *]) (by first | decide | simp [*]) (by repeat constructor) fun H29 st => ?_
      refine sE ?_
      show AWl _ _ _ _ _
      refine aMovV x rfl ?_
      refine aC (rnum_call (st.slc hx) hb (by omega) (by first | omega | (rw [wi _ (by omega)]; omega))) fun v39 H30 ⟨hv, st1⟩ => ?_
      subst hv
      replace st := st.call st1 rfl
      clear st1
      refine aN rfl rfl (by constructor) ?_
      refine aN rfl rfl (by constructor) ?_
      refine aSt st 0 rfl rfl rfl rfl (by first | rfl | simp [cellsOf, *]) (by first | decide | simp [*]) (by repeat constructor) fun H31 st => ?_
      refine sE ?_
      show AWl _ _ _ _ _
      refine aMovV x rfl ?_
      refine aLen (st.slc hx) rfl ?_
      refine aN rfl rfl (by constructor) ?_
      refine aN rfl rfl (by constructor) ?_
      refine gCase 45 rfl (fun h32 => ?_) (fun h32 => ?_)
      · have h32q := h32; try simp only [decide_eq_true_eq, decide_eq_false_iff_not, beq_iff_eq, beq_eq_false_iff_ne, bne_iff_ne, bne_eq_false_iff_eq, ne_eq, Decidable.not_not, Bool.not_eq_true, Bool.not_eq_false, gt_iff_lt, ge_iff_le, Int.not_lt, Int.not_le] at h32q
        refine gF rfl (by decide) ?_
        refine gF rfl (by decide) ?_
        refine gF rfl (by decide) ?_
        refine aN rfl rfl (by constructor) ?_
        refine aN rfl rfl (by constructor) ?_
        refine aSt st 0 rfl rfl rfl rfl (by first | rfl | simp [cellsOf, *]) (by first | decide | simp [*]) (by repeat constructor) fun H33 st => ?_
        refine sE ?_
        refine AW_cutK (b := .seq (.list (⟨some 56, _, _⟩ :: _)) _) (fun t1 H1 => ∃ (g : Sn), (g.wf) ∧ (Zer g) ∧ (∀ s, Enc s xs → Bas s g) ∧ Stt [] H H1 [⟨some b4, true, ⟨true, 25, [.int .u8 g.key, .int .u16 g.code, .int .u64 g.info, .bool g.hi, .int .i64 g.fld, .int .i64 g.bit, .bool g.hf, .bool g.ic]⟩⟩, ⟨some b2, true, ⟨true, 25, [.int .u8 0, .int .u16 0, .int .u64 0, .bool false, .int .i64 0, .int .i64 0, .bool false, .bool false]⟩⟩]) [51, 52, 53, 54, 55] (by decide) ?_ fun t1 H1 hk hI => ?_
        · show AWl _ _ _ _ _
          refine aN rfl rfl (by constructor) ?_
          refine aLd st 0 rfl rfl rfl (by constructor) ?_
          refine sE ?_
          show AW _ (.cond _ _ _) _ _ _
          refine cT rfl ?_
          show AWl _ _ _ _ _
          refine aMovV x rfl ?_
          refine aC (rnum_call (st.slc hx) hb (by omega) (by first | omega | (rw [wi _ (by omega)]; omega))) fun v54 H34 ⟨hv, st1⟩ => ?_
          subst hv
          replace st := st.call st1 rfl
          clear st1
          refine aN rfl rfl (by constructor) ?_
          refine aSt st 0 rfl rfl rfl rfl (by first | rfl | simp [cellsOf, *]) (by first | decide | simp [*]) (by repeat constructor) fun H35 st => ?_
          refine sE ?_
          refine ⟨⟨xs.getD 1 0, IntKind.u16.wrap (rgetV xs 2 2), rgetV xs 12 8, true, 0, 0, false, false⟩, ⟨?_, ?_, ?_, zb, zb⟩, ⟨rfl, rfl, rfl, rfl⟩, ?_, st.sel [0, 1] (by decide)⟩
          · have := hb.getD 1; show 0 ≤ xs.getD 1 0 ∧ xs.getD 1 0 < 256; omega
          · show 0 ≤ IntKind.u16.wrap _ ∧ IntKind.u16.wrap _ < 65536; rw [w16]; omega
          · exact rgetV_bd hb 12 8
          · intro s h
            obtain ⟨p1, p2, p3, _⟩ := basD h (hn s h)
            have hh : s.hi = true := (lensD h (hn s h)).1.2 (by omega)
            exact ⟨p1, by show s.code = IntKind.u16.wrap (rgetV xs 2 2); rw [← p3, w16]; have := h.1.2.1; omega, (infoD h (hn s h)).1 hh, hh⟩
        · obtain ⟨g, gw, g0, gb, st⟩ := hI
          obtain ⟨u, rfl⟩ : ∃ u, t1 = (mix [51, 52, 53, 54, 55] _ u) := ⟨t1, by rw [← hk]⟩
          clear hk
          show AWl _ _ _ _ _
          refine aMovV x rfl ?_
          refine aLen (st.slc hx) rfl ?_
          refine aBinV (.int .i64 ((xs.length : Int) - 4)) rfl rfl (congrArg (fun z => some (Value.int .i64 z)) (wi _ (by omega))) ?_
          refine aN rfl rfl (by constructor) ?_
          refine sE ?_
          show AWl _ _ _ _ _
          refine aMovV x rfl ?_
          refine aLen (st.slc hx) rfl ?_
          refine aN rfl rfl (by constructor) ?_
          refine aN rfl rfl (by constructor) ?_
          refine gCase 62 rfl (fun h36 => ?_) (fun h36 => ?_)
          · have h36q := h36; try simp only [decide_eq_true_eq, decide_eq_false_iff_not, beq_iff_eq, beq_eq_false_iff_ne, bne_iff_ne, bne_eq_false_iff_eq, ne_eq, Decidable.not_not, Bool.not_eq_true, Bool.not_eq_false, gt_iff_lt, ge_iff_le, Int.not_lt, Int.not_le] at h36q
            refine gT rfl ?_
            refine aMovV x rfl ?_
            refine gT rfl ?_
            refine aLen (st.slc hx) rfl ?_
            refine gT rfl ?_
            refine aN rfl rfl (by constructor) ?_
            refine aN rfl rfl (by constructor) ?_
            refine sE ?_
            show AW _ (.cond _ _ _) _ _ _
            refine cC' rfl (fun h37 => ?_) (fun h37 => ?_)
            · have h37q := h37; try simp only [decide_eq_true_eq, decide_eq_false_iff_not, beq_iff_eq, beq_eq_false_iff_ne, bne_iff_ne, bne_eq_false_iff_eq, ne_eq, Decidable.not_not, Bool.not_eq_true, Bool.not_eq_false, gt_iff_lt, ge_iff_le, Int.not_lt, Int.not_le] at h37q
              show AWl _ _ _ _ _
              refine aN rfl rfl (by constructor) ?_
              refine sE ?_
              refine AW_cutK (b := .seq (.list (⟨some 106, _, _⟩ :: _)) _) (fun t1 H1 => ∃ (g : Sn), (g.wf) ∧ (∀ s, Enc s xs → s = g) ∧ Stt [] H H1 [⟨some b4, true, ⟨true, 25, [.int .u8 g.key, .int .u16 g.code, .int .u64 g.info, .bool g.hi, .int .i64 g.fld, .int .i64 g.bit, .bool g.hf, .bool g.ic]⟩⟩, ⟨some b2, true, ⟨true, 25, [.int .u8 0, .int .u16 0, .int .u64 0, .bool false, .int .i64 0, .int .i64 0, .bool false, .bool false]⟩⟩]) [68, 69, 70, 71, 72, 73, 74, 75, 76, 77, 78, 79, 80, 81, 82, 83, 84, 85, 86, 87, 88, 89, 90, 91, 92, 93, 94, 95, 96, 97, 98, 99, 100, 101, 102, 103, 104] (by decide) ?_ fun t1 H1 hk hI => ?_
              · show AWl _ _ _ _ _
                refine aN rfl rfl (by constructor) ?_
                refine aBinV (.bool false) rfl rfl rfl ?_
                refine aN rfl rfl (by constructor) ?_
                refine gF rfl (by decide) ?_
                refine gF rfl (by decide) ?_
                refine gF rfl (by decide) ?_
                refine gF rfl (by decide) ?_
                refine gF rfl (by decide) ?_
                refine aN rfl rfl (by constructor) ?_
                refine sE ?_
                show AW _ (.cond _ _ _) _ _ _
                refine cF' rfl ?_
                exact ⟨g, gw, fun s h => no_fld h (gb s h) g0 (Bool.eq_false_iff.2 fun hc => by have := (lensD h (hn s h)).2.1 hc; omega), st.sel [0, 1] (by decide)⟩
              · obtain ⟨g, gw, gb, st⟩ := hI
                obtain ⟨u, rfl⟩ : ∃ u, t1 = (mix [68, 69, 70, 71, 72, 73, 74, 75, 76, 77, 78, 79, 80, 81, 82, 83, 84, 85, 86, 87, 88, 89, 90, 91, 92, 93, 94, 95, 96, 97, 98, 99, 100, 101, 102, 103, 104] _ u) := ⟨t1, by rw [← hk]⟩
                clear hk
                show AWl _ _ _ _ _
                refine aLdAll st 0 rfl rfl (rfl) ?_
                refine aC (rdesc_call (s := g) gw) fun v107 H38 ⟨ob107, hv, st1⟩ => ?_
                subst hv
                replace st := st.call st1 rfl
                clear st1
                refine aN rfl rfl (by constructor) ?_
                refine aExtA rfl rfl ?_
                refine aN rfl rfl (by constructor) ?_
                refine aMovA rfl ?_
                refine aN rfl rfl (by constructor) ?_
                refine sE ?_
                show AWl _ _ _ _ _
                refine aMovV (.bool false) (congrArg Value.bool h3) ?_
                refine sE ?_
                show AW _ (.cond _ _ _) _ _ _
                refine cF' rfl ?_
                show AWl _ _ _ _ _
                refine aN rfl rfl (by constructor) ?_
                refine aN rfl rfl (by constructor) ?_
                refine aN rfl rfl (by constructor) ?_
                refine gCase 118 rfl (fun h39 => ?_) (fun h39 => ?_)
                · have h39q := h39; try simp only [decide_eq_true_eq, decide_eq_false_iff_not, beq_iff_eq, beq_eq_false_iff_ne, bne_iff_ne, bne_eq_false_iff_eq, ne_eq, Decidable.not_not, Bool.not_eq_true, Bool.not_eq_false, gt_iff_lt, ge_iff_le, Int.not_lt, Int.not_le] at h39q
                  refine gF rfl (by decide) ?_
                  refine gF rfl (by decide) ?_
                  refine gF rfl (by decide) ?_
                  refine gF rfl (by decide) ?_
                  refine gF rfl (by decide) ?_
                  refine aN rfl rfl (by constructor) ?_
                  refine sE ?_
                  show AW _ (.cond _ _ _) _ _ _
                  refine cT rfl ?_
                  show AWl _ _ _ _ _
                  refine aBld rfl (by repeat constructor) ?_
                  refine aSt st 2 rfl rfl rfl rfl (by first | rfl | simp [cellsOf, *]) (by first | decide | simp [*]) (by repeat constructor) fun H40 st => ?_
                  refine aN rfl rfl (by constructor) ?_
                  refine sE ?_
                  refine ⟨_, out2 (r_cellA st 2 rfl rfl (by first | decide | simp [*]) (by repeat constructor)) (r_tmp rfl (by constructor)) ⟨rfl, rfl⟩, ?_⟩
                  exact ⟨none, DecOk.no (fun s h => by have := enc_descR h (hn s h); rw [gb s h] at this; omega), rfl, st.drop⟩
                · have h39q := h39; try simp only [decide_eq_true_eq, decide_eq_false_iff_not, beq_iff_eq, beq_eq_false_iff_ne, bne_iff_ne, bne_eq_false_iff_eq, ne_eq, Decidable.not_not, Bool.not_eq_true, Bool.not_eq_false, gt_iff_lt, ge_iff_le, Int.not_lt, Int.not_le] at h39q
                  refine gT rfl ?_
                  refine aMovA rfl ?_
                  refine gT rfl ?_
                  refine aText (st.rowAcc 0 rfl (by decide) (by simp)) rfl ?_
                  refine gT rfl ?_
                  refine aMovV x rfl ?_
                  refine gT rfl ?_
                  refine aText (st.slc hx) rfl ?_
                  refine gT rfl ?_
                  refine aBinV (.bool (!decide (descR g = xs))) (u := .string (ofInts (descR g))) (u' := .string (ofInts xs)) rfl rfl (by show some (Value.bool (!((ofInts (descR g)).toList == (ofInts xs).toList))) = _; rw [texts_beq (descR_bytes gw) hb]) ?_
                  refine aN rfl rfl (by constructor) ?_
                  refine sE ?_
                  show AW _ (.cond _ _ _) _ _ _
                  refine cC' rfl (fun h41 => ?_) (fun h41 => ?_)
                  · have h41q := h41; try simp only [decide_eq_true_eq, decide_eq_false_iff_not, beq_iff_eq, beq_eq_false_iff_ne, bne_iff_ne, bne_eq_false_iff_eq, ne_eq, Decidable.not_not, Bool.not_eq_true, Bool.not_eq_false, gt_iff_lt, ge_iff_le, Int.not_lt, Int.not_le] at h41q
                    have h41n : decide (descR g = xs) = false := by simpa using h41
                    show AWl _ _ _ _ _
                    refine aBld rfl (by repeat constructor) ?_
                    refine aSt st 2 rfl rfl rfl rfl (by first | rfl | simp [cellsOf, *]) (by first | decide | simp [*]) (by repeat constructor) fun H42 st => ?_
                    refine aN rfl rfl (by constructor) ?_
                    refine sE ?_
                    refine ⟨_, out2 (r_cellA st 2 rfl rfl (by first | decide | simp [*]) (by repeat constructor)) (r_tmp rfl (by constructor)) ⟨rfl, rfl⟩, ?_⟩
                    exact ⟨none, DecOk.no (fun s h => of_decide_eq_false h41n (by have := enc_descR h (hn s h); rw [gb s h] at this; exact this.2)), rfl, st.drop⟩
                  · have h41q := h41; try simp only [decide_eq_true_eq, decide_eq_false_iff_not, beq_iff_eq, beq_eq_false_iff_ne, bne_iff_ne, bne_eq_false_iff_eq, ne_eq, Decidable.not_not, Bool.not_eq_true, Bool.not_eq_false, gt_iff_lt, ge_iff_le, Int.not_lt, Int.not_le] at h41q
                    have h41n : decide (descR g = xs) = true := by simpa using h41
                    show AWl _ _ _ _ _
                    refine aLdAll st 1 rfl rfl (rfl) ?_
                    refine aStAllA st 2 rfl rfl rfl (rfl) (rfl) fun H43 st => ?_
                    refine aN rfl rfl (by constructor) ?_
                    refine sE ?_
                    refine ⟨_, out2 (r_cellA st 2 rfl rfl (by first | decide | simp [*]) (by repeat constructor)) (r_tmp rfl (by constructor)) ⟨rfl, rfl⟩, ?_⟩
                    exact ⟨some g, DecOk.yes (desc_enc gw (by omega) (of_decide_eq_true h41n)) gb, rfl, st.drop⟩
            · have h37q := h37; try simp only [decide_eq_true_eq, decide_eq_false_iff_not, beq_iff_eq, beq_eq_false_iff_ne, bne_iff_ne, bne_eq_false_iff_eq, ne_eq, Decidable.not_not, Bool.not_eq_true, Bool.not_eq_false, gt_iff_lt, ge_iff_le, Int.not_lt, Int.not_le] at h37q
              refine AW_cutK (b := .seq (.list (⟨some 106, _, _⟩ :: _)) _) (fun t1 H1 => ∃ (g : Sn), (g.wf) ∧ (∀ s, Enc s xs → s = g) ∧ Stt [] H H1 [⟨some b4, true, ⟨true, 25, [.int .u8 g.key, .int .u16 g.code, .int .u64 g.info, .bool g.hi, .int .i64 g.fld, .int .i64 g.bit, .bool g.hf, .bool g.ic]⟩⟩, ⟨some b2, true, ⟨true, 25, [.int .u8 0, .int .u16 0, .int .u64 0, .bool false, .int .i64 0, .int .i64 0, .bool false, .bool false]⟩⟩]) [68, 69, 70, 71, 72, 73, 74, 75, 76, 77, 78, 79, 80, 81, 82, 83, 84, 85, 86, 87, 88, 89, 90, 91, 92, 93, 94, 95, 96, 97, 98, 99, 100, 101, 102, 103, 104] (by decide) ?_ fun t1 H1 hk hI => ?_
              · show AWl _ _ _ _ _
                refine aN rfl rfl (by constructor) ?_
                refine aBinV (.bool true) (u := .int .i64 ((xs.length : Int) - 4)) (u' := .int .i64 0) rfl rfl (congrArg (fun z => some (Value.bool z)) (decide_eq_true (by omega))) ?_
                refine aN rfl rfl (by constructor) ?_
                refine gT rfl ?_
                refine aMovV x rfl ?_
                refine gT rfl ?_
                refine aN rfl rfl (by constructor) ?_
                refine gT rfl ?_
                refine aIxB (st.slc hx) rfl rfl (by omega) fun b73 o73 g73 => ?_
                refine gT rfl ?_
                refine aLdG rfl g73 ?_
                refine gT rfl ?_
                refine aN rfl rfl (by constructor) ?_
                refine aN rfl rfl (by constructor) ?_
                refine sE ?_
                show AW _ (.cond _ _ _) _ _ _
                refine cC' rfl (fun h44 => ?_) (fun h44 => ?_)
                · have h44q := h44; try simp only [decide_eq_true_eq, decide_eq_false_iff_not, beq_iff_eq, beq_eq_false_iff_ne, bne_iff_ne, bne_eq_false_iff_eq, ne_eq, Decidable.not_not, Bool.not_eq_true, Bool.not_eq_false, gt_iff_lt, ge_iff_le, Int.not_lt, Int.not_le] at h44q
                  show AWl _ _ _ _ _
                  refine aN rfl rfl (by constructor) ?_
                  refine aSt st 0 rfl rfl rfl rfl (by first | rfl | simp [cellsOf, *]) (by first | decide | simp [*]) (by repeat constructor) fun H45 st => ?_
                  refine sE ?_
                  show AWl _ _ _ _ _
                  refine aMovV x rfl ?_
                  refine aN rfl rfl (by constructor) ?_
                  refine aIxB (st.slc hx) rfl rfl (by omega) fun b80 o80 g80 => ?_
                  refine aLdG rfl g80 ?_
                  refine aN rfl rfl (by constructor) ?_
                  refine aN rfl rfl (by constructor) ?_
                  refine aN rfl rfl (by constructor) ?_
                  refine aSt st 0 rfl rfl rfl rfl (by first | rfl | simp [cellsOf, *]) (by first | decide | simp [*]) (by repeat constructor) fun H46 st => ?_
                  refine sE ?_
                  show AWl _ _ _ _ _
                  refine aN rfl rfl (by constructor) ?_
                  refine aSt st 0 rfl rfl rfl rfl (by first | rfl | simp [cellsOf, *]) (by first | decide | simp [*]) (by repeat constructor) fun H47 st => ?_
                  refine sE ?_
                  show AWl _ _ _ _ _
                  refine aMovV x rfl ?_
                  refine aN rfl rfl (by constructor) ?_
                  refine aIxB (st.slc hx) rfl rfl (by omega) fun b88 o88 g88 => ?_
                  refine aLdG rfl g88 ?_
                  refine aN rfl rfl (by constructor) ?_
                  refine aN rfl rfl (by constructor) ?_
                  refine sE ?_
                  show AW _ (.cond _ _ _) _ _ _
                  refine cC' rfl (fun h48 => ?_) (fun h48 => ?_)
                  · have h48q := h48; try simp only [decide_eq_true_eq, decide_eq_false_iff_not, beq_iff_eq, beq_eq_false_iff_ne, bne_iff_ne, bne_eq_false_iff_eq, ne_eq, Decidable.not_not, Bool.not_eq_true, Bool.not_eq_false, gt_iff_lt, ge_iff_le, Int.not_lt, Int.not_le] at h48q
                    show AWl _ _ _ _ _
                    refine aMovV x rfl ?_
                    refine aN rfl rfl (by constructor) ?_
                    refine aIxB (st.slc hx) rfl rfl (by omega) fun b94 o94 g94 => ?_
                    refine aLdG rfl g94 ?_
                    refine aN rfl rfl (by constructor) ?_
                    refine aN rfl rfl (by constructor) ?_
                    refine aN rfl rfl (by constructor) ?_
                    refine aSt st 0 rfl rfl rfl rfl (by first | rfl | simp [cellsOf, *]) (by first | decide | simp [*]) (by repeat constructor) fun H49 st => ?_
                    refine sE ?_
                    show AWl _ _ _ _ _
                    refine aMovV x rfl ?_
                    refine aN rfl rfl (by constructor) ?_
                    refine aN rfl rfl (by constructor) ?_
                    refine aC (rnum_call (st.slc hx) hb (by omega) (by first | omega | (rw [wi _ (by omega)]; omega))) fun v102 H50 ⟨hv, st1⟩ => ?_
                    subst hv
                    replace st := st.call st1 rfl
                    clear st1
                    refine aN rfl rfl (by constructor) ?_
                    refine aN rfl rfl (by constructor) ?_
                    refine aSt st 0 rfl rfl rfl rfl (by first | rfl | simp [cellsOf, *]) (by first | decide | simp [*]) (by repeat constructor) fun H51 st => ?_
                    refine sE ?_
                    have ha : ((xs.length : Int) - 4).toNat = (xs.length - 4) := by omega
                    have e : refS g xs (xs.length - 4) = { g with hf := true, ic := bits .and .u8 (xs.getD (xs.length - 4) 0) 64 != 0, bit := IntKind.i64.wrap ((xs.getD (xs.length - 4) 0).tmod 8), fld := IntKind.i64.wrap (rgetV xs (((xs.length - 4) : Nat) + 1 : Int) 2) } := by
                      have h0 := h48; rw [ha] at h0
                      unfold refS; rw [if_pos h0]
                    refine ⟨refS g xs (xs.length - 4), refS_wf gw, fun s h => ?_, ?_⟩
                    · exact refDesc h (hn s h) (gb s h) (by omega)
                    · have st2 := st.sel [0, 1] (by decide)
                      rw [ha] at st2
                      rw [e]
                      rw [wi ((xs.length : Int) - 4 + 1) (by omega), show (xs.length : Int) - 4 + 1 = (((xs.length - 4) : Nat) : Int) + 1 by omega] at st2
                      exact st2
                  · have h48q := h48; try simp only [decide_eq_true_eq, decide_eq_false_iff_not, beq_iff_eq, beq_eq_false_iff_ne, bne_iff_ne, bne_eq_false_iff_eq, ne_eq, Decidable.not_not, Bool.not_eq_true, Bool.not_eq_false, gt_iff_lt, ge_iff_le, Int.not_lt, Int.not_le] at h48q
                    show AWl _ _ _ _ _
                    refine aMovV x rfl ?_
                    refine aN rfl rfl (by constructor) ?_
                    refine aN rfl rfl (by constructor) ?_
                    refine aC (rnum_call (st.slc hx) hb (by omega) (by first | omega | (rw [wi _ (by omega)]; omega))) fun v102 H52 ⟨hv, st1⟩ => ?_
                    subst hv
                    replace st := st.call st1 rfl
                    clear st1
                    refine aN rfl rfl (by constructor) ?_
                    refine aN rfl rfl (by constructor) ?_
                    refine aSt st 0 rfl rfl rfl rfl (by first | rfl | simp [cellsOf, *]) (by first | decide | simp [*]) (by repeat constructor) fun H53 st => ?_
                    refine sE ?_
                    have ha : ((xs.length : Int) - 4).toNat = (xs.length - 4) := by omega
                    have e : refS g xs (xs.length - 4) = { g with hf := true, ic := bits .and .u8 (xs.getD (xs.length - 4) 0) 64 != 0, bit := -1, fld := IntKind.i64.wrap (rgetV xs (((xs.length - 4) : Nat) + 1 : Int) 2) } := by
                      have h0 := h48; rw [ha] at h0
                      unfold refS; rw [if_neg (by rw [h0]; decide)]
                    refine ⟨refS g xs (xs.length - 4), refS_wf gw, fun s h => ?_, ?_⟩
                    · exact refDesc h (hn s h) (gb s h) (by omega)
                    · have st2 := st.sel [0, 1] (by decide)
                      rw [ha] at st2
                      rw [e]
                      rw [wi ((xs.length : Int) - 4 + 1) (by omega), show (xs.length : Int) - 4 + 1 = (((xs.length - 4) : Nat) : Int) + 1 by omega] at st2
                      exact st2
                · have h44q := h44; try simp only [decide_eq_true_eq, decide_eq_false_iff_not, beq_iff_eq, beq_eq_false_iff_ne, bne_iff_ne, bne_eq_false_iff_eq, ne_eq, Decidable.not_not, Bool.not_eq_true, Bool.not_eq_false, gt_iff_lt, ge_iff_le, Int.not_lt, Int.not_le] at h44q
                  exact ⟨g, gw, fun s h => no_fld h (gb s h) g0 (Bool.eq_false_iff.2 fun hc => by have := (keyD h (hn s h) hc).2; have h0 := h44q; rw [show ((xs.length : Int) - 4).toNat = xs.length - 4 by omega] at h0; omega), st.sel [0, 1] (by decide)⟩
              · obtain ⟨g, gw, gb, st⟩ := hI
                obtain ⟨u, rfl⟩ : ∃ u, t1 = (mix [68, 69, 70, 71, 72, 73, 74, 75, 76, 77, 78, 79, 80, 81, 82, 83, 84, 85, 86, 87, 88, 89, 90, 91, 92, 93, 94, 95, 96, 97, 98, 99, 100, 101, 102, 103, 104] _ u) := ⟨t1, by rw [← hk]⟩
                clear hk
                show AWl _ _ _ _ _
                refine aLdAll st 0 rfl rfl (rfl) ?_
                refine aC (rdesc_call (s := g) gw) fun v107 H54 ⟨ob107, hv, st1⟩ => ?_
                subst hv
                replace st := st.call st1 rfl
                clear st1
                refine aN rfl rfl (by constructor) ?_
                refine aExtA rfl rfl ?_
                refine aN rfl rfl (by constructor) ?_
                refine aMovA rfl ?_
                refine aN rfl rfl (by constructor) ?_
                refine sE ?_
                show AWl _ _ _ _ _
                refine aMovV (.bool false) (congrArg Value.bool h3) ?_
                refine sE ?_
                show AW _ (.cond _ _ _) _ _ _
                refine cF' rfl ?_
                show AWl _ _ _ _ _
                refine aN rfl rfl (by constructor) ?_
                refine aN rfl rfl (by constructor) ?_
                refine aN rfl rfl (by constructor) ?_
                refine gCase 118 rfl (fun h55 => ?_) (fun h55 => ?_)
                · have h55q := h55; try simp only [decide_eq_true_eq, decide_eq_false_iff_not, beq_iff_eq, beq_eq_false_iff_ne, bne_iff_ne, bne_eq_false_iff_eq, ne_eq, Decidable.not_not, Bool.not_eq_true, Bool.not_eq_false, gt_iff_lt, ge_iff_le, Int.not_lt, Int.not_le] at h55q
                  refine gF rfl (by decide) ?_
                  refine gF rfl (by decide) ?_
                  refine gF rfl (by decide) ?_
                  refine gF rfl (by decide) ?_
                  refine gF rfl (by decide) ?_
                  refine aN rfl rfl (by constructor) ?_
                  refine sE ?_
                  show AW _ (.cond _ _ _) _ _ _
                  refine cT rfl ?_
                  show AWl _ _ _ _ _
                  refine aBld rfl (by repeat constructor) ?_
                  refine aSt st 2 rfl rfl rfl rfl (by first | rfl | simp [cellsOf, *]) (by first | decide | simp [*]) (by repeat constructor) fun H56 st => ?_
                  refine aN rfl rfl (by constructor) ?_
                  refine sE ?_
                  refine ⟨_, out2 (r_cellA st 2 rfl rfl (by first | decide | simp [*]) (by repeat constructor)) (r_tmp rfl (by constructor)) ⟨rfl, rfl⟩, ?_⟩
                  exact ⟨none, DecOk.no (fun s h => by have := enc_descR h (hn s h); rw [gb s h] at this; omega), rfl, st.drop⟩
                · have h55q := h55; try simp only [decide_eq_true_eq, decide_eq_false_iff_not, beq_iff_eq, beq_eq_false_iff_ne, bne_iff_ne, bne_eq_false_iff_eq, ne_eq, Decidable.not_not, Bool.not_eq_true, Bool.not_eq_false, gt_iff_lt, ge_iff_le, Int.not_lt, Int.not_le] at h55q
                  refine gT rfl ?_
                  refine aMovA rfl ?_
                  refine gT rfl ?_
                  refine aText (st.rowAcc 0 rfl (by decide) (by simp)) rfl ?_
                  refine gT rfl ?_
                  refine aMovV x rfl ?_
                  refine gT rfl ?_
                  refine aText (st.slc hx) rfl ?_
                  refine gT rfl ?_
                  refine aBinV (.bool (!decide (descR g = xs))) (u := .string (ofInts (descR g))) (u' := .string (ofInts xs)) rfl rfl (by show some (Value.bool (!((ofInts (descR g)).toList == (ofInts xs).toList))) = _; rw [texts_beq (descR_bytes gw) hb]) ?_
                  refine aN rfl rfl (by constructor) ?_
                  refine sE ?_
                  show AW _ (.cond _ _ _) _ _ _
                  refine cC' rfl (fun h57 => ?_) (fun h57 => ?_)
                  · have h57q := h57; try simp only [decide_eq_true_eq, decide_eq_false_iff_not, beq_iff_eq, beq_eq_false_iff_ne, bne_iff_ne, bne_eq_false_iff_eq, ne_eq, Decidable.not_not, Bool.not_eq_true, Bool.not_eq_false, gt_iff_lt, ge_iff_le, Int.not_lt, Int.not_le] at h57q
                    have h57n : decide (descR g = xs) = false := by simpa using h57
                    show AWl _ _ _ _ _
                    refine aBld rfl (by repeat constructor) ?_
                    refine aSt st 2 rfl rfl rfl rfl (by first | rfl | simp [cellsOf, *]) (by first | decide | simp [*]) (by repeat constructor) fun H58 st => ?_
                    refine aN rfl rfl (by constructor) ?_
                    refine sE ?_
                    refine ⟨_, out2 (r_cellA st 2 rfl rfl (by first | decide | simp [*]) (by repeat constructor)) (r_tmp rfl (by constructor)) ⟨rfl, rfl⟩, ?_⟩
                    exact ⟨none, DecOk.no (fun s h => of_decide_eq_false h57n (by have := enc_descR h (hn s h); rw [gb s h] at this; exact this.2)), rfl, st.drop⟩
                  · have h57q := h57; try simp only [decide_eq_true_eq, decide_eq_false_iff_not, beq_iff_eq, beq_eq_false_iff_ne, bne_iff_ne, bne_eq_false_iff_eq, ne_eq, Decidable.not_not, Bool.not_eq_true, Bool.not_eq_false, gt_iff_lt, ge_iff_le, Int.not_lt, Int.not_le] at h57q
                    have h57n : decide (descR g = xs) = true := by simpa using h57
                    show AWl _ _ _ _ _
                    refine aLdAll st 1 rfl rfl (rfl) ?_
                    refine aStAllA st 2 rfl rfl rfl (rfl) (rfl) fun H59 st => ?_
                    refine aN rfl rfl (by constructor) ?_
                    refine sE ?_
                    refine ⟨_, out2 (r_cellA st 2 rfl rfl (by first | decide | simp [*]) (by repeat constructor)) (r_tmp rfl (by constructor)) ⟨rfl, rfl⟩, ?_⟩
                    exact ⟨some g, DecOk.yes (desc_enc gw (by omega) (of_decide_eq_true h57n)) gb, rfl, st.drop⟩
          · have h36q := h36; try simp only [decide_eq_true_eq, decide_eq_false_iff_not, beq_iff_eq, beq_eq_false_iff_ne, bne_iff_ne, bne_eq_false_iff_eq, ne_eq, Decidable.not_not, Bool.not_eq_true, Bool.not_eq_false, gt_iff_lt, ge_iff_le, Int.not_lt, Int.not_le] at h36q
            refine gF rfl (by decide) ?_
            refine gF rfl (by decide) ?_
            refine gF rfl (by decide) ?_
            refine aN rfl rfl (by constructor) ?_
            refine sE ?_
            show AW _ (.cond _ _ _) _ _ _
            refine cF' rfl ?_
            refine AW_cutK (b := .seq (.list (⟨some 106, _, _⟩ :: _)) _) (fun t1 H1 => ∃ (g : Sn), (g.wf) ∧ (∀ s, Enc s xs → s = g) ∧ Stt [] H H1 [⟨some b4, true, ⟨true, 25, [.int .u8 g.key, .int .u16 g.code, .int .u64 g.info, .bool g.hi, .int .i64 g.fld, .int .i64 g.bit, .bool g.hf, .bool g.ic]⟩⟩, ⟨some b2, true, ⟨true, 25, [.int .u8 0, .int .u16 0, .int .u64 0, .bool false, .int .i64 0, .int .i64 0, .bool false, .bool false]⟩⟩]) [68, 69, 70, 71, 72, 73, 74, 75, 76, 77, 78, 79, 80, 81, 82, 83, 84, 85, 86, 87, 88, 89, 90, 91, 92, 93, 94, 95, 96, 97, 98, 99, 100, 101, 102, 103, 104] (by decide) ?_ fun t1 H1 hk hI => ?_
            · show AWl _ _ _ _ _
              refine aN rfl rfl (by constructor) ?_
              refine aBinV (.bool true) (u := .int .i64 ((xs.length : Int) - 4)) (u' := .int .i64 0) rfl rfl (congrArg (fun z => some (Value.bool z)) (decide_eq_true (by omega))) ?_
              refine aN rfl rfl (by constructor) ?_
              refine gT rfl ?_
              refine aMovV x rfl ?_
              refine gT rfl ?_
              refine aN rfl rfl (by constructor) ?_
              refine gT rfl ?_
              refine aIxB (st.slc hx) rfl rfl (by omega) fun b73 o73 g73 => ?_
              refine gT rfl ?_
              refine aLdG rfl g73 ?_
              refine gT rfl ?_
              refine aN rfl rfl (by constructor) ?_
              refine aN rfl rfl (by constructor) ?_
              refine sE ?_
              show AW _ (.cond _ _ _) _ _ _
              refine cC' rfl (fun h60 => ?_) (fun h60 => ?_)
              · have h60q := h60; try simp only [decide_eq_true_eq, decide_eq_false_iff_not, beq_iff_eq, beq_eq_false_iff_ne, bne_iff_ne, bne_eq_false_iff_eq, ne_eq, Decidable.not_not, Bool.not_eq_true, Bool.not_eq_false, gt_iff_lt, ge_iff_le, Int.not_lt, Int.not_le] at h60q
                show AWl _ _ _ _ _
                refine aN rfl rfl (by constructor) ?_
                refine aSt st 0 rfl rfl rfl rfl (by first | rfl | simp [cellsOf, *]) (by first | decide | simp [*]) (by repeat constructor) fun H61 st => ?_
                refine sE ?_
                show AWl _ _ _ _ _
                refine aMovV x rfl ?_
                refine aN rfl rfl (by constructor) ?_
                refine aIxB (st.slc hx) rfl rfl (by omega) fun b80 o80 g80 => ?_
                refine aLdG rfl g80 ?_
                refine aN rfl rfl (by constructor) ?_
                refine aN rfl rfl (by constructor) ?_
                refine aN rfl rfl (by constructor) ?_
                refine aSt st 0 rfl rfl rfl rfl (by first | rfl | simp [cellsOf, *]) (by first | decide | simp [*]) (by repeat constructor) fun H62 st => ?_
                refine sE ?_
                show AWl _ _ _ _ _
                refine aN rfl rfl (by constructor) ?_
                refine aSt st 0 rfl rfl rfl rfl (by first | rfl | simp [cellsOf, *]) (by first | decide | simp [*]) (by repeat constructor) fun H63 st => ?_
                refine sE ?_
                show AWl _ _ _ _ _
                refine aMovV x rfl ?_
                refine aN rfl rfl (by constructor) ?_
                refine aIxB (st.slc hx) rfl rfl (by omega) fun b88 o88 g88 => ?_
                refine aLdG rfl g88 ?_
                refine aN rfl rfl (by constructor) ?_
                refine aN rfl rfl (by constructor) ?_
                refine sE ?_
                show AW _ (.cond _ _ _) _ _ _
                refine cC' rfl (fun h64 => ?_) (fun h64 => ?_)
                · have h64q := h64; try simp only [decide_eq_true_eq, decide_eq_false_iff_not, beq_iff_eq, beq_eq_false_iff_ne, bne_iff_ne, bne_eq_false_iff_eq, ne_eq, Decidable.not_not, Bool.not_eq_true, Bool.not_eq_false, gt_iff_lt, ge_iff_le, Int.not_lt, Int.not_le] at h64q
                  show AWl _ _ _ _ _
                  refine aMovV x rfl ?_
                  refine aN rfl rfl (by constructor) ?_
                  refine aIxB (st.slc hx) rfl rfl (by omega) fun b94 o94 g94 => ?_
                  refine aLdG rfl g94 ?_
                  refine aN rfl rfl (by constructor) ?_
                  refine aN rfl rfl (by constructor) ?_
                  refine aN rfl rfl (by constructor) ?_
                  refine aSt st 0 rfl rfl rfl rfl (by first | rfl | simp [cellsOf, *]) (by first | decide | simp [*]) (by repeat constructor) fun H65 st => ?_
                  refine sE ?_
                  show AWl _ _ _ _ _
                  refine aMovV x rfl ?_
                  refine aN rfl rfl (by constructor) ?_
                  refine aN rfl rfl (by constructor) ?_
                  refine aC (rnum_call (st.slc hx) hb (by omega) (by first | omega | (rw [wi _ (by omega)]; omega))) fun v102 H66 ⟨hv, st1⟩ => ?_
                  subst hv
                  replace st := st.call st1 rfl
                  clear st1
                  refine aN rfl rfl (by constructor) ?_
                  refine aN rfl rfl (by constructor) ?_
                  refine aSt st 0 rfl rfl rfl rfl (by first | rfl | simp [cellsOf, *]) (by first | decide | simp [*]) (by repeat constructor) fun H67 st => ?_
                  refine sE ?_
                  have ha : ((xs.length : Int) - 4).toNat = (xs.length - 4) := by omega
                  have e : refS g xs (xs.length - 4) = { g with hf := true, ic := bits .and .u8 (xs.getD (xs.length - 4) 0) 64 != 0, bit := IntKind.i64.wrap ((xs.getD (xs.length - 4) 0).tmod 8), fld := IntKind.i64.wrap (rgetV xs (((xs.length - 4) : Nat) + 1 : Int) 2) } := by
                    have h0 := h64; rw [ha] at h0
                    unfold refS; rw [if_pos h0]
                  refine ⟨refS g xs (xs.length - 4), refS_wf gw, fun s h => ?_, ?_⟩
                  · exact refDesc h (hn s h) (gb s h) (by omega)
                  · have st2 := st.sel [0, 1] (by decide)
                    rw [ha] at st2
                    rw [e]
                    rw [wi ((xs.length : Int) - 4 + 1) (by omega), show (xs.length : Int) - 4 + 1 = (((xs.length - 4) : Nat) : Int) + 1 by omega] at st2
                    exact st2
                · have h64q := h64; try simp only [decide_eq_true_eq, decide_eq_false_iff_not, beq_iff_eq, beq_eq_false_iff_ne, bne_iff_ne, bne_eq_false_iff_eq, ne_eq, Decidable.not_not, Bool.not_eq_true, Bool.not_eq_false, gt_iff_lt, ge_iff_le, Int.not_lt, Int.not_le] at h64q
                  show AWl _ _ _ _ _
                  refine aMovV x rfl ?_
                  refine aN rfl rfl (by constructor) ?_
                  refine aN rfl rfl (by constructor) ?_
                  refine aC (rnum_call (st.slc hx) hb (by omega) (by first | omega | (rw [wi _ (by omega)]; omega))) fun v102 H68 ⟨hv, st1⟩ => ?_
                  subst hv
                  replace st := st.call st1 rfl
                  clear st1
                  refine aN rfl rfl (by constructor) ?_
                  refine aN rfl rfl (by constructor) ?_
                  refine aSt st 0 rfl rfl rfl rfl (by first | rfl | simp [cellsOf, *]) (by first | decide | simp [*]) (by repeat constructor) fun H69 st => ?_
                  refine sE ?_
                  have ha : ((xs.length : Int) - 4).toNat = (xs.length - 4) := by omega
                  have e : refS g xs (xs.length - 4) = { g with hf := true, ic := bits .and .u8 (xs.getD (xs.length - 4) 0) 64 != 0, bit := -1, fld := IntKind.i64.wrap (rgetV xs (((xs.length - 4) : Nat) + 1 : Int) 2) } := by
                    have h0 := h64; rw [ha] at h0
                    unfold refS; rw [if_neg (by rw [h0]; decide)]
                  refine ⟨refS g xs (xs.length - 4), refS_wf gw, fun s h => ?_, ?_⟩
                  · exact refDesc h (hn s h) (gb s h) (by omega)
                  · have st2 := st.sel [0, 1] (by decide)
                    rw [ha] at st2
                    rw [e]
                    rw [wi ((xs.length : Int) - 4 + 1) (by omega), show (xs.length : Int) - 4 + 1 = (((xs.length - 4) : Nat) : Int) + 1 by omega] at st2
                    exact st2
              · have h60q := h60; try simp only [decide_eq_true_eq, decide_eq_false_iff_not, beq_iff_eq, beq_eq_false_iff_ne, bne_iff_ne, bne_eq_false_iff_eq, ne_eq, Decidable.not_not, Bool.not_eq_true, Bool.not_eq_false, gt_iff_lt, ge_iff_le, Int.not_lt, Int.not_le] at h60q
                exact ⟨g, gw, fun s h => no_fld h (gb s h) g0 (Bool.eq_false_iff.2 fun hc => by have := (keyD h (hn s h) hc).2; have h0 := h60q; rw [show ((xs.length : Int) - 4).toNat = xs.length - 4 by omega] at h0; omega), st.sel [0, 1] (by decide)⟩
            · obtain ⟨g, gw, gb, st⟩ := hI
              obtain ⟨u, rfl⟩ : ∃ u, t1 = (mix [68, 69, 70, 71, 72, 73, 74, 75, 76, 77, 78, 79, 80, 81, 82, 83, 84, 85, 86, 87, 88, 89, 90, 91, 92, 93, 94, 95, 96, 97, 98, 99, 100, 101, 102, 103, 104] _ u) := ⟨t1, by rw [← hk]⟩
              clear hk
              show AWl _ _ _ _ _
              refine aLdAll st 0 rfl rfl (rfl) ?_
              refine aC (rdesc_call (s := g) gw) fun v107 H70 ⟨ob107, hv, st1⟩ => ?_
              subst hv
              replace st := st.call st1 rfl
              clear st1
              refine aN rfl rfl (by constructor) ?_
              refine aExtA rfl rfl ?_
              refine aN rfl rfl (by constructor) ?_
              refine aMovA rfl ?_
              refine aN rfl rfl (by constructor) ?_
              refine sE ?_
              show AWl _ _ _ _ _
              refine aMovV (.bool false) (congrArg Value.bool h3) ?_
              refine sE ?_
              show AW _ (.cond _ _ _) _ _ _
              refine cF' rfl ?_
              show AWl _ _ _ _ _
              refine aN rfl rfl (by constructor) ?_
              refine aN rfl rfl (by constructor) ?_
              refine aN rfl rfl (by constructor) ?_
              refine gCase 118 rfl (fun h71 => ?_) (fun h71 => ?_)
              · have h71q := h71; try simp only [decide_eq_true_eq, decide_eq_false_iff_not, beq_iff_eq, beq_eq_false_iff_ne, bne_iff_ne, bne_eq_false_iff_eq, ne_eq, Decidable.not_not, Bool.not_eq_true, Bool.not_eq_false, gt_iff_lt, ge_iff_le, Int.not_lt, Int.not_le] at h71q
                refine gF rfl (by decide) ?_
                refine gF rfl (by decide) ?_
                refine gF rfl (by decide) ?_
                refine gF rfl (by decide) ?_
                refine gF rfl (by decide) ?_
                refine aN rfl rfl (by constructor) ?_
                refine sE ?_
                show AW _ (.cond _ _ _) _ _ _
                refine cT rfl ?_
                show AWl _ _ _ _ _
                refine aBld rfl (by repeat constructor) ?_
                refine aSt st 2 rfl rfl rfl rfl (by first | rfl | simp [cellsOf, *]) (by first | decide | simp [*]) (by repeat constructor) fun H72 st => ?_
                refine aN rfl rfl (by constructor) ?_
                refine sE ?_
                refine ⟨_, out2 (r_cellA st 2 rfl rfl (by first | decide | simp [*]) (by repeat constructor)) (r_tmp rfl (by constructor)) ⟨rfl, rfl⟩, ?_⟩
                exact ⟨none, DecOk.no (fun s h => by have := enc_descR h (hn s h); rw [gb s h] at this; omega), rfl, st.drop⟩
              · have h71q := h71; try simp only [decide_eq_true_eq, decide_eq_false_iff_not, beq_iff_eq, beq_eq_false_iff_ne, bne_iff_ne, bne_eq_false_iff_eq, ne_eq, Decidable.not_not, Bool.not_eq_true, Bool.not_eq_false, gt_iff_lt, ge_iff_le, Int.not_lt, Int.not_le] at h71q
                refine gT rfl ?_
                refine aMovA rfl ?_
                refine gT rfl ?_
                refine aText (st.rowAcc 0 rfl (by decide) (by simp)) rfl ?_
                refine gT rfl ?_
                refine aMovV x rfl ?_
                refine gT rfl ?_
                refine aText (st.slc hx) rfl ?_
                refine gT rfl ?_
                refine aBinV (.bool (!decide (descR g = xs))) (u := .string (ofInts (descR g))) (u' := .string (ofInts xs)) rfl rfl (by show some (Value.bool (!((ofInts (descR g)).toList == (ofInts xs).toList))) = _; rw [texts_beq (descR_bytes gw) hb]) ?_
                refine aN rfl rfl (by constructor) ?_
                refine sE ?_
                show AW _ (.cond _ _ _) _ _ _
                refine cC' rfl (fun h73 => ?_) (fun h73 => ?_)
                · have h73q := h73; try simp only [decide_eq_true_eq, decide_eq_false_iff_not, beq_iff_eq, beq_eq_false_iff_ne, bne_iff_ne, bne_eq_false_iff_eq, ne_eq, Decidable.not_not, Bool.not_eq_true, Bool.not_eq_false, gt_iff_lt, ge_iff_le, Int.not_lt, Int.not_le] at h73q
                  have h73n : decide (descR g = xs) = false := by simpa using h73
                  show AWl _ _ _ _ _
                  refine aBld rfl (by repeat constructor) ?_
                  refine aSt st 2 rfl rfl rfl rfl (by first | rfl | simp [cellsOf, *]) (by first | decide | simp [*]) (by repeat constructor) fun H74 st => ?_
                  refine aN rfl rfl (by constructor) ?_
                  refine sE ?_
                  refine ⟨_, out2 (r_cellA st 2 rfl rfl (by first | decide | simp [*]) (by repeat constructor)) (r_tmp rfl (by constructor)) ⟨rfl, rfl⟩, ?_⟩
                  exact ⟨none, DecOk.no (fun s h => of_decide_eq_false h73n (by have := enc_descR h (hn s h); rw [gb s h] at this; exact this.2)), rfl, st.drop⟩
                · have h73q := h73; try simp only [decide_eq_true_eq, decide_eq_false_iff_not, beq_iff_eq, beq_eq_false_iff_ne, bne_iff_ne, bne_eq_false_iff_eq, ne_eq, Decidable.not_not, Bool.not_eq_true, Bool.not_eq_false, gt_iff_lt, ge_iff_le, Int.not_lt, Int.not_le] at h73q
                  have h73n : decide (descR g = xs) = true := by simpa using h73
                  show AWl _ _ _ _ _
                  refine aLdAll st 1 rfl rfl (rfl) ?_
                  refine aStAllA st 2 rfl rfl rfl (rfl) (rfl) fun H75 st => ?_
                  refine aN rfl rfl (by constructor) ?_
                  refine sE ?_
                  refine ⟨_, out2 (r_cellA st 2 rfl rfl (by first | decide | simp [*]) (by repeat constructor)) (r_tmp rfl (by constructor)) ⟨rfl, rfl⟩, ?_⟩
                  exact ⟨some g, DecOk.yes (desc_enc gw (by omega) (of_decide_eq_true h73n)) gb, rfl, st.drop⟩
      · have h32q := h32; try simp only [decide_eq_true_eq, decide_eq_false_iff_not, beq_iff_eq, beq_eq_false_iff_ne, bne_iff_ne, bne_eq_false_iff_eq, ne_eq, Decidable.not_not, Bool.not_eq_true, Bool.not_eq_false, gt_iff_lt, ge_iff_le, Int.not_lt, Int.not_le] at h32q
        refine gT rfl ?_
        refine aMovV x rfl ?_
        refine gT rfl ?_
        refine aLen (st.slc hx) rfl ?_
        refine gT rfl ?_
        refine aN rfl rfl (by constructor) ?_
        refine aN rfl rfl (by constructor) ?_
        refine aN rfl rfl (by constructor) ?_
        refine aSt st 0 rfl rfl rfl rfl (by first | rfl | simp [cellsOf, *]) (by first | decide | simp [*]) (by repeat constructor) fun H76 st => ?_
        refine sE ?_
        refine AW_cutK (b := .seq (.list (⟨some 56, _, _⟩ :: _)) _) (fun t1 H1 => ∃ (g : Sn), (g.wf) ∧ (Zer g) ∧ (∀ s, Enc s xs → Bas s g) ∧ Stt [] H H1 [⟨some b4, true, ⟨true, 25, [.int .u8 g.key, .int .u16 g.code, .int .u64 g.info, .bool g.hi, .int .i64 g.fld, .int .i64 g.bit, .bool g.hf, .bool g.ic]⟩⟩, ⟨some b2, true, ⟨true, 25, [.int .u8 0, .int .u16 0, .int .u64 0, .bool false, .int .i64 0, .int .i64 0, .bool false, .bool false]⟩⟩]) [51, 52, 53, 54, 55] (by decide) ?_ fun t1 H1 hk hI => ?_
        · show AWl _ _ _ _ _
          refine aN rfl rfl (by constructor) ?_
          refine aLd st 0 rfl rfl rfl (by constructor) ?_
          refine sE ?_
          show AW _ (.cond _ _ _) _ _ _
          refine cC' rfl (fun h77 => ?_) (fun h77 => ?_)
          · have h77q := h77; try simp only [decide_eq_true_eq, decide_eq_false_iff_not, beq_iff_eq, beq_eq_false_iff_ne, bne_iff_ne, bne_eq_false_iff_eq, ne_eq, Decidable.not_not, Bool.not_eq_true, Bool.not_eq_false, gt_iff_lt, ge_iff_le, Int.not_lt, Int.not_le] at h77q
            show AWl _ _ _ _ _
            refine aMovV x rfl ?_
            refine aC (rnum_call (st.slc hx) hb (by omega) (by first | omega | (rw [wi _ (by omega)]; omega))) fun v54 H78 ⟨hv, st1⟩ => ?_
            subst hv
            replace st := st.call st1 rfl
            clear st1
            refine aN rfl rfl (by constructor) ?_
            refine aSt st 0 rfl rfl rfl rfl (by first | rfl | simp [cellsOf, *]) (by first | decide | simp [*]) (by repeat constructor) fun H79 st => ?_
            refine sE ?_
            refine ⟨⟨xs.getD 1 0, IntKind.u16.wrap (rgetV xs 2 2), rgetV xs 12 8, ((xs.length : Int) == 28), 0, 0, false, false⟩, ⟨?_, ?_, ?_, zb, zb⟩, ⟨rfl, rfl, rfl, rfl⟩, ?_, st.sel [0, 1] (by decide)⟩
            · have := hb.getD 1; show 0 ≤ xs.getD 1 0 ∧ xs.getD 1 0 < 256; omega
            · show 0 ≤ IntKind.u16.wrap _ ∧ IntKind.u16.wrap _ < 65536; rw [w16]; omega
            · exact rgetV_bd hb 12 8
            · intro s h
              obtain ⟨p1, p2, p3, _⟩ := basD h (hn s h)
              have hh : s.hi = true := (lensD h (hn s h)).1.2 (by omega)
              exact ⟨p1, by show s.code = IntKind.u16.wrap (rgetV xs 2 2); rw [← p3, w16]; have := h.1.2.1; omega, (infoD h (hn s h)).1 hh, by rw [hh]; exact h77.symm⟩
          · have h77q := h77; try simp only [decide_eq_true_eq, decide_eq_false_iff_not, beq_iff_eq, beq_eq_false_iff_ne, bne_iff_ne, bne_eq_false_iff_eq, ne_eq, Decidable.not_not, Bool.not_eq_true, Bool.not_eq_false, gt_iff_lt, ge_iff_le, Int.not_lt, Int.not_le] at h77q
            refine ⟨⟨xs.getD 1 0, IntKind.u16.wrap (rgetV xs 2 2), 0, ((xs.length : Int) == 28), 0, 0, false, false⟩, ⟨?_, ?_, ?_, zb, zb⟩, ⟨rfl, rfl, rfl, rfl⟩, ?_, st.sel [0, 1] (by decide)⟩
            · have := hb.getD 1; show 0 ≤ xs.getD 1 0 ∧ xs.getD 1 0 < 256; omega
            · show 0 ≤ IntKind.u16.wrap _ ∧ IntKind.u16.wrap _ < 65536; rw [w16]; omega
            · exact z64
            · intro s h
              obtain ⟨p1, p2, p3, _⟩ := basD h (hn s h)
              have hh : s.hi = false := Bool.eq_false_iff.2 (fun hc => by have := (lensD h (hn s h)).1.1 hc; omega)
              exact ⟨p1, by show s.code = IntKind.u16.wrap (rgetV xs 2 2); rw [← p3, w16]; have := h.1.2.1; omega, (infoD h (hn s h)).2 hh, by rw [hh]; exact h77.symm⟩
        · obtain ⟨g, gw, g0, gb, st⟩ := hI
          obtain ⟨u, rfl⟩ : ∃ u, t1 = (mix [51, 52, 53, 54, 55] _ u) := ⟨t1, by rw [← hk]⟩
          clear hk
          show AWl _ _ _ _ _
          refine aMovV x rfl ?_
          refine aLen (st.slc hx) rfl ?_
          refine aBinV (.int .i64 ((xs.length : Int) - 4)) rfl rfl (congrArg (fun z => some (Value.int .i64 z)) (wi _ (by omega))) ?_
          refine aN rfl rfl (by constructor) ?_
          refine sE ?_
          show AWl _ _ _ _ _
          refine aMovV x rfl ?_
          refine aLen (st.slc hx) rfl ?_
          refine aN rfl rfl (by constructor) ?_
          refine aN rfl rfl (by constructor) ?_
          refine gCase 62 rfl (fun h80 => ?_) (fun h80 => ?_)
          · have h80q := h80; try simp only [decide_eq_true_eq, decide_eq_false_iff_not, beq_iff_eq, beq_eq_false_iff_ne, bne_iff_ne, bne_eq_false_iff_eq, ne_eq, Decidable.not_not, Bool.not_eq_true, Bool.not_eq_false, gt_iff_lt, ge_iff_le, Int.not_lt, Int.not_le] at h80q
            refine gT rfl ?_
            refine aMovV x rfl ?_
            refine gT rfl ?_
            refine aLen (st.slc hx) rfl ?_
            refine gT rfl ?_
            refine aN rfl rfl (by constructor) ?_
            refine aN rfl rfl (by constructor) ?_
            refine sE ?_
            show AW _ (.cond _ _ _) _ _ _
            refine cC' rfl (fun h81 => ?_) (fun h81 => ?_)
            · have h81q := h81; try simp only [decide_eq_true_eq, decide_eq_false_iff_not, beq_iff_eq, beq_eq_false_iff_ne, bne_iff_ne, bne_eq_false_iff_eq, ne_eq, Decidable.not_not, Bool.not_eq_true, Bool.not_eq_false, gt_iff_lt, ge_iff_le, Int.not_lt, Int.not_le] at h81q
              show AWl _ _ _ _ _
              refine aN rfl rfl (by constructor) ?_
              refine sE ?_
              refine AW_cutK (b := .seq (.list (⟨some 106, _, _⟩ :: _)) _) (fun t1 H1 => ∃ (g : Sn), (g.wf) ∧ (∀ s, Enc s xs → s = g) ∧ Stt [] H H1 [⟨some b4, true, ⟨true, 25, [.int .u8 g.key, .int .u16 g.code, .int .u64 g.info, .bool g.hi, .int .i64 g.fld, .int .i64 g.bit, .bool g.hf, .bool g.ic]⟩⟩, ⟨some b2, true, ⟨true, 25, [.int .u8 0, .int .u16 0, .int .u64 0, .bool false, .int .i64 0, .int .i64 0, .bool false, .bool false]⟩⟩]) [68, 69, 70, 71, 72, 73, 74, 75, 76, 77, 78, 79, 80, 81, 82, 83, 84, 85, 86, 87, 88, 89, 90, 91, 92, 93, 94, 95, 96, 97, 98, 99, 100, 101, 102, 103, 104] (by decide) ?_ fun t1 H1 hk hI => ?_
              · show AWl _ _ _ _ _
                refine aN rfl rfl (by constructor) ?_
                refine aBinV (.bool false) rfl rfl rfl ?_
                refine aN rfl rfl (by constructor) ?_
                refine gF rfl (by decide) ?_
                refine gF rfl (by decide) ?_
                refine gF rfl (by decide) ?_
                refine gF rfl (by decide) ?_
                refine gF rfl (by decide) ?_
                refine aN rfl rfl (by constructor) ?_
                refine sE ?_
                show AW _ (.cond _ _ _) _ _ _
                refine cF' rfl ?_
                exact ⟨g, gw, fun s h => no_fld h (gb s h) g0 (Bool.eq_false_iff.2 fun hc => by have := (lensD h (hn s h)).2.1 hc; omega), st.sel [0, 1] (by decide)⟩
              · obtain ⟨g, gw, gb, st⟩ := hI
                obtain ⟨u, rfl⟩ : ∃ u, t1 = (mix [68, 69, 70, 71, 72, 73, 74, 75, 76, 77, 78, 79, 80, 81, 82, 83, 84, 85, 86, 87, 88, 89, 90, 91, 92, 93, 94, 95, 96, 97, 98, 99, 100, 101, 102, 103, 104] _ u) := ⟨t1, by rw [← hk]⟩
                clear hk
                show AWl _ _ _ _ _
                refine aLdAll st 0 rfl rfl (rfl) ?_
                refine aC (rdesc_call (s := g) gw) fun v107 H82 ⟨ob107, hv, st1⟩ => ?_
                subst hv
                replace st := st.call st1 rfl
                clear st1
                refine aN rfl rfl (by constructor) ?_
                refine aExtA rfl rfl ?_
                refine aN rfl rfl (by constructor) ?_
                refine aMovA rfl ?_
                refine aN rfl rfl (by constructor) ?_
                refine sE ?_
                show AWl _ _ _ _ _
                refine aMovV (.bool false) (congrArg Value.bool h3) ?_
                refine sE ?_
                show AW _ (.cond _ _ _) _ _ _
                refine cF' rfl ?_
                show AWl _ _ _ _ _
                refine aN rfl rfl (by constructor) ?_
                refine aN rfl rfl (by constructor) ?_
                refine aN rfl rfl (by constructor) ?_
                refine gCase 118 rfl (fun h83 => ?_) (fun h83 => ?_)
                · have h83q := h83; try simp only [decide_eq_true_eq, decide_eq_false_iff_not, beq_iff_eq, beq_eq_false_iff_ne, bne_iff_ne, bne_eq_false_iff_eq, ne_eq, Decidable.not_not, Bool.not_eq_true, Bool.not_eq_false, gt_iff_lt, ge_iff_le, Int.not_lt, Int.not_le] at h83q
                  refine gF rfl (by decide) ?_
                  refine gF rfl (by decide) ?_
                  refine gF rfl (by decide) ?_
                  refine gF rfl (by decide) ?_
                  refine gF rfl (by decide) ?_
                  refine aN rfl rfl (by constructor) ?_
                  refine sE ?_
                  show AW _ (.cond _ _ _) _ _ _
                  refine cT rfl ?_
                  show AWl _ _ _ _ _
                  refine aBld rfl (by repeat constructor) ?_
                  refine aSt st 2 rfl rfl rfl rfl (by first | rfl | simp [cellsOf, *]) (by first | decide | simp [*]) (by repeat constructor) fun H84 st => ?_
                  refine aN rfl rfl (by constructor) ?_
                  refine sE ?_
                  refine ⟨_, out2 (r_cellA st 2 rfl rfl (by first | decide | simp [*]) (by repeat constructor)) (r_tmp rfl (by constructor)) ⟨rfl, rfl⟩, ?_⟩
                  exact ⟨none, DecOk.no (fun s h => by have := enc_descR h (hn s h); rw [gb s h] at this; omega), rfl, st.drop⟩
                · have h83q := h83; try simp only [decide_eq_true_eq, decide_eq_false_iff_not, beq_iff_eq, beq_eq_false_iff_ne, bne_iff_ne, bne_eq_false_iff_eq, ne_eq, Decidable.not_not, Bool.not_eq_true, Bool.not_eq_false, gt_iff_lt, ge_iff_le, Int.not_lt, Int.not_le] at h83q
                  refine gT rfl ?_
                  refine aMovA rfl ?_
                  refine gT rfl ?_
                  refine aText (st.rowAcc 0 rfl (by decide) (by simp)) rfl ?_
                  refine gT rfl ?_
                  refine aMovV x rfl ?_
                  refine gT rfl ?_
                  refine aText (st.slc hx) rfl ?_
                  refine gT rfl ?_
                  refine aBinV (.bool (!decide (descR g = xs))) (u := .string (ofInts (descR g))) (u' := .string (ofInts xs)) rfl rfl (by show some (Value.bool (!((ofInts (descR g)).toList == (ofInts xs).toList))) = _; rw [texts_beq (descR_bytes gw) hb]) ?_
                  refine aN rfl rfl (by constructor) ?_
                  refine sE ?_
                  show AW _ (.cond _ _ _) _ _ _
                  refine cC' rfl (fun h85 => ?_) (fun h85 => ?_)
                  · have h85q := h85; try simp only [decide_eq_true_eq, decide_eq_false_iff_not, beq_iff_eq, beq_eq_false_iff_ne, bne_iff_ne, bne_eq_false_iff_eq, ne_eq, Decidable.not_not, Bool.not_eq_true, Bool.not_eq_false, gt_iff_lt, ge_iff_le, Int.not_lt, Int.not_le] at h85q
                    have h85n : decide (descR g = xs) = false := by simpa using h85
                    show AWl _ _ _ _ _
                    refine aBld rfl (by repeat constructor) ?_
                    refine aSt st 2 rfl rfl rfl rfl (by first | rfl | simp [cellsOf, *]) (by first | decide | simp [*]) (by repeat constructor) fun H86 st => ?_
                    refine aN rfl rfl (by constructor) ?_
                    refine sE ?_
                    refine ⟨_, out2 (r_cellA st 2 rfl rfl (by first | decide | simp [*]) (by repeat constructor)) (r_tmp rfl (by constructor)) ⟨rfl, rfl⟩, ?_⟩
                    exact ⟨none, DecOk.no (fun s h => of_decide_eq_false h85n (by have := enc_descR h (hn s h); rw [gb s h] at this; exact this.2)), rfl, st.drop⟩
                  · have h85q := h85; try simp only [decide_eq_true_eq, decide_eq_false_iff_not, beq_iff_eq, beq_eq_false_iff_ne, bne_iff_ne, bne_eq_false_iff_eq, ne_eq, Decidable.not_not, Bool.not_eq_true, Bool.not_eq_false, gt_iff_lt, ge_iff_le, Int.not_lt, Int.not_le] at h85q
                    have h85n : decide (descR g = xs) = true := by simpa using h85
                    show AWl _ _ _ _ _
                    refine aLdAll st 1 rfl rfl (rfl) ?_
                    refine aStAllA st 2 rfl rfl rfl (rfl) (rfl) fun H87 st => ?_
                    refine aN rfl rfl (by constructor) ?_
                    refine sE ?_
                    refine ⟨_, out2 (r_cellA st 2 rfl rfl (by first | decide | simp [*]) (by repeat constructor)) (r_tmp rfl (by constructor)) ⟨rfl, rfl⟩, ?_⟩
                    exact ⟨some g, DecOk.yes (desc_enc gw (by omega) (of_decide_eq_true h85n)) gb, rfl, st.drop⟩
            · have h81q := h81; try simp only [decide_eq_true_eq, decide_eq_false_iff_not, beq_iff_eq, beq_eq_false_iff_ne, bne_iff_ne, bne_eq_false_iff_eq, ne_eq, Decidable.not_not, Bool.not_eq_true, Bool.not_eq_false, gt_iff_lt, ge_iff_le, Int.not_lt, Int.not_le] at h81q
              refine AW_cutK (b := .seq (.list (⟨some 106, _, _⟩ :: _)) _) (fun t1 H1 => ∃ (g : Sn), (g.wf) ∧ (∀ s, Enc s xs → s = g) ∧ Stt [] H H1 [⟨some b4, true, ⟨true, 25, [.int .u8 g.key, .int .u16 g.code, .int .u64 g.info, .bool g.hi, .int .i64 g.fld, .int .i64 g.bit, .bool g.hf, .bool g.ic]⟩⟩, ⟨some b2, true, ⟨true, 25, [.int .u8 0, .int .u16 0, .int .u64 0, .bool false, .int .i64 0, .int .i64 0, .bool false, .bool false]⟩⟩]) [68, 69, 70, 71, 72, 73, 74, 75, 76, 77, 78, 79, 80, 81, 82, 83, 84, 85, 86, 87, 88, 89, 90, 91, 92, 93, 94, 95, 96, 97, 98, 99, 100, 101, 102, 103, 104] (by decide) ?_ fun t1 H1 hk hI => ?_
              · show AWl _ _ _ _ _
                refine aN rfl rfl (by constructor) ?_
                refine aBinV (.bool true) (u := .int .i64 ((xs.length : Int) - 4)) (u' := .int .i64 0) rfl rfl (congrArg (fun z => some (Value.bool z)) (decide_eq_true (by omega))) ?_
                refine aN rfl rfl (by constructor) ?_
                refine gT rfl ?_
                refine aMovV x rfl ?_
                refine gT rfl ?_
                refine aN rfl rfl (by constructor) ?_
                refine gT rfl ?_
                refine aIxB (st.slc hx) rfl rfl (by omega) fun b73 o73 g73 => ?_
                refine gT rfl ?_
                refine aLdG rfl g73 ?_
                refine gT rfl ?_
                refine aN rfl rfl (by constructor) ?_
                refine aN rfl rfl (by constructor) ?_
                refine sE ?_
                show AW _ (.cond _ _ _) _ _ _
                refine cC' rfl (fun h88 => ?_) (fun h88 => ?_)
                · have h88q := h88; try simp only [decide_eq_true_eq, decide_eq_false_iff_not, beq_iff_eq, beq_eq_false_iff_ne, bne_iff_ne, bne_eq_false_iff_eq, ne_eq, Decidable.not_not, Bool.not_eq_true, Bool.not_eq_false, gt_iff_lt, ge_iff_le, Int.not_lt, Int.not_le] at h88q
                  show AWl _ _ _ _ _
                  refine aN rfl rfl (by constructor) ?_
                  refine aSt st 0 rfl rfl rfl rfl (by first | rfl | simp [cellsOf, *]) (by first | decide | simp [*]) (by repeat constructor) fun H89 st => ?_
                  refine sE ?_
                  show AWl _ _ _ _ _
                  refine aMovV x rfl ?_
                  refine aN rfl rfl (by constructor) ?_
                  refine aIxB (st.slc hx) rfl rfl (by omega) fun b80 o80 g80 => ?_
                  refine aLdG rfl g80 ?_
                  refine aN rfl rfl (by constructor) ?_
                  refine aN rfl rfl (by constructor) ?_
                  refine aN rfl rfl (by constructor) ?_
                  refine aSt st 0 rfl rfl rfl rfl (by first | rfl | simp [cellsOf, *]) (by first | decide | simp [*]) (by repeat constructor) fun H90 st => ?_
                  refine sE ?_
                  show AWl _ _ _ _ _
                  refine aN rfl rfl (by constructor) ?_
                  refine aSt st 0 rfl rfl rfl rfl (by first | rfl | simp [cellsOf, *]) (by first | decide | simp [*]) (by repeat constructor) fun H91 st => ?_
                  refine sE ?_
                  show AWl _ _ _ _ _
                  refine aMovV x rfl ?_
                  refine aN rfl rfl (by constructor) ?_
                  refine aIxB (st.slc hx) rfl rfl (by omega) fun b88 o88 g88 => ?_
                  refine aLdG rfl g88 ?_
                  refine aN rfl rfl (by constructor) ?_
                  refine aN rfl rfl (by constructor) ?_
                  refine sE ?_
                  show AW _ (.cond _ _ _) _ _ _
                  refine cC' rfl (fun h92 => ?_) (fun h92 => ?_)
                  · have h92q := h92; try simp only [decide_eq_true_eq, decide_eq_false_iff_not, beq_iff_eq, beq_eq_false_iff_ne, bne_iff_ne, bne_eq_false_iff_eq, ne_eq, Decidable.not_not, Bool.not_eq_true, Bool.not_eq_false, gt_iff_lt, ge_iff_le, Int.not_lt, Int.not_le] at h92q
                    show AWl _ _ _ _ _
                    refine aMovV x rfl ?_
                    refine aN rfl rfl (by constructor) ?_
                    refine aIxB (st.slc hx) rfl rfl (by omega) fun b94 o94 g94 => ?_
                    refine aLdG rfl g94 ?_
                    refine aN rfl rfl (by constructor) ?_
                    refine aN rfl rfl (by constructor) ?_
                    refine aN rfl rfl (by constructor) ?_
                    refine aSt st 0 rfl rfl rfl rfl (by first | rfl | simp [cellsOf, *]) (by first | decide | simp [*]) (by repeat constructor) fun H93 st => ?_
                    refine sE ?_
                    show AWl _ _ _ _ _
                    refine aMovV x rfl ?_
                    refine aN rfl rfl (by constructor) ?_
                    refine aN rfl rfl (by constructor) ?_
                    refine aC (rnum_call (st.slc hx) hb (by omega) (by first | omega | (rw [wi _ (by omega)]; omega))) fun v102 H94 ⟨hv, st1⟩ => ?_
                    subst hv
                    replace st := st.call st1 rfl
                    clear st1
                    refine aN rfl rfl (by constructor) ?_
                    refine aN rfl rfl (by constructor) ?_
                    refine aSt st 0 rfl rfl rfl rfl (by first | rfl | simp [cellsOf, *]) (by first | decide | simp [*]) (by repeat constructor) fun H95 st => ?_
                    refine sE ?_
                    have ha : ((xs.length : Int) - 4).toNat = (xs.length - 4) := by omega
                    have e : refS g xs (xs.length - 4) = { g with hf := true, ic := bits .and .u8 (xs.getD (xs.length - 4) 0) 64 != 0, bit := IntKind.i64.wrap ((xs.getD (xs.length - 4) 0).tmod 8), fld := IntKind.i64.wrap (rgetV xs (((xs.length - 4) : Nat) + 1 : Int) 2) } := by
                      have h0 := h92; rw [ha] at h0
                      unfold refS; rw [if_pos h0]
                    refine ⟨refS g xs (xs.length - 4), refS_wf gw, fun s h => ?_, ?_⟩
                    · exact refDesc h (hn s h) (gb s h) (by omega)
                    · have st2 := st.sel [0, 1] (by decide)
                      rw [ha] at st2
                      rw [e]
                      rw [wi ((xs.length : Int) - 4 + 1) (by omega), show (xs.length : Int) - 4 + 1 = (((xs.length - 4) : Nat) : Int) + 1 by omega] at st2
                      exact st2
                  · have h92q := h92; try simp only [decide_eq_true_eq, decide_eq_false_iff_not, beq_iff_eq, beq_eq_false_iff_ne, bne_iff_ne, bne_eq_false_iff_eq, ne_eq, Decidable.not_not, Bool.not_eq_true, Bool.not_eq_false, gt_iff_lt, ge_iff_le, Int.not_lt, Int.not_le] at h92q
                    show AWl _ _ _ _ _
                    refine aMovV x rfl ?_
                    refine aN rfl rfl (by constructor) ?_
                    refine aN rfl rfl (by constructor) ?_
                    refine aC (rnum_call (st.slc hx) hb (by omega) (by first | omega | (rw [wi _ (by omega)]; omega))) fun v102 H96 ⟨hv, st1⟩ => ?_
                    subst hv
                    replace st := st.call st1 rfl
                    clear st1
                    refine aN rfl rfl (by constructor) ?_
                    refine aN rfl rfl (by constructor) ?_
                    refine aSt st 0 rfl rfl rfl rfl (by first | rfl | simp [cellsOf, *]) (by first | decide | simp [*]) (by repeat constructor) fun H97 st => ?_
                    refine sE ?_
                    have ha : ((xs.length : Int) - 4).toNat = (xs.length - 4) := by omega
                    have e : refS g xs (xs.length - 4) = { g with hf := true, ic := bits .and .u8 (xs.getD (xs.length - 4) 0) 64 != 0, bit := -1, fld := IntKind.i64.wrap (rgetV xs (((xs.length - 4) : Nat) + 1 : Int) 2) } := by
                      have h0 := h92; rw [ha] at h0
                      unfold refS; rw [if_neg (by rw [h0]; decide)]
                    refine ⟨refS g xs (xs.length - 4), refS_wf gw, fun s h => ?_, ?_⟩
                    · exact refDesc h (hn s h) (gb s h) (by omega)
                    · have st2 := st.sel [0, 1] (by decide)
                      rw [ha] at st2
                      rw [e]
                      rw [wi ((xs.length : Int) - 4 + 1) (by omega), show (xs.length : Int) - 4 + 1 = (((xs.length - 4) : Nat) : Int) + 1 by omega] at st2
                      exact st2
                · have h88q := h88; try simp only [decide_eq_true_eq, decide_eq_false_iff_not, beq_iff_eq, beq_eq_false_iff_ne, bne_iff_ne, bne_eq_false_iff_eq, ne_eq, Decidable.not_not, Bool.not_eq_true, Bool.not_eq_false, gt_iff_lt, ge_iff_le, Int.not_lt, Int.not_le] at h88q
                  exact ⟨g, gw, fun s h => no_fld h (gb s h) g0 (Bool.eq_false_iff.2 fun hc => by have := (keyD h (hn s h) hc).2; have h0 := h88q; rw [show ((xs.length : Int) - 4).toNat = xs.length - 4 by omega] at h0; omega), st.sel [0, 1] (by decide)⟩
              · obtain ⟨g, gw, gb, st⟩ := hI
                obtain ⟨u, rfl⟩ : ∃ u, t1 = (mix [68, 69, 70, 71, 72, 73, 74, 75, 76, 77, 78, 79, 80, 81, 82, 83, 84, 85, 86, 87, 88, 89, 90, 91, 92, 93, 94, 95, 96, 97, 98, 99, 100, 101, 102, 103, 104] _ u) := ⟨t1, by rw [← hk]⟩
                clear hk
                show AWl _ _ _ _ _
                refine aLdAll st 0 rfl rfl (rfl) ?_
                refine aC (rdesc_call (s := g) gw) fun v107 H98 ⟨ob107, hv, st1⟩ => ?_
                subst hv
                replace st := st.call st1 rfl
                clear st1
                refine aN rfl rfl (by constructor) ?_
                refine aExtA rfl rfl ?_
                refine aN rfl rfl (by constructor) ?_
                refine aMovA rfl ?_
                refine aN rfl rfl (by constructor) ?_
                refine sE ?_
                show AWl _ _ _ _ _
                refine aMovV (.bool false) (congrArg Value.bool h3) ?_
                refine sE ?_
                show AW _ (.cond _ _ _) _ _ _
                refine cF' rfl ?_
                show AWl _ _ _ _ _
                refine aN rfl rfl (by constructor) ?_
                refine aN rfl rfl (by constructor) ?_
                refine aN rfl rfl (by constructor) ?_
                refine gCase 118 rfl (fun h99 => ?_) (fun h99 => ?_)
                · have h99q := h99; try simp only [decide_eq_true_eq, decide_eq_false_iff_not, beq_iff_eq, beq_eq_false_iff_ne, bne_iff_ne, bne_eq_false_iff_eq, ne_eq, Decidable.not_not, Bool.not_eq_true, Bool.not_eq_false, gt_iff_lt, ge_iff_le, Int.not_lt, Int.not_le] at h99q
                  refine gF rfl (by decide) ?_
                  refine gF rfl (by decide) ?_
                  refine gF rfl (by decide) ?_
                  refine gF rfl (by decide) ?_
                  refine gF rfl (by decide) ?_
                  refine aN rfl rfl (by constructor) ?_
                  refine sE ?_
                  show AW _ (.cond _ _ _) _ _ _
                  refine cT rfl ?_
                  show AWl _ _ _ _ _
                  refine aBld rfl (by repeat constructor) ?_
                  refine aSt st 2 rfl rfl rfl rfl (by first | rfl | simp [cellsOf, *]) (by first | decide | simp [*]) (by repeat constructor) fun H100 st => ?_
                  refine aN rfl rfl (by constructor) ?_
                  refine sE ?_
                  refine ⟨_, out2 (r_cellA st 2 rfl rfl (by first | decide | simp [*]) (by repeat constructor)) (r_tmp rfl (by constructor)) ⟨rfl, rfl⟩, ?_⟩
                  exact ⟨none, DecOk.no (fun s h => by have := enc_descR h (hn s h); rw [gb s h] at this; omega), rfl, st.drop⟩
                · have h99q := h99; try simp only [decide_eq_true_eq, decide_eq_false_iff_not, beq_iff_eq, beq_eq_false_iff_ne, bne_iff_ne, bne_eq_false_iff_eq, ne_eq, Decidable.not_not, Bool.not_eq_true, Bool.not_eq_false, gt_iff_lt, ge_iff_le, Int.not_lt, Int.not_le] at h99q
                  refine gT rfl ?_
                  refine aMovA rfl ?_
                  refine gT rfl ?_
                  refine aText (st.rowAcc 0 rfl (by decide) (by simp)) rfl ?_
                  refine gT rfl ?_
                  refine aMovV x rfl ?_
                  refine gT rfl ?_
                  refine aText (st.slc hx) rfl ?_
                  refine gT rfl ?_
                  refine aBinV (.bool (!decide (descR g = xs))) (u := .string (ofInts (descR g))) (u' := .string (ofInts xs)) rfl rfl (by show some (Value.bool (!((ofInts (descR g)).toList == (ofInts xs).toList))) = _; rw [texts_beq (descR_bytes gw) hb]) ?_
                  refine aN rfl rfl (by constructor) ?_
                  refine sE ?_
                  show AW _ (.cond _ _ _) _ _ _
                  refine cC' rfl (fun h101 => ?_) (fun h101 => ?_)
                  · have h101q := h101; try simp only [decide_eq_true_eq, decide_eq_false_iff_not, beq_iff_eq, beq_eq_false_iff_ne, bne_iff_ne, bne_eq_false_iff_eq, ne_eq, Decidable.not_not, Bool.not_eq_true, Bool.not_eq_false, gt_iff_lt, ge_iff_le, Int.not_lt, Int.not_le] at h101q
                    have h101n : decide (descR g = xs) = false := by simpa using h101
                    show AWl _ _ _ _ _
                    refine aBld rfl (by repeat constructor) ?_
                    refine aSt st 2 rfl rfl rfl rfl (by first | rfl | simp [cellsOf, *]) (by first | decide | simp [*]) (by repeat constructor) fun H102 st => ?_
                    refine aN rfl rfl (by constructor) ?_
                    refine sE ?_
                    refine ⟨_, out2 (r_cellA st 2 rfl rfl (by first | decide | simp [*]) (by repeat constructor)) (r_tmp rfl (by constructor)) ⟨rfl, rfl⟩, ?_⟩
                    exact ⟨none, DecOk.no (fun s h => of_decide_eq_false h101n (by have := enc_descR h (hn s h); rw [gb s h] at this; exact this.2)), rfl, st.drop⟩
                  · have h101q := h101; try simp only [decide_eq_true_eq, decide_eq_false_iff_not, beq_iff_eq, beq_eq_false_iff_ne, bne_iff_ne, bne_eq_false_iff_eq, ne_eq, Decidable.not_not, Bool.not_eq_true, Bool.not_eq_false, gt_iff_lt, ge_iff_le, Int.not_lt, Int.not_le] at h101q
                    have h101n : decide (descR g = xs) = true := by simpa using h101
                    show AWl _ _ _ _ _
                    refine aLdAll st 1 rfl rfl (rfl) ?_
                    refine aStAllA st 2 rfl rfl rfl (rfl) (rfl) fun H103 st => ?_
                    refine aN rfl rfl (by constructor) ?_
                    refine sE ?_
                    refine ⟨_, out2 (r_cellA st 2 rfl rfl (by first | decide | simp [*]) (by repeat constructor)) (r_tmp rfl (by constructor)) ⟨rfl, rfl⟩, ?_⟩
                    exact ⟨some g, DecOk.yes (desc_enc gw (by omega) (of_decide_eq_true h101n)) gb, rfl, st.drop⟩
          · have h80q := h80; try simp only [decide_eq_true_eq, decide_eq_false_iff_not, beq_iff_eq, beq_eq_false_iff_ne, bne_iff_ne, bne_eq_false_iff_eq, ne_eq, Decidable.not_not, Bool.not_eq_true, Bool.not_eq_false, gt_iff_lt, ge_iff_le, Int.not_lt, Int.not_le] at h80q
            refine gF rfl (by decide) ?_
            refine gF rfl (by decide) ?_
            refine gF rfl (by decide) ?_
            refine aN rfl rfl (by constructor) ?_
            refine sE ?_
            show AW _ (.cond _ _ _) _ _ _
            refine cF' rfl ?_
            refine AW_cutK (b := .seq (.list (⟨some 106, _, _⟩ :: _)) _) (fun t1 H1 => ∃ (g : Sn), (g.wf) ∧ (∀ s, Enc s xs → s = g) ∧ Stt [] H H1 [⟨some b4, true, ⟨true, 25, [.int .u8 g.key, .int .u16 g.code, .int .u64 g.info, .bool g.hi, .int .i64 g.fld, .int .i64 g.bit, .bool g.hf, .bool g.ic]⟩⟩, ⟨some b2, true, ⟨true, 25, [.int .u8 0, .int .u16 0, .int .u64 0, .bool false, .int .i64 0, .int .i64 0, .bool false, .bool false]⟩⟩]) [68, 69, 70, 71, 72, 73, 74, 75, 76, 77, 78, 79, 80, 81, 82, 83, 84, 85, 86, 87, 88, 89, 90, 91, 92, 93, 94, 95, 96, 97, 98, 99, 100, 101, 102, 103, 104] (by decide) ?_ fun t1 H1 hk hI => ?_
            · show AWl _ _ _ _ _
              refine aN rfl rfl (by constructor) ?_
              refine aBinV (.bool true) (u := .int .i64 ((xs.length : Int) - 4)) (u' := .int .i64 0) rfl rfl (congrArg (fun z => some (Value.bool z)) (decide_eq_true (by omega))) ?_
              refine aN rfl rfl (by constructor) ?_
              refine gT rfl ?_
              refine aMovV x rfl ?_
              refine gT rfl ?_
              refine aN rfl rfl (by constructor) ?_
              refine gT rfl ?_
              refine aIxB (st.slc hx) rfl rfl (by omega) fun b73 o73 g73 => ?_
              refine gT rfl ?_
              refine aLdG rfl g73 ?_
              refine gT rfl ?_
              refine aN rfl rfl (by constructor) ?_
              refine aN rfl rfl (by constructor) ?_
              refine sE ?_
              show AW _ (.cond _ _ _) _ _ _
              refine cC' rfl (fun h104 => ?_) (fun h104 => ?_)
              · have h104q := h104; try simp only [decide_eq_true_eq, decide_eq_false_iff_not, beq_iff_eq, beq_eq_false_iff_ne, bne_iff_ne, bne_eq_false_iff_eq, ne_eq, Decidable.not_not, Bool.not_eq_true, Bool.not_eq_false, gt_iff_lt, ge_iff_le, Int.not_lt, Int.not_le] at h104q
                show AWl _ _ _ _ _
                refine aN rfl rfl (by constructor) ?_
                refine aSt st 0 rfl rfl rfl rfl (by first | rfl | simp [cellsOf, *]) (by first | decide | simp [*]) (by repeat constructor) fun H105 st => ?_
                refine sE ?_
                show AWl _ _ _ _ _
                refine aMovV x rfl ?_
                refine aN rfl rfl (by constructor) ?_
                refine aIxB (st.slc hx) rfl rfl (by omega) fun b80 o80 g80 => ?_
                refine aLdG rfl g80 ?_
                refine aN rfl rfl (by constructor) ?_
                refine aN rfl rfl (by constructor) ?_
                refine aN rfl rfl (by constructor) ?_
                refine aSt st 0 rfl rfl rfl rfl (by first | rfl | simp [cellsOf, *]) (by first | decide | simp [*]) (by repeat constructor) fun H106 st => ?_
                refine sE ?_
                show AWl _ _ _ _ _
                refine aN rfl rfl (by constructor) ?_
                refine aSt st 0 rfl rfl rfl rfl (by first | rfl | simp [cellsOf, *]) (by first | decide | simp [*]) (by repeat constructor) fun H107 st => ?_
                refine sE ?_
                show AWl _ _ _ _ _
                refine aMovV x rfl ?_
                refine aN rfl rfl (by constructor) ?_
                refine aIxB (st.slc hx) rfl rfl (by omega) fun b88 o88 g88 => ?_
                refine aLdG rfl g88 ?_
                refine aN rfl rfl (by constructor) ?_
                refine aN rfl rfl (by constructor) ?_
                refine sE ?_
                show AW _ (.cond _ _ _) _ _ _
                refine cC' rfl (fun h108 => ?_) (fun h108 => ?_)
                · have h108q := h108; try simp only [decide_eq_true_eq, decide_eq_false_iff_not, beq_iff_eq, beq_eq_false_iff_ne, bne_iff_ne, bne_eq_false_iff_eq, ne_eq, Decidable.not_not, Bool.not_eq_true, Bool.not_eq_false, gt_iff_lt, ge_iff_le, Int.not_lt, Int.not_le] at h108q
                  show AWl _ _ _ _ _
                  refine aMovV x rfl ?_
                  refine aN rfl rfl (by constructor) ?_
                  refine aIxB (st.slc hx) rfl rfl (by omega) fun b94 o94 g94 => ?_
                  refine aLdG rfl g94 ?_
                  refine aN rfl rfl (by constructor) ?_
                  refine aN rfl rfl (by constructor) ?_
                  refine aN rfl rfl (by constructor) ?_
                  refine aSt st 0 rfl rfl rfl rfl (by first | rfl | simp [cellsOf, *]) (by first | decide | simp [*]) (by repeat constructor) fun H109 st => ?_
                  refine sE ?_
                  show AWl _ _ _ _ _
                  refine aMovV x rfl ?_
                  refine aN rfl rfl (by constructor) ?_
                  refine aN rfl rfl (by constructor) ?_
                  refine aC (rnum_call (st.slc hx) hb (by omega) (by first | omega | (rw [wi _ (by omega)]; omega))) fun v102 H110 ⟨hv, st1⟩ => ?_
                  subst hv
                  replace st := st.call st1 rfl
                  clear st1
                  refine aN rfl rfl (by constructor) ?_
                  refine aN rfl rfl (by constructor) ?_
                  refine aSt st 0 rfl rfl rfl rfl (by first | rfl | simp [cellsOf, *]) (by first | decide | simp [*]) (by repeat constructor) fun H111 st => ?_
                  refine sE ?_
                  have ha : ((xs.length : Int) - 4).toNat = (xs.length - 4) := by omega
                  have e : refS g xs (xs.length - 4) = { g with hf := true, ic := bits .and .u8 (xs.getD (xs.length - 4) 0) 64 != 0, bit := IntKind.i64.wrap ((xs.getD (xs.length - 4) 0).tmod 8), fld := IntKind.i64.wrap (rgetV xs (((xs.length - 4) : Nat) + 1 : Int) 2) } := by
                    have h0 := h108; rw [ha] at h0
                    unfold refS; rw [if_pos h0]
                  refine ⟨refS g xs (xs.length - 4), refS_wf gw, fun s h => ?_, ?_⟩
                  · exact refDesc h (hn s h) (gb s h) (by omega)
                  · have st2 := st.sel [0, 1] (by decide)
                    rw [ha] at st2
                    rw [e]
                    rw [wi ((xs.length : Int) - 4 + 1) (by omega), show (xs.length : Int) - 4 + 1 = (((xs.length - 4) : Nat) : Int) + 1 by omega] at st2
                    exact st2
                · have h108q := h108; try simp only [decide_eq_true_eq, decide_eq_false_iff_not, beq_iff_eq, beq_eq_false_iff_ne, bne_iff_ne, bne_eq_false_iff_eq, ne_eq, Decidable.not_not, Bool.not_eq_true, Bool.not_eq_false, gt_iff_lt, ge_iff_le, Int.not_lt, Int.not_le] at h108q
                  show AWl _ _ _ _ _
                  refine aMovV x rfl ?_
                  refine aN rfl rfl (by constructor) ?_
                  refine aN rfl rfl (by constructor) ?_
                  refine aC (rnum_call (st.slc hx) hb (by omega) (by first | omega | (rw [wi _ (by omega)]; omega))) fun v102 H112 ⟨hv, st1⟩ => ?_
                  subst hv
                  replace st := st.call st1 rfl
                  clear st1
                  refine aN rfl rfl (by constructor) ?_
                  refine aN rfl rfl (by constructor) ?_
                  refine aSt st 0 rfl rfl rfl rfl (by first | rfl | simp [cellsOf, *]) (by first | decide | simp [*]) (by repeat constructor) fun H113 st => ?_
                  refine sE ?_
                  have ha : ((xs.length : Int) - 4).toNat = (xs.length - 4) := by omega
                  have e : refS g xs (xs.length - 4) = { g with hf := true, ic := bits .and .u8 (xs.getD (xs.length - 4) 0) 64 != 0, bit := -1, fld := IntKind.i64.wrap (rgetV xs (((xs.length - 4) : Nat) + 1 : Int) 2) } := by
                    have h0 := h108; rw [ha] at h0
                    unfold refS; rw [if_neg (by rw [h0]; decide)]
                  refine ⟨refS g xs (xs.length - 4), refS_wf gw, fun s h => ?_, ?_⟩
                  · exact refDesc h (hn s h) (gb s h) (by omega)
                  · have st2 := st.sel [0, 1] (by decide)
                    rw [ha] at st2
                    rw [e]
                    rw [wi ((xs.length : Int) - 4 + 1) (by omega), show (xs.length : Int) - 4 + 1 = (((xs.length - 4) : Nat) : Int) + 1 by omega] at st2
                    exact st2
              · have h104q := h104; try simp only [decide_eq_true_eq, decide_eq_false_iff_not, beq_iff_eq, beq_eq_false_iff_ne, bne_iff_ne, bne_eq_false_iff_eq, ne_eq, Decidable.not_not, Bool.not_eq_true, Bool.not_eq_false, gt_iff_lt, ge_iff_le, Int.not_lt, Int.not_le] at h104q
                exact ⟨g, gw, fun s h => no_fld h (gb s h) g0 (Bool.eq_false_iff.2 fun hc => by have := (keyD h (hn s h) hc).2; have h0 := h104q; rw [show ((xs.length : Int) - 4).toNat = xs.length - 4 by omega] at h0; omega), st.sel [0, 1] (by decide)⟩
            · obtain ⟨g, gw, gb, st⟩ := hI
              obtain ⟨u, rfl⟩ : ∃ u, t1 = (mix [68, 69, 70, 71, 72, 73, 74, 75, 76, 77, 78, 79, 80, 81, 82, 83, 84, 85, 86, 87, 88, 89, 90, 91, 92, 93, 94, 95, 96, 97, 98, 99, 100, 101, 102, 103, 104] _ u) := ⟨t1, by rw [← hk]⟩
              clear hk
              show AWl _ _ _ _ _
              refine aLdAll st 0 rfl rfl (rfl) ?_
              refine aC (rdesc_call (s := g) gw) fun v107 H114 ⟨ob107, hv, st1⟩ => ?_
              subst hv
              replace st := st.call st1 rfl
              clear st1
              refine aN rfl rfl (by constructor) ?_
              refine aExtA rfl rfl ?_
              refine aN rfl rfl (by constructor) ?_
              refine aMovA rfl ?_
              refine aN rfl rfl (by constructor) ?_
              refine sE ?_
              show AWl _ _ _ _ _
              refine aMovV (.bool false) (congrArg Value.bool h3) ?_
              refine sE ?_
              show AW _ (.cond _ _ _) _ _ _
              refine cF' rfl ?_
              show AWl _ _ _ _ _
              refine aN rfl rfl (by constructor) ?_
              refine aN rfl rfl (by constructor) ?_
              refine aN rfl rfl (by constructor) ?_
              refine gCase 118 rfl (fun h115 => ?_) (fun h115 => ?_)
              · have h115q := h115; try simp only [decide_eq_true_eq, decide_eq_false_iff_not, beq_iff_eq, beq_eq_false_iff_ne, bne_iff_ne, bne_eq_false_iff_eq, ne_eq, Decidable.not_not, Bool.not_eq_true, Bool.not_eq_false, gt_iff_lt, ge_iff_le, Int.not_lt, Int.not_le] at h115q
                refine gF rfl (by decide) ?_
                refine gF rfl (by decide) ?_
                refine gF rfl (by decide) ?_
                refine gF rfl (by decide) ?_
                refine gF rfl (by decide) ?_
                refine aN rfl rfl (by constructor) ?_
                refine sE ?_
                show AW _ (.cond _ _ _) _ _ _
                refine cT rfl ?_
                show AWl _ _ _ _ _
                refine aBld rfl (by repeat constructor) ?_
                refine aSt st 2 rfl rfl rfl rfl (by first | rfl | simp [cellsOf, *]) (by first | decide | simp [*]) (by repeat constructor) fun H116 st => ?_
                refine aN rfl rfl (by constructor) ?_
                refine sE ?_
                refine ⟨_, out2 (r_cellA st 2 rfl rfl (by first | decide | simp [*]) (by repeat constructor)) (r_tmp rfl (by constructor)) ⟨rfl, rfl⟩, ?_⟩
                exact ⟨none, DecOk.no (fun s h => by have := enc_descR h (hn s h); rw [gb s h] at this; omega), rfl, st.drop⟩
              · have h115q := h115; try simp only [decide_eq_true_eq, decide_eq_false_iff_not, beq_iff_eq, beq_eq_false_iff_ne, bne_iff_ne, bne_eq_false_iff_eq, ne_eq, Decidable.not_not, Bool.not_eq_true, Bool.not_eq_false, gt_iff_lt, ge_iff_le, Int.not_lt, Int.not_le] at h115q
                refine gT rfl ?_
                refine aMovA rfl ?_
                refine gT rfl ?_
                refine aText (st.rowAcc 0 rfl (by decide) (by simp)) rfl ?_
                refine gT rfl ?_
                refine aMovV x rfl ?_
                refine gT rfl ?_
                refine aText (st.slc hx) rfl ?_
                refine gT rfl ?_
                refine aBinV (.bool (!decide (descR g = xs))) (u := .string (ofInts (descR g))) (u' := .string (ofInts xs)) rfl rfl (by show some (Value.bool (!((ofInts (descR g)).toList == (ofInts xs).toList))) = _; rw [texts_beq (descR_bytes gw) hb]) ?_
                refine aN rfl rfl (by constructor) ?_
                refine sE ?_
                show AW _ (.cond _ _ _) _ _ _
                refine cC' rfl (fun h117 => ?_) (fun h117 => ?_)
                · have h117q := h117; try simp only [decide_eq_true_eq, decide_eq_false_iff_not, beq_iff_eq, beq_eq_false_iff_ne, bne_iff_ne, bne_eq_false_iff_eq, ne_eq, Decidable.not_not, Bool.not_eq_true, Bool.not_eq_false, gt_iff_lt, ge_iff_le, Int.not_lt, Int.not_le] at h117q
                  have h117n : decide (descR g = xs) = false := by simpa using h117
                  show AWl _ _ _ _ _
                  refine aBld rfl (by repeat constructor) ?_
                  refine aSt st 2 rfl rfl rfl rfl (by first | rfl | simp [cellsOf, *]) (by first | decide | simp [*]) (by repeat constructor) fun H118 st => ?_
                  refine aN rfl rfl (by constructor) ?_
                  refine sE ?_
                  refine ⟨_, out2 (r_cellA st 2 rfl rfl (by first | decide | simp [*]) (by repeat constructor)) (r_tmp rfl (by constructor)) ⟨rfl, rfl⟩, ?_⟩
                  exact ⟨none, DecOk.no (fun s h => of_decide_eq_false h117n (by have := enc_descR h (hn s h); rw [gb s h] at this; exact this.2)), rfl, st.drop⟩
                · have h117q := h117; try simp only [decide_eq_true_eq, decide_eq_false_iff_not, beq_iff_eq, beq_eq_false_iff_ne, bne_iff_ne, bne_eq_false_iff_eq, ne_eq, Decidable.not_not, Bool.not_eq_true, Bool.not_eq_false, gt_iff_lt, ge_iff_le, Int.not_lt, Int.not_le] at h117q
                  have h117n : decide (descR g = xs) = true := by simpa using h117
                  show AWl _ _ _ _ _
                  refine aLdAll st 1 rfl rfl (rfl) ?_
                  refine aStAllA st 2 rfl rfl rfl (rfl) (rfl) fun H119 st => ?_
                  refine aN rfl rfl (by constructor) ?_
                  refine sE ?_
                  refine ⟨_, out2 (r_cellA st 2 rfl rfl (by first | decide | simp [*]) (by repeat constructor)) (r_tmp rfl (by constructor)) ⟨rfl, rfl⟩, ?_⟩
                  exact ⟨some g, DecOk.yes (desc_enc gw (by omega) (of_decide_eq_true h117n)) gb, rfl, st.drop⟩
    · have h28q := h28; try simp only [decide_eq_true_eq, decide_eq_false_iff_not, beq_iff_eq, beq_eq_false_iff_ne, bne_iff_ne, bne_eq_false_iff_eq, ne_eq, Decidable.not_not, Bool.not_eq_true, Bool.not_eq_false, gt_iff_lt, ge_iff_le, Int.not_lt, Int.not_le] at h28q
      have hno : ∀ s, ¬ Enc s xs := fun s h => by have := (basD h (hn s h)).2.2.2.1; omega
      show AWl _ _ _ _ _
      refine aBld rfl (by repeat constructor) ?_
      refine aSt st 1 rfl rfl rfl rfl (by first | rfl | simp [cellsOf, *]) (by first | decide | simp [*]) (by repeat constructor) fun H120 st => ?_
      refine aN rfl rfl (by constructor) ?_
      refine sE ?_
      refine ⟨_, out2 (r_cellA st 1 rfl rfl (by first | decide | simp [*]) (by repeat constructor)) (r_tmp rfl (by constructor)) ⟨rfl, rfl⟩, ?_⟩
      exact ⟨none, DecOk.no (hno), rfl, st.drop⟩
end Go.Proofs.Ytloigiieoehimaa.Abs
