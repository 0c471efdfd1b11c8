/- Sense: Decode. -/
import Derived.Test.YtloigiieoehimaaE10B
set_option linter.unusedVariables false
set_option linter.unusedSimpArgs false
set_option maxRecDepth 100000
namespace Go.Proofs.Ytloigiieoehimaa.Abs
open Go Go.RowKit
theorem zb : -9223372036854775808 ≤ (0 : Int) ∧ (0 : Int) < 9223372036854775808 := by decide
theorem z64 : (0 : Int) ≤ 0 ∧ (0 : Int) < 18446744073709551616 := by decide
theorem dec_call {H : Hp} {xs : List Int} {x : Value} (hx : Sl H 1 xs.length (xs.map (Value.int .u8)) x) (hb : ByteL xs) (hl : xs.length ≤ 140737488351232) :
    ACalls Try.prog 17 [x] H (fun v H' => ∃ o, DecOk xs o ∧ v = .tuple #[snV (snO o), .int .i64 (if o.isSome = true then 0 else 3)] ∧ Stt [] H H' []) := by
  refine acallsW Try.func17 f17_ok (Nat.le_of_ble_eq_true rfl) fun hw => ?_
  have st : Stt [] H H [] := Stt.start hw
  unfold f17c
  show AWl _ _ _ _ _
  refine aNewP st rfl rfl (by repeat constructor) fun b2 H1 st => ?_
  refine aN rfl rfl (by constructor) ?_
  refine sE ?_
  show AWl _ _ _ _ _
  refine aNewP st rfl rfl (by repeat constructor) fun b4 H2 st => ?_
  refine sE ?_
  show AWl _ _ _ _ _
  refine aN rfl rfl (by constructor) ?_
  refine sE ?_
  show AWl _ _ _ _ _
  refine aN rfl rfl (by constructor) ?_
  refine sE ?_
  show AWl _ _ _ _ _
  refine aMovV x rfl ?_
  refine aLen (st.slc hx) rfl ?_
  refine aN rfl rfl (by constructor) ?_
  refine aN rfl rfl (by constructor) ?_
  refine gCase 12 rfl (fun h3 => ?_) (fun h3 => ?_)
  · have h3q := h3; try simp only [decide_eq_true_eq, decide_eq_false_iff_not, beq_iff_eq, beq_eq_false_iff_ne, bne_iff_ne, bne_eq_false_iff_eq, ne_eq, Decidable.not_not, Bool.not_eq_true, Bool.not_eq_false, gt_iff_lt, ge_iff_le, Int.not_lt, Int.not_le] at h3q
    refine gT rfl ?_
    refine aMovV x rfl ?_
    refine gT rfl ?_
    refine aIxB (st.slc hx) rfl rfl (by omega) fun b14 o14 g14 => ?_
    refine gT rfl ?_
    refine aLdG rfl g14 ?_
    refine gT rfl ?_
    refine aN rfl rfl (by constructor) ?_
    refine gT rfl ?_
    refine aN rfl rfl (by constructor) ?_
    refine aN rfl rfl (by constructor) ?_
    refine aN rfl rfl (by constructor) ?_
    refine sE ?_
    show AW _ (.cond _ _ _) _ _ _
    refine cC' rfl (fun h4 => ?_) (fun h4 => ?_)
    · have h4q := h4; try simp only [decide_eq_true_eq, decide_eq_false_iff_not, beq_iff_eq, beq_eq_false_iff_ne, bne_iff_ne, bne_eq_false_iff_eq, ne_eq, Decidable.not_not, Bool.not_eq_true, Bool.not_eq_false, gt_iff_lt, ge_iff_le, Int.not_lt, Int.not_le] at h4q
      have hl18 : xs.length = 18 := by omega
      show AWp _ _ _ _ _
      refine aMovV x rfl ?_
      refine aIxB (st.slc hx) rfl rfl (by omega) fun b20 o20 g20 => ?_
      refine aLdG rfl g20 ?_
      refine aMovV x rfl ?_
      refine aIxB (st.slc hx) rfl rfl (by omega) fun b23 o23 g23 => ?_
      refine aLdG rfl g23 ?_
      refine aN rfl rfl (by constructor) ?_
      refine aN rfl rfl (by constructor) ?_
      refine aMovV x rfl ?_
      refine aIxB (st.slc hx) rfl rfl (by omega) fun b28 o28 g28 => ?_
      refine aLdG rfl g28 ?_
      refine aN rfl rfl (by constructor) ?_
      refine aBinV (.int .u16 (xs.getD 12 0 * 256 + xs.getD 13 0)) rfl rfl (congrArg (fun z => some (Value.int .u16 z)) (or_16 (hb.getD 12) (hb.getD 13))) ?_
      refine aN rfl rfl (by constructor) ?_
      refine ⟨?_, trivial⟩
      refine aSt st 0 rfl rfl rfl rfl (by first | rfl | simp [cellsOf, *]) (by first | decide | simp [*]) (by repeat constructor) fun H5 st => ?_
      refine ⟨trivial, ?_⟩
      refine aN rfl rfl (by constructor) ?_
      refine ⟨?_, trivial⟩
      refine aSt st 0 rfl rfl rfl rfl (by first | rfl | simp [cellsOf, *]) (by first | decide | simp [*]) (by repeat constructor) fun H6 st => ?_
      refine ⟨trivial, ?_⟩
      refine pE ?_
      refine AW_cutK (b := .seq (.seq (.list (⟨some 48, _, _⟩ :: _)) _) _) (fun t1 H1 => ∃ (g : Sn), (g.wf) ∧ (Zer g) ∧ (∀ s, Enc s xs → Bas s g) ∧ Stt [] H H1 [⟨some b4, true, ⟨true, 25, [.int .u8 g.key, .int .u16 g.code, .int .u64 g.info, .bool g.hi, .int .i64 g.fld, .int .i64 g.bit, .bool g.hf, .bool g.ic]⟩⟩, ⟨some b2, true, ⟨true, 25, [.int .u8 0, .int .u16 0, .int .u64 0, .bool false, .int .i64 0, .int .i64 0, .bool false, .bool false]⟩⟩]) [34, 35, 36, 37, 38, 39, 40, 41, 42, 43, 44, 45, 46, 47] (by decide) ?_ fun t1 H1 hk hI => ?_
      · show AWl _ _ _ _ _
        refine aMovV x rfl ?_
        refine aIxB (st.slc hx) rfl rfl (by omega) fun b35 o35 g35 => ?_
        refine aLdG rfl g35 ?_
        refine aN rfl rfl (by constructor) ?_
        refine aN rfl rfl (by constructor) ?_
        refine aN rfl rfl (by constructor) ?_
        refine aSt st 0 rfl rfl rfl rfl (by first | rfl | simp [cellsOf, *]) (by first | decide | simp [*]) (by repeat constructor) fun H7 st => ?_
        refine sE ?_
        show AWl _ _ _ _ _
        refine aN rfl rfl (by constructor) ?_
        refine aLd st 0 rfl rfl rfl (by constructor) ?_
        refine sE ?_
        show AW _ (.cond _ _ _) _ _ _
        refine cC' rfl (fun h8 => ?_) (fun h8 => ?_)
        · have h8q := h8; try simp only [decide_eq_true_eq, decide_eq_false_iff_not, beq_iff_eq, beq_eq_false_iff_ne, bne_iff_ne, bne_eq_false_iff_eq, ne_eq, Decidable.not_not, Bool.not_eq_true, Bool.not_eq_false, gt_iff_lt, ge_iff_le, Int.not_lt, Int.not_le] at h8q
          show AWl _ _ _ _ _
          refine aMovV x rfl ?_
          refine aC (get_call (st.slc hx) hb (by first | omega | (rw [List.length_drop]; omega)) (by decide)) fun v44 H9 ⟨hv, st1⟩ => ?_
          subst hv
          replace st := st.call st1 rfl
          clear st1
          refine aN rfl rfl (by constructor) ?_
          refine aN rfl rfl (by constructor) ?_
          refine aN rfl rfl (by constructor) ?_
          refine aN rfl rfl (by constructor) ?_
          refine aSt st 0 rfl rfl rfl rfl (by first | rfl | simp [cellsOf, *]) (by first | decide | simp [*]) (by repeat constructor) fun H10 st => ?_
          refine sE ?_
          refine ⟨⟨xs.getD 2 0, xs.getD 12 0 * 256 + xs.getD 13 0, rgetV xs 3 4, bits .and .u8 (xs.getD 0 0) 128 != 0, 0, 0, false, false⟩, ⟨?_, ?_, ?_, zb, zb⟩, ⟨rfl, rfl, rfl, rfl⟩, ?_, st.sel [0, 1] (by decide)⟩
          · have := hb.getD 2; show 0 ≤ xs.getD 2 0 ∧ xs.getD 2 0 < 256; omega
          · have := hb.getD 12; have := hb.getD 13; show 0 ≤ xs.getD 12 0 * 256 + xs.getD 13 0 ∧ xs.getD 12 0 * 256 + xs.getD 13 0 < 65536; omega
          · exact rgetV_bd hb 3 4
          · intro s h
            obtain ⟨p1, p2, p3, p4, p5⟩ := basF h hl18
            have ph := (enc_and h hl18).2.1
            have hh : (bits .and .u8 (xs.getD 0 0) 128 != 0) = true := h8
            exact ⟨p1, p2, p4 (by rw [← ph, hh]), ph.symm⟩
        · have h8q := h8; try simp only [decide_eq_true_eq, decide_eq_false_iff_not, beq_iff_eq, beq_eq_false_iff_ne, bne_iff_ne, bne_eq_false_iff_eq, ne_eq, Decidable.not_not, Bool.not_eq_true, Bool.not_eq_false, gt_iff_lt, ge_iff_le, Int.not_lt, Int.not_le] at h8q
          refine ⟨⟨xs.getD 2 0, xs.getD 12 0 * 256 + xs.getD 13 0, 0, bits .and .u8 (xs.getD 0 0) 128 != 0, 0, 0, false, false⟩, ⟨?_, ?_, ?_, zb, zb⟩, ⟨rfl, rfl, rfl, rfl⟩, ?_, st.sel [0, 1] (by decide)⟩
          · have := hb.getD 2; show 0 ≤ xs.getD 2 0 ∧ xs.getD 2 0 < 256; omega
          · have := hb.getD 12; have := hb.getD 13; show 0 ≤ xs.getD 12 0 * 256 + xs.getD 13 0 ∧ xs.getD 12 0 * 256 + xs.getD 13 0 < 65536; omega
          · exact z64
          · intro s h
            obtain ⟨p1, p2, p3, p4, p5⟩ := basF h hl18
            have ph := (enc_and h hl18).2.1
            have hh : (bits .and .u8 (xs.getD 0 0) 128 != 0) = false := h8
            exact ⟨p1, p2, p5 (by rw [← ph, hh]), ph.symm⟩
      · obtain ⟨g, gw, g0, gb, st⟩ := hI
        obtain ⟨u, rfl⟩ : ∃ u, t1 = (mix [34, 35, 36, 37, 38, 39, 40, 41, 42, 43, 44, 45, 46, 47] _ u) := ⟨t1, by rw [← hk]⟩
        clear hk
        refine AW_cutK (b := .list (⟨some 60, _, _⟩ :: _)) (fun t1 H1 => ∃ (g : Sn), (g.wf) ∧ (∀ s, Enc s xs → s = g) ∧ Stt [] H H1 [⟨some b4, true, ⟨true, 25, [.int .u8 g.key, .int .u16 g.code, .int .u64 g.info, .bool g.hi, .int .i64 g.fld, .int .i64 g.bit, .bool g.hf, .bool g.ic]⟩⟩, ⟨some b2, true, ⟨true, 25, [.int .u8 0, .int .u16 0, .int .u64 0, .bool false, .int .i64 0, .int .i64 0, .bool false, .bool false]⟩⟩]) [3, 48, 49, 50, 51, 52, 53, 54, 55, 56, 57, 58] (by decide) ?_ fun t1 H1 hk hI => ?_
        · show AWl _ _ _ _ _
          refine aMovV x rfl ?_
          refine aIxB (st.slc hx) rfl rfl (by omega) fun b49 o49 g49 => ?_
          refine aLdG rfl g49 ?_
          refine aN rfl rfl (by constructor) ?_
          refine aN rfl rfl (by constructor) ?_
          refine gCase 52 rfl (fun h11 => ?_) (fun h11 => ?_)
          · have h11q := h11; try simp only [decide_eq_true_eq, decide_eq_false_iff_not, beq_iff_eq, beq_eq_false_iff_ne, bne_iff_ne, bne_eq_false_iff_eq, ne_eq, Decidable.not_not, Bool.not_eq_true, Bool.not_eq_false, gt_iff_lt, ge_iff_le, Int.not_lt, Int.not_le] at h11q
            refine gT rfl ?_
            refine aMovV x rfl ?_
            refine gT rfl ?_
            refine aCutL (st.slc hx) rfl rfl (by omega) fun v54 s54 => ?_
            replace s54 := s54 _ hx
            refine gT rfl ?_
            refine aC (unkey_call (g := g) (st.get (j := 0) rfl) (st.slc s54) (hb.drop 15) (st.apart (j := 0) rfl s54) (by omega)) fun v55 H12 ⟨hv, st1⟩ => ?_
            subst hv
            replace st := st.callX 0 rfl st1 rfl
            clear st1
            refine gT rfl ?_
            refine aN rfl rfl (by constructor) ?_
            refine aN rfl rfl (by constructor) ?_
            refine sE ?_
            show AW _ (.cond _ _ _) _ _ _
            refine cC' rfl (fun h13 => ?_) (fun h13 => ?_)
            · have h13q := h13; try simp only [decide_eq_true_eq, decide_eq_false_iff_not, beq_iff_eq, beq_eq_false_iff_ne, bne_iff_ne, bne_eq_false_iff_eq, ne_eq, Decidable.not_not, Bool.not_eq_true, Bool.not_eq_false, gt_iff_lt, ge_iff_le, Int.not_lt, Int.not_le] at h13q
              have h13n : unk ((xs.drop 15).getD 0 0) = false := by simpa using h13
              show AWl _ _ _ _ _
              refine aBld rfl (by repeat constructor) ?_
              refine aSt st 1 rfl rfl rfl rfl (by first | rfl | simp [cellsOf, *]) (by first | decide | simp [*]) (by repeat constructor) fun H14 st => ?_
              refine aN rfl rfl (by constructor) ?_
              refine sE ?_
              refine ⟨_, out2 (r_cellA st 1 rfl rfl (by first | decide | simp [*]) (by repeat constructor)) (r_tmp rfl (by constructor)) ⟨rfl, rfl⟩, ?_⟩
              exact ⟨none, DecOk.no (fun s h => by have := (fixB h hl18 (gb s h) g0 h11q).1; rw [h13n] at this; cases this), rfl, st.drop⟩
            · have h13q := h13; try simp only [decide_eq_true_eq, decide_eq_false_iff_not, beq_iff_eq, beq_eq_false_iff_ne, bne_iff_ne, bne_eq_false_iff_eq, ne_eq, Decidable.not_not, Bool.not_eq_true, Bool.not_eq_false, gt_iff_lt, ge_iff_le, Int.not_lt, Int.not_le] at h13q
              have h13n : unk ((xs.drop 15).getD 0 0) = true := by simpa using h13
              have e : unkR g (xs.drop 15) = unkS g (xs.drop 15) := by unfold unkR; rw [if_pos h13n]
              exact ⟨unkR g (xs.drop 15), by rw [e]; exact unkS_wf gw (hb.drop 15), fun s h => by rw [e]; exact (fixB h hl18 (gb s h) g0 h11q).2, st.sel [0, 1] (by decide)⟩
          · have h11q := h11; try simp only [decide_eq_true_eq, decide_eq_false_iff_not, beq_iff_eq, beq_eq_false_iff_ne, bne_iff_ne, bne_eq_false_iff_eq, ne_eq, Decidable.not_not, Bool.not_eq_true, Bool.not_eq_false, gt_iff_lt, ge_iff_le, Int.not_lt, Int.not_le] at h11q
            refine gF rfl (by decide) ?_
            refine gF rfl (by decide) ?_
            refine gF rfl (by decide) ?_
            refine gF rfl (by decide) ?_
            refine aN rfl rfl (by constructor) ?_
            refine sE ?_
            show AW _ (.cond _ _ _) _ _ _
            refine cF' rfl ?_
            exact ⟨g, gw, fun s h => fixA h hl18 (gb s h) g0 h11q, st.sel [0, 1] (by decide)⟩
        · obtain ⟨g, gw, gb, st⟩ := hI
          obtain ⟨u, rfl⟩ : ∃ u, t1 = (mix [3, 48, 49, 50, 51, 52, 53, 54, 55, 56, 57, 58] _ u) := ⟨t1, by rw [← hk]⟩
          clear hk
          show AWl _ _ _ _ _
          refine aLdAll st 0 rfl rfl (rfl) ?_
          refine aC (fixed_call (s := g) gw) fun v61 H15 ⟨ob61, hv, st1⟩ => ?_
          subst hv
          replace st := st.call st1 rfl
          clear st1
          refine aN rfl rfl (by constructor) ?_
          refine aExtA rfl rfl ?_
          refine aN rfl rfl (by constructor) ?_
          refine aMovA rfl ?_
          refine aN rfl rfl (by constructor) ?_
          refine sE ?_
          show AWl _ _ _ _ _
          refine aN rfl rfl (by constructor) ?_
          refine aN rfl rfl (by constructor) ?_
          refine aN rfl rfl (by constructor) ?_
          refine gCase 126 rfl (fun h16 => ?_) (fun h16 => ?_)
          · have h16q := h16; try simp only [decide_eq_true_eq, decide_eq_false_iff_not, beq_iff_eq, beq_eq_false_iff_ne, bne_iff_ne, bne_eq_false_iff_eq, ne_eq, Decidable.not_not, Bool.not_eq_true, Bool.not_eq_false, gt_iff_lt, ge_iff_le, Int.not_lt, Int.not_le] at h16q
            refine gF rfl (by decide) ?_
            refine gF rfl (by decide) ?_
            refine gF rfl (by decide) ?_
            refine gF rfl (by decide) ?_
            refine gF rfl (by decide) ?_
            refine aN rfl rfl (by constructor) ?_
            refine sE ?_
            show AW _ (.cond _ _ _) _ _ _
            refine cT rfl ?_
            show AWl _ _ _ _ _
            refine aBld rfl (by repeat constructor) ?_
            refine aSt st 2 rfl rfl rfl rfl (by first | rfl | simp [cellsOf, *]) (by first | decide | simp [*]) (by repeat constructor) fun H17 st => ?_
            refine aN rfl rfl (by constructor) ?_
            refine sE ?_
            refine ⟨_, out2 (r_cellA st 2 rfl rfl (by first | decide | simp [*]) (by repeat constructor)) (r_tmp rfl (by constructor)) ⟨rfl, rfl⟩, ?_⟩
            exact ⟨none, DecOk.no (fun s h => by have := enc_fixR h hl18; rw [gb s h] at this; omega), rfl, st.drop⟩
          · have h16q := h16; try simp only [decide_eq_true_eq, decide_eq_false_iff_not, beq_iff_eq, beq_eq_false_iff_ne, bne_iff_ne, bne_eq_false_iff_eq, ne_eq, Decidable.not_not, Bool.not_eq_true, Bool.not_eq_false, gt_iff_lt, ge_iff_le, Int.not_lt, Int.not_le] at h16q
            refine gT rfl ?_
            refine aMovA rfl ?_
            refine gT rfl ?_
            refine aText (st.rowAcc 0 rfl (by decide) (by simp)) rfl ?_
            refine gT rfl ?_
            refine aMovV x rfl ?_
            refine gT rfl ?_
            refine aText (st.slc hx) rfl ?_
            refine gT rfl ?_
            refine aBinV (.bool (!decide (fixR g = xs))) (u := .string (ofInts (fixR g))) (u' := .string (ofInts xs)) rfl rfl (by show some (Value.bool (!((ofInts (fixR g)).toList == (ofInts xs).toList))) = _; rw [texts_beq (fixR_bytes gw) hb]) ?_
            refine aN rfl rfl (by constructor) ?_
            refine sE ?_
            show AW _ (.cond _ _ _) _ _ _
            refine cC' rfl (fun h18 => ?_) (fun h18 => ?_)
            · have h18q := h18; try simp only [decide_eq_true_eq, decide_eq_false_iff_not, beq_iff_eq, beq_eq_false_iff_ne, bne_iff_ne, bne_eq_false_iff_eq, ne_eq, Decidable.not_not, Bool.not_eq_true, Bool.not_eq_false, gt_iff_lt, ge_iff_le, Int.not_lt, Int.not_le] at h18q
              have h18n : decide (fixR g = xs) = false := by simpa using h18
              show AWl _ _ _ _ _
              refine aBld rfl (by repeat constructor) ?_
              refine aSt st 2 rfl rfl rfl rfl (by first | rfl | simp [cellsOf, *]) (by first | decide | simp [*]) (by repeat constructor) fun H19 st => ?_
              refine aN rfl rfl (by constructor) ?_
              refine sE ?_
              refine ⟨_, out2 (r_cellA st 2 rfl rfl (by first | decide | simp [*]) (by repeat constructor)) (r_tmp rfl (by constructor)) ⟨rfl, rfl⟩, ?_⟩
              exact ⟨none, DecOk.no (fun s h => of_decide_eq_false h18n (by have := enc_fixR h hl18; rw [gb s h] at this; exact this.2)), rfl, st.drop⟩
            · have h18q := h18; try simp only [decide_eq_true_eq, decide_eq_false_iff_not, beq_iff_eq, beq_eq_false_iff_ne, bne_iff_ne, bne_eq_false_iff_eq, ne_eq, Decidable.not_not, Bool.not_eq_true, Bool.not_eq_false, gt_iff_lt, ge_iff_le, Int.not_lt, Int.not_le] at h18q
              have h18n : decide (fixR g = xs) = true := by simpa using h18
              show AWl _ _ _ _ _
              refine aLdAll st 1 rfl rfl (rfl) ?_
              refine aStAllA st 2 rfl rfl rfl (rfl) (rfl) fun H20 st => ?_
              refine aN rfl rfl (by constructor) ?_
              refine sE ?_
              refine ⟨_, out2 (r_cellA st 2 rfl rfl (by first | decide | simp [*]) (by repeat constructor)) (r_tmp rfl (by constructor)) ⟨rfl, rfl⟩, ?_⟩
              exact ⟨some g, DecOk.yes (fix_enc gw (by omega) (of_decide_eq_true h18n)) gb, rfl, st.drop⟩
    · have h4q := h4; try simp only [decide_eq_true_eq, decide_eq_false_iff_not, beq_iff_eq, beq_eq_false_iff_ne, bne_iff_ne, bne_eq_false_iff_eq, ne_eq, Decidable.not_not, Bool.not_eq_true, Bool.not_eq_false, gt_iff_lt, ge_iff_le, Int.not_lt, Int.not_le] at h4q
      have hn : ∀ s, Enc s xs → xs.length ≠ 18 := fun s h hl => h4q (enc_and h hl).1
      show AWl _ _ _ _ _
      refine aMovV x rfl ?_
      refine aLen (st.slc hx) rfl ?_
      refine aN rfl rfl (by constructor) ?_
      refine aN rfl rfl (by constructor) ?_
      refine gCase 68 rfl (fun h21 => ?_) (fun h21 => ?_)
      · have h21q := h21; try simp only [decide_eq_true_eq, decide_eq_false_iff_not, beq_iff_eq, beq_eq_false_iff_ne, bne_iff_ne, bne_eq_false_iff_eq, ne_eq, Decidable.not_not, Bool.not_eq_true, Bool.not_eq_false, gt_iff_lt, ge_iff_le, Int.not_lt, Int.not_le] at h21q
        refine gT rfl ?_
        refine aMovV x rfl ?_
        refine gT rfl ?_
        refine aIxB (st.slc hx) rfl rfl (by omega) fun b70 o70 g70 => ?_
        refine gT rfl ?_
        refine aLdG rfl g70 ?_
        refine gT rfl ?_
        refine aN rfl rfl (by constructor) ?_
        refine aN rfl rfl (by constructor) ?_
        refine aN rfl rfl (by constructor) ?_
        refine sE ?_
        show AW _ (.cond _ _ _) _ _ _
        refine cC' rfl (fun h22 => ?_) (fun h22 => ?_)
        · have h22q := h22; try simp only [decide_eq_true_eq, decide_eq_false_iff_not, beq_iff_eq, beq_eq_false_iff_ne, bne_iff_ne, bne_eq_false_iff_eq, ne_eq, Decidable.not_not, Bool.not_eq_true, Bool.not_eq_false, gt_iff_lt, ge_iff_le, Int.not_lt, Int.not_le] at h22q
          show AWp _ _ _ _ _
          refine aMovV x rfl ?_
          refine aIxB (st.slc hx) rfl rfl (by omega) fun b75 o75 g75 => ?_
          refine aLdG rfl g75 ?_
          refine aMovV x rfl ?_
          refine aIxB (st.slc hx) rfl rfl (by omega) fun b78 o78 g78 => ?_
          refine aLdG rfl g78 ?_
          refine aN rfl rfl (by constructor) ?_
          refine aN rfl rfl (by constructor) ?_
          refine aMovV x rfl ?_
          refine aIxB (st.slc hx) rfl rfl (by omega) fun b83 o83 g83 => ?_
          refine aLdG rfl g83 ?_
          refine aN rfl rfl (by constructor) ?_
          refine aBinV (.int .u16 (xs.getD 2 0 * 256 + xs.getD 3 0)) rfl rfl (congrArg (fun z => some (Value.int .u16 z)) (or_16 (hb.getD 2) (hb.getD 3))) ?_
          refine aN rfl rfl (by constructor) ?_
          refine ⟨?_, trivial⟩
          refine aSt st 0 rfl rfl rfl rfl (by first | rfl | simp [cellsOf, *]) (by first | decide | simp [*]) (by repeat constructor) fun H23 st => ?_
          refine ⟨trivial, ?_⟩
          refine aN rfl rfl (by constructor) ?_
          refine ⟨?_, trivial⟩
          refine aSt st 0 rfl rfl rfl rfl (by first | rfl | simp [cellsOf, *]) (by first | decide | simp [*]) (by repeat constructor) fun H24 st => ?_
          refine ⟨trivial, ?_⟩
          refine pE ?_
          show AWl _ _ _ _ _
          refine aMovV x rfl ?_
          refine aCutL (st.slc hx) rfl rfl (by omega) fun v90 s90 => ?_
          replace s90 := s90 _ hx
          replace s90 : Sl H 1 (xs.drop 8).length ((xs.drop 8).map (Value.int .u8)) v90 := by rw [List.length_drop]; exact s90
          have l8 : (xs.drop 8).length = xs.length - 8 := List.length_drop
          refine aMovV v90 rfl ?_
          refine sE ?_
          refine AW_cutK (b := .seq (.seq (.list (⟨some 109, _, _⟩ :: _)) _) _) (fun t1 H1 => ∃ (g : Sn) (r : List Int) (v7 : Value), (g.wf) ∧ (Zer g) ∧ (∀ s, Enc s xs → Bas s g) ∧ (Sl H 1 r.length (r.map (Value.int .u8)) v7) ∧ (∀ s, Enc s xs → r = fldD s) ∧ (ByteL r ∧ r.length ≤ 140737488351232) ∧ t1 7 = v7 ∧ Stt [] H H1 [⟨some b4, true, ⟨true, 25, [.int .u8 g.key, .int .u16 g.code, .int .u64 g.info, .bool g.hi, .int .i64 g.fld, .int .i64 g.bit, .bool g.hf, .bool g.ic]⟩⟩, ⟨some b2, true, ⟨true, 25, [.int .u8 0, .int .u16 0, .int .u64 0, .bool false, .int .i64 0, .int .i64 0, .bool false, .bool false]⟩⟩]) [7, 91, 92, 93, 94, 95, 96, 97, 98, 99, 100, 101, 102, 103, 104, 105, 106, 107, 108] (by decide) ?_ fun t1 H1 hk hI => ?_
          · show AWl _ _ _ _ _
            refine aMovV v90 rfl ?_
            refine aLen (st.slc s90) rfl ?_
            refine aN rfl rfl (by constructor) ?_
            refine aN rfl rfl (by constructor) ?_
            refine gCase 94 rfl (fun h25 => ?_) (fun h25 => ?_)
            · have h25q := h25; try simp only [decide_eq_true_eq, decide_eq_false_iff_not, beq_iff_eq, beq_eq_false_iff_ne, bne_iff_ne, bne_eq_false_iff_eq, ne_eq, Decidable.not_not, Bool.not_eq_true, Bool.not_eq_false, gt_iff_lt, ge_iff_le, Int.not_lt, Int.not_le] at h25q
              refine gT rfl ?_
              refine aMovV v90 rfl ?_
              refine gT rfl ?_
              refine aIxB (st.slc s90) rfl rfl (by omega) fun b96 o96 g96 => ?_
              refine gT rfl ?_
              refine aLdG rfl g96 ?_
              refine gT rfl ?_
              refine aN rfl rfl (by constructor) ?_
              refine aN rfl rfl (by constructor) ?_
              refine sE ?_
              show AW _ (.cond _ _ _) _ _ _
              refine cC' rfl (fun h26 => ?_) (fun h26 => ?_)
              · have h26q := h26; try simp only [decide_eq_true_eq, decide_eq_false_iff_not, beq_iff_eq, beq_eq_false_iff_ne, bne_iff_ne, bne_eq_false_iff_eq, ne_eq, Decidable.not_not, Bool.not_eq_true, Bool.not_eq_false, gt_iff_lt, ge_iff_le, Int.not_lt, Int.not_le] at h26q
                show AWl _ _ _ _ _
                refine aN rfl rfl (by constructor) ?_
                refine aSt st 0 rfl rfl rfl rfl (by first | rfl | simp [cellsOf, *]) (by first | decide | simp [*]) (by repeat constructor) fun H27 st => ?_
                refine sE ?_
                show AWl _ _ _ _ _
                refine aMovV v90 rfl ?_
                refine aC (get_call (st.slc s90) (hb.drop 8) (by first | omega | (rw [List.length_drop]; omega)) (by decide)) fun v103 H28 ⟨hv, st1⟩ => ?_
                subst hv
                replace st := st.call st1 rfl
                clear st1
                refine aN rfl rfl (by constructor) ?_
                refine aN rfl rfl (by constructor) ?_
                refine aN rfl rfl (by constructor) ?_
                refine aN rfl rfl (by constructor) ?_
                refine aSt st 0 rfl rfl rfl rfl (by first | rfl | simp [cellsOf, *]) (by first | decide | simp [*]) (by repeat constructor) fun H29 st => ?_
                refine sE ?_
                show AWl _ _ _ _ _
                refine aMovV v90 rfl ?_
                refine aCutL (st.slc s90) rfl rfl (by omega) fun v108 s108 => ?_
                replace s108 := s108 _ s90
                refine aMovV v108 rfl ?_
                refine sE ?_
                refine ⟨⟨xs.getD 1 0, xs.getD 2 0 * 256 + xs.getD 3 0, rgetV (xs.drop 8) 4 8, true, 0, 0, false, false⟩, (xs.drop 8).drop 12, v108, ⟨?_, ?_, ?_, zb, zb⟩, ⟨rfl, rfl, rfl, rfl⟩, ?_, ?_, ?_, ?_, rfl, st.sel [0, 1] (by decide)⟩
                · have := hb.getD 1; show 0 ≤ xs.getD 1 0 ∧ xs.getD 1 0 < 256; omega
                · have := hb.getD 2; have := hb.getD 3; show 0 ≤ xs.getD 2 0 * 256 + xs.getD 3 0 ∧ xs.getD 2 0 * 256 + xs.getD 3 0 < 65536; omega
                · exact rgetV_bd (hb.drop 8) 4 8
                · intro s h
                  obtain ⟨p1, p2, _⟩ := basD h (hn s h)
                  obtain ⟨r1, r2, r3⟩ := descHi h (hn s h) (by omega) h26q
                  exact ⟨p1, p2, r2, r1⟩
                · rw [List.length_drop]; exact s108
                · intro s h
                  exact (descHi h (hn s h) (by omega) h26q).2.2
                · exact ⟨(hb.drop 8).drop 12, by simp only [List.length_drop]; omega⟩
              · have h26q := h26; try simp only [decide_eq_true_eq, decide_eq_false_iff_not, beq_iff_eq, beq_eq_false_iff_ne, bne_iff_ne, bne_eq_false_iff_eq, ne_eq, Decidable.not_not, Bool.not_eq_true, Bool.not_eq_false, gt_iff_lt, ge_iff_le, Int.not_lt, Int.not_le] at h26q
                refine ⟨⟨xs.getD 1 0, xs.getD 2 0 * 256 + xs.getD 3 0, 0, false, 0, 0, false, false⟩, xs.drop 8, v90, ⟨?_, ?_, ?_, zb, zb⟩, ⟨rfl, rfl, rfl, rfl⟩, ?_, ?_, ?_, ?_, rfl, st.sel [0, 1] (by decide)⟩
                · have := hb.getD 1; show 0 ≤ xs.getD 1 0 ∧ xs.getD 1 0 < 256; omega
                · have := hb.getD 2; have := hb.getD 3; show 0 ≤ xs.getD 2 0 * 256 + xs.getD 3 0 ∧ xs.getD 2 0 * 256 + xs.getD 3 0 < 65536; omega
                · exact z64
                · intro s h
                  obtain ⟨p1, p2, _⟩ := basD h (hn s h)
                  obtain ⟨r1, r2, r3⟩ := descLo h (hn s h) (fun hc => absurd hc.2 h26q)
                  exact ⟨p1, p2, r2, r1⟩
                · exact s90
                · intro s h
                  exact (descLo h (hn s h) (fun hc => absurd hc.2 h26q)).2.2
                · exact ⟨hb.drop 8, by simp only [List.length_drop]; omega⟩
            · have h25q := h25; try simp only [decide_eq_true_eq, decide_eq_false_iff_not, beq_iff_eq, beq_eq_false_iff_ne, bne_iff_ne, bne_eq_false_iff_eq, ne_eq, Decidable.not_not, Bool.not_eq_true, Bool.not_eq_false, gt_iff_lt, ge_iff_le, Int.not_lt, Int.not_le] at h25q
              refine gF rfl (by decide) ?_
              refine gF rfl (by decide) ?_
              refine gF rfl (by decide) ?_
              refine gF rfl (by decide) ?_
              refine aN rfl rfl (by constructor) ?_
              refine sE ?_
              show AW _ (.cond _ _ _) _ _ _
              refine cF' rfl ?_
              refine ⟨⟨xs.getD 1 0, xs.getD 2 0 * 256 + xs.getD 3 0, 0, false, 0, 0, false, false⟩, xs.drop 8, v90, ⟨?_, ?_, ?_, zb, zb⟩, ⟨rfl, rfl, rfl, rfl⟩, ?_, ?_, ?_, ?_, rfl, st.sel [0, 1] (by decide)⟩
              · have := hb.getD 1; show 0 ≤ xs.getD 1 0 ∧ xs.getD 1 0 < 256; omega
              · have := hb.getD 2; have := hb.getD 3; show 0 ≤ xs.getD 2 0 * 256 + xs.getD 3 0 ∧ xs.getD 2 0 * 256 + xs.getD 3 0 < 65536; omega
              · exact z64
              · intro s h
                obtain ⟨p1, p2, _⟩ := basD h (hn s h)
                obtain ⟨r1, r2, r3⟩ := descLo h (hn s h) (fun hc => by omega)
                exact ⟨p1, p2, r2, r1⟩
              · exact s90
              · intro s h
                exact (descLo h (hn s h) (fun hc => by omega)).2.2
              · exact ⟨hb.drop 8, by simp only [List.length_drop]; omega⟩
          · obtain ⟨g, r, v7, gw, g0, gb, hr, rb, rl, ht7, st⟩ := hI
            obtain ⟨u, rfl⟩ : ∃ u, t1 = (upd (mix [7, 91, 92, 93, 94, 95, 96, 97, 98, 99, 100, 101, 102, 103, 104, 105, 106, 107, 108] _ u) (some 7) _) := ⟨t1, by rw [← hk, upd_self ht7]⟩
            clear hk ht7
            refine AW_cutK (b := .list (⟨some 120, _, _⟩ :: _)) (fun t1 H1 => ∃ (g : Sn), (g.wf) ∧ (∀ s, Enc s xs → s = g) ∧ Stt [] H H1 [⟨some b4, true, ⟨true, 25, [.int .u8 g.key, .int .u16 g.code, .int .u64 g.info, .bool g.hi, .int .i64 g.fld, .int .i64 g.bit, .bool g.hf, .bool g.ic]⟩⟩, ⟨some b2, true, ⟨true, 25, [.int .u8 0, .int .u16 0, .int .u64 0, .bool false, .int .i64 0, .int .i64 0, .bool false, .bool false]⟩⟩]) [3, 109, 110, 111, 112, 113, 114, 115, 116, 117, 118] (by decide) ?_ fun t1 H1 hk hI => ?_
            · show AWl _ _ _ _ _
              refine aMovV v7 rfl ?_
              refine aLen (st.slc hr) rfl ?_
              refine aN rfl rfl (by constructor) ?_
              refine aN rfl rfl (by constructor) ?_
              refine gCase 112 rfl (fun h30 => ?_) (fun h30 => ?_)
              · have h30q := h30; try simp only [decide_eq_true_eq, decide_eq_false_iff_not, beq_iff_eq, beq_eq_false_iff_ne, bne_iff_ne, bne_eq_false_iff_eq, ne_eq, Decidable.not_not, Bool.not_eq_true, Bool.not_eq_false, gt_iff_lt, ge_iff_le, Int.not_lt, Int.not_le] at h30q
                refine gT rfl ?_
                refine aMovV v7 rfl ?_
                refine gT rfl ?_
                refine aCutL (st.slc hr) rfl rfl (by omega) fun v114 s114 => ?_
                replace s114 := s114 _ hr
                refine gT rfl ?_
                refine aC (unkey_call (g := g) (st.get (j := 0) rfl) (st.slc s114) (rl.1.drop 4) (st.apart (j := 0) rfl s114) (by omega)) fun v115 H31 ⟨hv, st1⟩ => ?_
                subst hv
                replace st := st.callX 0 rfl st1 rfl
                clear st1
                refine gT rfl ?_
                refine aN rfl rfl (by constructor) ?_
                refine aN rfl rfl (by constructor) ?_
                refine sE ?_
                show AW _ (.cond _ _ _) _ _ _
                refine cC' rfl (fun h32 => ?_) (fun h32 => ?_)
                · have h32q := h32; try simp only [decide_eq_true_eq, decide_eq_false_iff_not, beq_iff_eq, beq_eq_false_iff_ne, bne_iff_ne, bne_eq_false_iff_eq, ne_eq, Decidable.not_not, Bool.not_eq_true, Bool.not_eq_false, gt_iff_lt, ge_iff_le, Int.not_lt, Int.not_le] at h32q
                  have h32n : unk ((r.drop 4).getD 0 0) = false := by simpa using h32
                  show AWl _ _ _ _ _
                  refine aBld rfl (by repeat constructor) ?_
                  refine aSt st 1 rfl rfl rfl rfl (by first | rfl | simp [cellsOf, *]) (by first | decide | simp [*]) (by repeat constructor) fun H33 st => ?_
                  refine aN rfl rfl (by constructor) ?_
                  refine sE ?_
                  refine ⟨_, out2 (r_cellA st 1 rfl rfl (by first | decide | simp [*]) (by repeat constructor)) (r_tmp rfl (by constructor)) ⟨rfl, rfl⟩, ?_⟩
                  exact ⟨none, DecOk.no (fun s h => by have := (descU h (rb s h) (gb s h) g0 (by omega)).1; rw [h32n] at this; cases this), rfl, st.drop⟩
                · have h32q := h32; try simp only [decide_eq_true_eq, decide_eq_false_iff_not, beq_iff_eq, beq_eq_false_iff_ne, bne_iff_ne, bne_eq_false_iff_eq, ne_eq, Decidable.not_not, Bool.not_eq_true, Bool.not_eq_false, gt_iff_lt, ge_iff_le, Int.not_lt, Int.not_le] at h32q
                  have h32n : unk ((r.drop 4).getD 0 0) = true := by simpa using h32
                  have e : unkR g (r.drop 4) = unkS g (r.drop 4) := by unfold unkR; rw [if_pos h32n]
                  exact ⟨unkR g (r.drop 4), by rw [e]; exact unkS_wf gw (rl.1.drop 4), fun s h => by rw [e]; exact (descU h (rb s h) (gb s h) g0 (by omega)).2, st.sel [0, 1] (by decide)⟩
              · have h30q := h30; try simp only [decide_eq_true_eq, decide_eq_false_iff_not, beq_iff_eq, beq_eq_false_iff_ne, bne_iff_ne, bne_eq_false_iff_eq, ne_eq, Decidable.not_not, Bool.not_eq_true, Bool.not_eq_false, gt_iff_lt, ge_iff_le, Int.not_lt, Int.not_le] at h30q
                refine gF rfl (by decide) ?_
                refine gF rfl (by decide) ?_
                refine gF rfl (by decide) ?_
                refine gF rfl (by decide) ?_
                refine aN rfl rfl (by constructor) ?_
                refine sE ?_
                show AW _ (.cond _ _ _) _ _ _
                refine cF' rfl ?_
                exact ⟨g, gw, fun s h => descA h (rb s h) (gb s h) g0 (by omega), st.sel [0, 1] (by decide)⟩
            · obtain ⟨g, gw, gb, st⟩ := hI
              obtain ⟨u, rfl⟩ : ∃ u, t1 = (mix [3, 109, 110, 111, 112, 113, 114, 115, 116, 117, 118] _ u) := ⟨t1, by rw [← hk]⟩
              clear hk
              show AWl _ _ _ _ _
              refine aLdAll st 0 rfl rfl (rfl) ?_
              refine aC (desc_call (s := g) gw) fun v121 H34 ⟨ob121, hv, st1⟩ => ?_
              subst hv
              replace st := st.call st1 rfl
              clear st1
              refine aN rfl rfl (by constructor) ?_
              refine aExtA rfl rfl ?_
              refine aN rfl rfl (by constructor) ?_
              refine aMovA rfl ?_
              refine aN rfl rfl (by constructor) ?_
              refine sE ?_
              show AWl _ _ _ _ _
              refine aN rfl rfl (by constructor) ?_
              refine aN rfl rfl (by constructor) ?_
              refine aN rfl rfl (by constructor) ?_
              refine gCase 126 rfl (fun h35 => ?_) (fun h35 => ?_)
              · have h35q := h35; try simp only [decide_eq_true_eq, decide_eq_false_iff_not, beq_iff_eq, beq_eq_false_iff_ne, bne_iff_ne, bne_eq_false_iff_eq, ne_eq, Decidable.not_not, Bool.not_eq_true, Bool.not_eq_false, gt_iff_lt, ge_iff_le, Int.not_lt, Int.not_le] at h35q
                refine gF rfl (by decide) ?_
                refine gF rfl (by decide) ?_
                refine gF rfl (by decide) ?_
                refine gF rfl (by decide) ?_
                refine gF rfl (by decide) ?_
                refine aN rfl rfl (by constructor) ?_
                refine sE ?_
                show AW _ (.cond _ _ _) _ _ _
                refine cT rfl ?_
                show AWl _ _ _ _ _
                refine aBld rfl (by repeat constructor) ?_
                refine aSt st 2 rfl rfl rfl rfl (by first | rfl | simp [cellsOf, *]) (by first | decide | simp [*]) (by repeat constructor) fun H36 st => ?_
                refine aN rfl rfl (by constructor) ?_
                refine sE ?_
                refine ⟨_, out2 (r_cellA st 2 rfl rfl (by first | decide | simp [*]) (by repeat constructor)) (r_tmp rfl (by constructor)) ⟨rfl, rfl⟩, ?_⟩
                exact ⟨none, DecOk.no (fun s h => by have := enc_descR h (hn s h); rw [gb s h] at this; omega), rfl, st.drop⟩
              · have h35q := h35; try simp only [decide_eq_true_eq, decide_eq_false_iff_not, beq_iff_eq, beq_eq_false_iff_ne, bne_iff_ne, bne_eq_false_iff_eq, ne_eq, Decidable.not_not, Bool.not_eq_true, Bool.not_eq_false, gt_iff_lt, ge_iff_le, Int.not_lt, Int.not_le] at h35q
                refine gT rfl ?_
                refine aMovA rfl ?_
                refine gT rfl ?_
                refine aText (st.rowAcc 0 rfl (by decide) (by simp)) rfl ?_
                refine gT rfl ?_
                refine aMovV x rfl ?_
                refine gT rfl ?_
                refine aText (st.slc hx) rfl ?_
                refine gT rfl ?_
                refine aBinV (.bool (!decide (descR g = xs))) (u := .string (ofInts (descR g))) (u' := .string (ofInts xs)) rfl rfl (by show some (Value.bool (!((ofInts (descR g)).toList == (ofInts xs).toList))) = _; rw [texts_beq (descR_bytes gw) hb]) ?_
                refine aN rfl rfl (by constructor) ?_
                refine sE ?_
                show AW _ (.cond _ _ _) _ _ _
                refine cC' rfl (fun h37 => ?_) (fun h37 => ?_)
                · have h37q := h37; try simp only [decide_eq_true_eq, decide_eq_false_iff_not, beq_iff_eq, beq_eq_false_iff_ne, bne_iff_ne, bne_eq_false_iff_eq, ne_eq, Decidable.not_not, Bool.not_eq_true, Bool.not_eq_false, gt_iff_lt, ge_iff_le, Int.not_lt, Int.not_le] at h37q
                  have h37n : decide (descR g = xs) = false := by simpa using h37
                  show AWl _ _ _ _ _
                  refine aBld rfl (by repeat constructor) ?_
                  refine aSt st 2 rfl rfl rfl rfl (by first | rfl | simp [cellsOf, *]) (by first | decide | simp [*]) (by repeat constructor) fun H38 st => ?_
                  refine aN rfl rfl (by constructor) ?_
                  refine sE ?_
                  refine ⟨_, out2 (r_cellA st 2 rfl rfl (by first | decide | simp [*]) (by repeat constructor)) (r_tmp rfl (by constructor)) ⟨rfl, rfl⟩, ?_⟩
                  exact ⟨none, DecOk.no (fun s h => of_decide_eq_false h37n (by have := enc_descR h (hn s h); rw [gb s h] at this; exact this.2)), rfl, st.drop⟩
                · have h37q := h37; try simp only [decide_eq_true_eq, decide_eq_false_iff_not, beq_iff_eq, beq_eq_false_iff_ne, bne_iff_ne, bne_eq_false_iff_eq, ne_eq, Decidable.not_not, Bool.not_eq_true, Bool.not_eq_false, gt_iff_lt, ge_iff_le, Int.not_lt, Int.not_le] at h37q
                  have h37n : decide (descR g = xs) = true := by simpa using h37
                  show AWl _ _ _ _ _
                  refine aLdAll st 1 rfl rfl (rfl) ?_
                  refine aStAllA st 2 rfl rfl rfl (rfl) (rfl) fun H39 st => ?_
                  refine aN rfl rfl (by constructor) ?_
                  refine sE ?_
                  refine ⟨_, out2 (r_cellA st 2 rfl rfl (by first | decide | simp [*]) (by repeat constructor)) (r_tmp rfl (by constructor)) ⟨rfl, rfl⟩, ?_⟩
                  exact ⟨some g, DecOk.yes (desc_enc gw (by omega) (of_decide_eq_true h37n)) gb, rfl, st.drop⟩
        · have h22q := h22; try simp only [decide_eq_true_eq, decide_eq_false_iff_not, beq_iff_eq, beq_eq_false_iff_ne, bne_iff_ne, bne_eq_false_iff_eq, ne_eq, Decidable.not_not, Bool.not_eq_true, Bool.not_eq_false, gt_iff_lt, ge_iff_le, Int.not_lt, Int.not_le] at h22q
          have hno : ∀ s, ¬ Enc s xs := fun s h => h22q (basD h (hn s h)).2.2.2.2
          show AWl _ _ _ _ _
          refine aN rfl rfl (by constructor) ?_
          refine aBinV (.bool true) rfl rfl rfl ?_
          refine aN rfl rfl (by constructor) ?_
          refine gF rfl (by decide) ?_
          refine gF rfl (by decide) ?_
          refine gF rfl (by decide) ?_
          refine gF rfl (by decide) ?_
          refine gF rfl (by decide) ?_
          refine aN rfl rfl (by constructor) ?_
          refine sE ?_
          show AW _ (.cond _ _ _) _ _ _
          refine cT rfl ?_
          show AWl _ _ _ _ _
          refine aBld rfl (by repeat constructor) ?_
          refine aSt st 1 rfl rfl rfl rfl (by first | rfl | simp [cellsOf, *]) (by first | decide | simp [*]) (by repeat constructor) fun H40 st => ?_
          refine aN rfl rfl (by constructor) ?_
          refine sE ?_
          refine ⟨_, out2 (r_cellA st 1 rfl rfl (by first | decide | simp [*]) (by repeat constructor)) (r_tmp rfl (by constructor)) ⟨rfl, rfl⟩, ?_⟩
          exact ⟨none, DecOk.no (hno), rfl, st.drop⟩
      · have h21q := h21; try simp only [decide_eq_true_eq, decide_eq_false_iff_not, beq_iff_eq, beq_eq_false_iff_ne, bne_iff_ne, bne_eq_false_iff_eq, ne_eq, Decidable.not_not, Bool.not_eq_true, Bool.not_eq_false, gt_iff_lt, ge_iff_le, Int.not_lt, Int.not_le] at h21q
        refine gF rfl (by decide) ?_
        refine gF rfl (by decide) ?_
        refine gF rfl (by decide) ?_
        refine gF rfl (by decide) ?_
        refine aN rfl rfl (by constructor) ?_
        refine aN rfl rfl (by constructor) ?_
        have hno : ∀ s, ¬ Enc s xs := fun s h => by have := (basD h (hn s h)).2.2.2.1; omega
        refine sE ?_
        show AW _ (.cond _ _ _) _ _ _
        refine cF' rfl ?_
        show AWl _ _ _ _ _
        refine aN rfl rfl (by constructor) ?_
        refine aBinV (.bool true) rfl rfl rfl ?_
        refine aN rfl rfl (by constructor) ?_
        refine gF rfl (by decide) ?_
        refine gF rfl (by decide) ?_
        refine gF rfl (by decide) ?_
        refine gF rfl (by decide) ?_
        refine gF rfl (by decide) ?_
        refine aN rfl rfl (by constructor) ?_
        refine sE ?_
        show AW _ (.cond _ _ _) _ _ _
        refine cT rfl ?_
        show AWl _ _ _ _ _
        refine aBld rfl (by repeat constructor) ?_
        refine aSt st 1 rfl rfl rfl rfl (by first | rfl | simp [cellsOf, *]) (by first | decide | simp [*]) (by repeat constructor) fun H41 st => ?_
        refine aN rfl rfl (by constructor) ?_
        refine sE ?_
        refine ⟨_, out2 (r_cellA st 1 rfl rfl (by first | decide | simp [*]) (by repeat constructor)) (r_tmp rfl (by constructor)) ⟨rfl, rfl⟩, ?_⟩
        exact ⟨none, DecOk.no (hno), rfl, st.drop⟩
  · have h3q := h3; try simp only [decide_eq_true_eq, decide_eq_false_iff_not, beq_iff_eq, beq_eq_false_iff_ne, bne_iff_ne, bne_eq_false_iff_eq, ne_eq, Decidable.not_not, Bool.not_eq_true, Bool.not_eq_false, gt_iff_lt, ge_iff_le, Int.not_lt, Int.not_le] at h3q
    refine gF rfl (by decide) ?_
    refine gF rfl (by decide) ?_
    refine gF rfl (by decide) ?_
    refine gF rfl (by decide) ?_
    refine gF rfl (by decide) ?_
    refine aN rfl rfl (by constructor) ?_
    refine aN rfl rfl (by constructor) ?_
    have hn : ∀ s, Enc s xs → xs.length ≠ 18 := fun s _ => by omega
    refine sE ?_
    show AW _ (.cond _ _ _) _ _ _
    refine cF' rfl ?_
    show AWl _ _ _ _ _
    refine aMovV x rfl ?_
    refine aLen (st.slc hx) rfl ?_
    refine aN rfl rfl (by constructor) ?_
    refine aN rfl rfl (by constructor) ?_
    refine gCase 68 rfl (fun h42 => ?_) (fun h42 => ?_)
    · have h42q := h42; try simp only [decide_eq_true_eq, decide_eq_false_iff_not, beq_iff_eq, beq_eq_false_iff_ne, bne_iff_ne, bne_eq_false_iff_eq, ne_eq, Decidable.not_not, Bool.not_eq_true, Bool.not_eq_false, gt_iff_lt, ge_iff_le, Int.not_lt, Int.not_le] at h42q
      refine gT rfl ?_
      refine aMovV x rfl ?_
      refine gT rfl ?_
      refine aIxB (st.slc hx) rfl rfl (by omega) fun b70 o70 g70 => ?_
      refine gT rfl ?_
      refine aLdG rfl g70 ?_
      refine gT rfl ?_
      refine aN rfl rfl (by constructor) ?_
      refine aN rfl rfl (by constructor) ?_
      refine aN rfl rfl (by constructor) ?_
      refine sE ?_
      show AW _ (.cond _ _ _) _ _ _
      refine cC' rfl (fun h43 => ?_) (fun h43 => ?_)
      · have h43q := h43; try simp only [decide_eq_true_eq, decide_eq_false_iff_not, beq_iff_eq, beq_eq_false_iff_ne, bne_iff_ne, bne_eq_false_iff_eq, ne_eq, Decidable.not_not, Bool.not_eq_true, Bool.not_eq_false, gt_iff_lt, ge_iff_le, Int.not_lt, Int.not_le] at h43q
        show AWp _ _ _ _ _
        refine aMovV x rfl ?_
        refine aIxB (st.slc hx) rfl rfl (by omega) fun b75 o75 g75 => ?_
        refine aLdG rfl g75 ?_
        refine aMovV x rfl ?_
        refine aIxB (st.slc hx) rfl rfl (by omega) fun b78 o78 g78 => ?_
        refine aLdG rfl g78 ?_
        refine aN rfl rfl (by constructor) ?_
        refine aN rfl rfl (by constructor) ?_
        refine aMovV x rfl ?_
        refine aIxB (st.slc hx) rfl rfl (by omega) fun b83 o83 g83 => ?_
        refine aLdG rfl g83 ?_
        refine aN rfl rfl (by constructor) ?_
        refine aBinV (.int .u16 (xs.getD 2 0 * 256 + xs.getD 3 0)) rfl rfl (congrArg (fun z => some (Value.int .u16 z)) (or_16 (hb.getD 2) (hb.getD 3))) ?_
        refine aN rfl rfl (by constructor) ?_
        refine ⟨?_, trivial⟩
        refine aSt st 0 rfl rfl rfl rfl (by first | rfl | simp [cellsOf, *]) (by first | decide | simp [*]) (by repeat constructor) fun H44 st => ?_
        refine ⟨trivial, ?_⟩
        refine aN rfl rfl (by constructor) ?_
        refine ⟨?_, trivial⟩
        refine aSt st 0 rfl rfl rfl rfl (by first | rfl | simp [cellsOf, *]) (by first | decide | simp [*]) (by repeat constructor) fun H45 st => ?_
        refine ⟨trivial, ?_⟩
        refine pE ?_
        show AWl _ _ _ _ _
        refine aMovV x rfl ?_
        refine aCutL (st.slc hx) rfl rfl (by omega) fun v90 s90 => ?_
        replace s90 := s90 _ hx
        replace s90 : Sl H 1 (xs.drop 8).length ((xs.drop 8).map (Value.int .u8)) v90 := by rw [List.length_drop]; exact s90
        have l8 : (xs.drop 8).length = xs.length - 8 := List.length_drop
        refine aMovV v90 rfl ?_
        refine sE ?_
        refine AW_cutK (b := .seq (.seq (.list (⟨some 109, _, _⟩ :: _)) _) _) (fun t1 H1 => ∃ (g : Sn) (r : List Int) (v7 : Value), (g.wf) ∧ (Zer g) ∧ (∀ s, Enc s xs → Bas s g) ∧ (Sl H 1 r.length (r.map (Value.int .u8)) v7) ∧ (∀ s, Enc s xs → r = fldD s) ∧ (ByteL r ∧ r.length ≤ 140737488351232) ∧ t1 7 = v7 ∧ Stt [] H H1 [⟨some b4, true, ⟨true, 25, [.int .u8 g.key, .int .u16 g.code, .int .u64 g.info, .bool g.hi, .int .i64 g.fld, .int .i64 g.bit, .bool g.hf, .bool g.ic]⟩⟩, ⟨some b2, true, ⟨true, 25, [.int .u8 0, .int .u16 0, .int .u64 0, .bool false, .int .i64 0, .int .i64 0, .bool false, .bool false]⟩⟩]) [7, 91, 92, 93, 94, 95, 96, 97, 98, 99, 100, 101, 102, 103, 104, 105, 106, 107, 108] (by decide) ?_ fun t1 H1 hk hI => ?_
        · show AWl _ _ _ _ _
          refine aMovV v90 rfl ?_
          refine aLen (st.slc s90) rfl ?_
          refine aN rfl rfl (by constructor) ?_
          refine aN rfl rfl (by constructor) ?_
          refine gCase 94 rfl (fun h46 => ?_) (fun h46 => ?_)
          · have h46q := h46; try simp only [decide_eq_true_eq, decide_eq_false_iff_not, beq_iff_eq, beq_eq_false_iff_ne, bne_iff_ne, bne_eq_false_iff_eq, ne_eq, Decidable.not_not, Bool.not_eq_true, Bool.not_eq_false, gt_iff_lt, ge_iff_le, Int.not_lt, Int.not_le] at h46q
            refine gT rfl ?_
            refine aMovV v90 rfl ?_
            refine gT rfl ?_
            refine aIxB (st.slc s90) rfl rfl (by omega) fun b96 o96 g96 => ?_
            refine gT rfl ?_
            refine aLdG rfl g96 ?_
            refine gT rfl ?_
            refine aN rfl rfl (by constructor) ?_
            refine aN rfl rfl (by constructor) ?_
            refine sE ?_
            show AW _ (.cond _ _ _) _ _ _
            refine cC' rfl (fun h47 => ?_) (fun h47 => ?_)
            · have h47q := h47; try simp only [decide_eq_true_eq, decide_eq_false_iff_not, beq_iff_eq, beq_eq_false_iff_ne, bne_iff_ne, bne_eq_false_iff_eq, ne_eq, Decidable.not_not, Bool.not_eq_true, Bool.not_eq_false, gt_iff_lt, ge_iff_le, Int.not_lt, Int.not_le] at h47q
              show AWl _ _ _ _ _
              refine aN rfl rfl (by constructor) ?_
              refine aSt st 0 rfl rfl rfl rfl (by first | rfl | simp [cellsOf, *]) (by first | decide | simp [*]) (by repeat constructor) fun H48 st => ?_
              refine sE ?_
              show AWl _ _ _ _ _
              refine aMovV v90 rfl ?_
              refine aC (get_call (st.slc s90) (hb.drop 8) (by first | omega | (rw [List.length_drop]; omega)) (by decide)) fun v103 H49 ⟨hv, st1⟩ => ?_
              subst hv
              replace st := st.call st1 rfl
              clear st1
              refine aN rfl rfl (by constructor) ?_
              refine aN rfl rfl (by constructor) ?_
              refine aN rfl rfl (by constructor) ?_
              refine aN rfl rfl (by constructor) ?_
              refine aSt st 0 rfl rfl rfl rfl (by first | rfl | simp [cellsOf, *]) (by first | decide | simp [*]) (by repeat constructor) fun H50 st => ?_
              refine sE ?_
              show AWl _ _ _ _ _
              refine aMovV v90 rfl ?_
              refine aCutL (st.slc s90) rfl rfl (by omega) fun v108 s108 => ?_
              replace s108 := s108 _ s90
              refine aMovV v108 rfl ?_
              refine sE ?_
              refine ⟨⟨xs.getD 1 0, xs.getD 2 0 * 256 + xs.getD 3 0, rgetV (xs.drop 8) 4 8, true, 0, 0, false, false⟩, (xs.drop 8).drop 12, v108, ⟨?_, ?_, ?_, zb, zb⟩, ⟨rfl, rfl, rfl, rfl⟩, ?_, ?_, ?_, ?_, rfl, st.sel [0, 1] (by decide)⟩
              · have := hb.getD 1; show 0 ≤ xs.getD 1 0 ∧ xs.getD 1 0 < 256; omega
              · have := hb.getD 2; have := hb.getD 3; show 0 ≤ xs.getD 2 0 * 256 + xs.getD 3 0 ∧ xs.getD 2 0 * 256 + xs.getD 3 0 < 65536; omega
              · exact rgetV_bd (hb.drop 8) 4 8
              · intro s h
                obtain ⟨p1, p2, _⟩ := basD h (hn s h)
                obtain ⟨r1, r2, r3⟩ := descHi h (hn s h) (by omega) h47q
                exact ⟨p1, p2, r2, r1⟩
              · rw [List.length_drop]; exact s108
              · intro s h
                exact (descHi h (hn s h) (by omega) h47q).2.2
              · exact ⟨(hb.drop 8).drop 12, by simp only [List.length_drop]; omega⟩
            · have h47q := h47; try simp only [decide_eq_true_eq, decide_eq_false_iff_not, beq_iff_eq, beq_eq_false_iff_ne, bne_iff_ne, bne_eq_false_iff_eq, ne_eq, Decidable.not_not, Bool.not_eq_true, Bool.not_eq_false, gt_iff_lt, ge_iff_le, Int.not_lt, Int.not_le] at h47q
              refine ⟨⟨xs.getD 1 0, xs.getD 2 0 * 256 + xs.getD 3 0, 0, false, 0, 0, false, false⟩, xs.drop 8, v90, ⟨?_, ?_, ?_, zb, zb⟩, ⟨rfl, rfl, rfl, rfl⟩, ?_, ?_, ?_, ?_, rfl, st.sel [0, 1] (by decide)⟩
              · have := hb.getD 1; show 0 ≤ xs.getD 1 0 ∧ xs.getD 1 0 < 256; omega
              · have := hb.getD 2; have := hb.getD 3; show 0 ≤ xs.getD 2 0 * 256 + xs.getD 3 0 ∧ xs.getD 2 0 * 256 + xs.getD 3 0 < 65536; omega
              · exact z64
              · intro s h
                obtain ⟨p1, p2, _⟩ := basD h (hn s h)
                obtain ⟨r1, r2, r3⟩ := descLo h (hn s h) (fun hc => absurd hc.2 h47q)
                exact ⟨p1, p2, r2, r1⟩
              · exact s90
              · intro s h
                exact (descLo h (hn s h) (fun hc => absurd hc.2 h47q)).2.2
              · exact ⟨hb.drop 8, by simp only [List.length_drop]; omega⟩
          · have h46q := h46; try simp only [decide_eq_true_eq, decide_eq_false_iff_not, beq_iff_eq, beq_eq_false_iff_ne, bne_iff_ne, bne_eq_false_iff_eq, ne_eq, Decidable.not_not, Bool.not_eq_true, Bool.not_eq_false, gt_iff_lt, ge_iff_le, Int.not_lt, Int.not_le] at h46q
            refine gF rfl (by decide) ?_
            refine gF rfl (by decide) ?_
            refine gF rfl (by decide) ?_
            refine gF rfl (by decide) ?_
            refine aN rfl rfl (by constructor) ?_
            refine sE ?_
            show AW _ (.cond _ _ _) _ _ _
            refine cF' rfl ?_
            refine ⟨⟨xs.getD 1 0, xs.getD 2 0 * 256 + xs.getD 3 0, 0, false, 0, 0, false, false⟩, xs.drop 8, v90, ⟨?_, ?_, ?_, zb, zb⟩, ⟨rfl, rfl, rfl, rfl⟩, ?_, ?_, ?_, ?_, rfl, st.sel [0, 1] (by decide)⟩
            · have := hb.getD 1; show 0 ≤ xs.getD 1 0 ∧ xs.getD 1 0 < 256; omega
            · have := hb.getD 2; have := hb.getD 3; show 0 ≤ xs.getD 2 0 * 256 + xs.getD 3 0 ∧ xs.getD 2 0 * 256 + xs.getD 3 0 < 65536; omega
            · exact z64
            · intro s h
              obtain ⟨p1, p2, _⟩ := basD h (hn s h)
              obtain ⟨r1, r2, r3⟩ := descLo h (hn s h) (fun hc => by omega)
              exact ⟨p1, p2, r2, r1⟩
            · exact s90
            · intro s h
              exact (descLo h (hn s h) (fun hc => by omega)).2.2
            · exact ⟨hb.drop 8, by simp only [List.length_drop]; omega⟩
        · obtain ⟨g, r, v7, gw, g0, gb, hr, rb, rl, ht7, st⟩ := hI
          obtain ⟨u, rfl⟩ : ∃ u, t1 = (upd (mix [7, 91, 92, 93, 94, 95, 96, 97, 98, 99, 100, 101, 102, 103, 104, 105, 106, 107, 108] _ u) (some 7) _) := ⟨t1, by rw [← hk, upd_self ht7]⟩
          clear hk ht7
          refine AW_cutK (b := .list (⟨some 120, _, _⟩ :: _)) (fun t1 H1 => ∃ (g : Sn), (g.wf) ∧ (∀ s, Enc s xs → s = g) ∧ Stt [] H H1 [⟨some b4, true, ⟨true, 25, [.int .u8 g.key, .int .u16 g.code, .int .u64 g.info, .bool g.hi, .int .i64 g.fld, .int .i64 g.bit, .bool g.hf, .bool g.ic]⟩⟩, ⟨some b2, true, ⟨true, 25, [.int .u8 0, .int .u16 0, .int .u64 0, .bool false, .int .i64 0, .int .i64 0, .bool false, .bool false]⟩⟩]) [3, 109, 110, 111, 112, 113, 114, 115, 116, 117, 118] (by decide) ?_ fun t1 H1 hk hI => ?_
          · show AWl _ _ _ _ _
            refine aMovV v7 rfl ?_
            refine aLen (st.slc hr) rfl ?_
            refine aN rfl rfl (by constructor) ?_
            refine aN rfl rfl (by constructor) ?_
            refine gCase 112 rfl (fun h51 => ?_) (fun h51 => ?_)
            · have h51q := h51; try simp only [decide_eq_true_eq, decide_eq_false_iff_not, beq_iff_eq, beq_eq_false_iff_ne, bne_iff_ne, bne_eq_false_iff_eq, ne_eq, Decidable.not_not, Bool.not_eq_true, Bool.not_eq_false, gt_iff_lt, ge_iff_le, Int.not_lt, Int.not_le] at h51q
              refine gT rfl ?_
              refine aMovV v7 rfl ?_
              refine gT rfl ?_
              refine aCutL (st.slc hr) rfl rfl (by omega) fun v114 s114 => ?_
              replace s114 := s114 _ hr
              refine gT rfl ?_
              refine aC (unkey_call (g := g) (st.get (j := 0) rfl) (st.slc s114) (rl.1.drop 4) (st.apart (j := 0) rfl s114) (by omega)) fun v115 H52 ⟨hv, st1⟩ => ?_
              subst hv
              replace st := st.callX 0 rfl st1 rfl
              clear st1
              refine gT rfl ?_
              refine aN rfl rfl (by constructor) ?_
              refine aN rfl rfl (by constructor) ?_
              refine sE ?_
              show AW _ (.cond _ _ _) _ _ _
              refine cC' rfl (fun h53 => ?_) (fun h53 => ?_)
              · have h53q := h53; try simp only [decide_eq_true_eq, decide_eq_false_iff_not, beq_iff_eq, beq_eq_false_iff_ne, bne_iff_ne, bne_eq_false_iff_eq, ne_eq, Decidable.not_not, Bool.not_eq_true, Bool.not_eq_false, gt_iff_lt, ge_iff_le, Int.not_lt, Int.not_le] at h53q
                have h53n : unk ((r.drop 4).getD 0 0) = false := by simpa using h53
                show AWl _ _ _ _ _
                refine aBld rfl (by repeat constructor) ?_
                refine aSt st 1 rfl rfl rfl rfl (by first | rfl | simp [cellsOf, *]) (by first | decide | simp [*]) (by repeat constructor) fun H54 st => ?_
                refine aN rfl rfl (by constructor) ?_
                refine sE ?_
                refine ⟨_, out2 (r_cellA st 1 rfl rfl (by first | decide | simp [*]) (by repeat constructor)) (r_tmp rfl (by constructor)) ⟨rfl, rfl⟩, ?_⟩
                exact ⟨none, DecOk.no (fun s h => by have := (descU h (rb s h) (gb s h) g0 (by omega)).1; rw [h53n] at this; cases this), rfl, st.drop⟩
              · have h53q := h53; try simp only [decide_eq_true_eq, decide_eq_false_iff_not, beq_iff_eq, beq_eq_false_iff_ne, bne_iff_ne, bne_eq_false_iff_eq, ne_eq, Decidable.not_not, Bool.not_eq_true, Bool.not_eq_false, gt_iff_lt, ge_iff_le, Int.not_lt, Int.not_le] at h53q
                have h53n : unk ((r.drop 4).getD 0 0) = true := by simpa using h53
                have e : unkR g (r.drop 4) = unkS g (r.drop 4) := by unfold unkR; rw [if_pos h53n]
                exact ⟨unkR g (r.drop 4), by rw [e]; exact unkS_wf gw (rl.1.drop 4), fun s h => by rw [e]; exact (descU h (rb s h) (gb s h) g0 (by omega)).2, st.sel [0, 1] (by decide)⟩
            · have h51q := h51; try simp only [decide_eq_true_eq, decide_eq_false_iff_not, beq_iff_eq, beq_eq_false_iff_ne, bne_iff_ne, bne_eq_false_iff_eq, ne_eq, Decidable.not_not, Bool.not_eq_true, Bool.not_eq_false, gt_iff_lt, ge_iff_le, Int.not_lt, Int.not_le] at h51q
              refine gF rfl (by decide) ?_
              refine gF rfl (by decide) ?_
              refine gF rfl (by decide) ?_
              refine gF rfl (by decide) ?_
              refine aN rfl rfl (by constructor) ?_
              refine sE ?_
              show AW _ (.cond _ _ _) _ _ _
              refine cF' rfl ?_
              exact ⟨g, gw, fun s h => descA h (rb s h) (gb s h) g0 (by omega), st.sel [0, 1] (by decide)⟩
          · obtain ⟨g, gw, gb, st⟩ := hI
            obtain ⟨u, rfl⟩ : ∃ u, t1 = (mix [3, 109, 110, 111, 112, 113, 114, 115, 116, 117, 118] _ u) := ⟨t1, by rw [← hk]⟩
            clear hk
            show AWl _ _ _ _ _
            refine aLdAll st 0 rfl rfl (rfl) ?_
            refine aC (desc_call (s := g) gw) fun v121 H55 ⟨ob121, hv, st1⟩ => ?_
            subst hv
            replace st := st.call st1 rfl
            clear st1
            refine aN rfl rfl (by constructor) ?_
            refine aExtA rfl rfl ?_
            refine aN rfl rfl (by constructor) ?_
            refine aMovA rfl ?_
            refine aN rfl rfl (by constructor) ?_
            refine sE ?_
            show AWl _ _ _ _ _
            refine aN rfl rfl (by constructor) ?_
            refine aN rfl rfl (by constructor) ?_
            refine aN rfl rfl (by constructor) ?_
            refine gCase 126 rfl (fun h56 => ?_) (fun h56 => ?_)
            · have h56q := h56; try simp only [decide_eq_true_eq, decide_eq_false_iff_not, beq_iff_eq, beq_eq_false_iff_ne, bne_iff_ne, bne_eq_false_iff_eq, ne_eq, Decidable.not_not, Bool.not_eq_true, Bool.not_eq_false, gt_iff_lt, ge_iff_le, Int.not_lt, Int.not_le] at h56q
              refine gF rfl (by decide) ?_
              refine gF rfl (by decide) ?_
              refine gF rfl (by decide) ?_
              refine gF rfl (by decide) ?_
              refine gF rfl (by decide) ?_
              refine aN rfl rfl (by constructor) ?_
              refine sE ?_
              show AW _ (.cond _ _ _) _ _ _
              refine cT rfl ?_
              show AWl _ _ _ _ _
              refine aBld rfl (by repeat constructor) ?_
              refine aSt st 2 rfl rfl rfl rfl (by first | rfl | simp [cellsOf, *]) (by first | decide | simp [*]) (by repeat constructor) fun H57 st => ?_
              refine aN rfl rfl (by constructor) ?_
              refine sE ?_
              refine ⟨_, out2 (r_cellA st 2 rfl rfl (by first | decide | simp [*]) (by repeat constructor)) (r_tmp rfl (by constructor)) ⟨rfl, rfl⟩, ?_⟩
              exact ⟨none, DecOk.no (fun s h => by have := enc_descR h (hn s h); rw [gb s h] at this; omega), rfl, st.drop⟩
            · have h56q := h56; try simp only [decide_eq_true_eq, decide_eq_false_iff_not, beq_iff_eq, beq_eq_false_iff_ne, bne_iff_ne, bne_eq_false_iff_eq, ne_eq, Decidable.not_not, Bool.not_eq_true, Bool.not_eq_false, gt_iff_lt, ge_iff_le, Int.not_lt, Int.not_le] at h56q
              refine gT rfl ?_
              refine aMovA rfl ?_
              refine gT rfl ?_
              refine aText (st.rowAcc 0 rfl (by decide) (by simp)) rfl ?_
              refine gT rfl ?_
              refine aMovV x rfl ?_
              refine gT rfl ?_
              refine aText (st.slc hx) rfl ?_
              refine gT rfl ?_
              refine aBinV (.bool (!decide (descR g = xs))) (u := .string (ofInts (descR g))) (u' := .string (ofInts xs)) rfl rfl (by show some (Value.bool (!((ofInts (descR g)).toList == (ofInts xs).toList))) = _; rw [texts_beq (descR_bytes gw) hb]) ?_
              refine aN rfl rfl (by constructor) ?_
              refine sE ?_
              show AW _ (.cond _ _ _) _ _ _
              refine cC' rfl (fun h58 => ?_) (fun h58 => ?_)
              · have h58q := h58; try simp only [decide_eq_true_eq, decide_eq_false_iff_not, beq_iff_eq, beq_eq_false_iff_ne, bne_iff_ne, bne_eq_false_iff_eq, ne_eq, Decidable.not_not, Bool.not_eq_true, Bool.not_eq_false, gt_iff_lt, ge_iff_le, Int.not_lt, Int.not_le] at h58q
                have h58n : decide (descR g = xs) = false := by simpa using h58
                show AWl _ _ _ _ _
                refine aBld rfl (by repeat constructor) ?_
                refine aSt st 2 rfl rfl rfl rfl (by first | rfl | simp [cellsOf, *]) (by first | decide | simp [*]) (by repeat constructor) fun H59 st => ?_
                refine aN rfl rfl (by constructor) ?_
                refine sE ?_
                refine ⟨_, out2 (r_cellA st 2 rfl rfl (by first | decide | simp [*]) (by repeat constructor)) (r_tmp rfl (by constructor)) ⟨rfl, rfl⟩, ?_⟩
                exact ⟨none, DecOk.no (fun s h => of_decide_eq_false h58n (by have := enc_descR h (hn s h); rw [gb s h] at this; exact this.2)), rfl, st.drop⟩
              · have h58q := h58; try simp only [decide_eq_true_eq, decide_eq_false_iff_not, beq_iff_eq, beq_eq_false_iff_ne, bne_iff_ne, bne_eq_false_iff_eq, ne_eq, Decidable.not_not, Bool.not_eq_true, Bool.not_eq_false, gt_iff_lt, ge_iff_le, Int.not_lt, Int.not_le] at h58q
                have h58n : decide (descR g = xs) = true := by simpa using h58
                show AWl _ _ _ _ _
                refine aLdAll st 1 rfl rfl (rfl) ?_
                refine aStAllA st 2 rfl rfl rfl (rfl) (rfl) fun H60 st => ?_
                refine aN rfl rfl (by constructor) ?_
                refine sE ?_
                refine ⟨_, out2 (r_cellA st 2 rfl rfl (by first | decide | simp [*]) (by repeat constructor)) (r_tmp rfl (by constructor)) ⟨rfl, rfl⟩, ?_⟩
                exact ⟨some g, DecOk.yes (desc_enc gw (by omega) (of_decide_eq_true h58n)) gb, rfl, st.drop⟩
      · have h43q := h43; try simp only [decide_eq_true_eq, decide_eq_false_iff_not, beq_iff_eq, beq_eq_false_iff_ne, bne_iff_ne, bne_eq_false_iff_eq, ne_eq, Decidable.not_not, Bool.not_eq_true, Bool.not_eq_false, gt_iff_lt, ge_iff_le, Int.not_lt, Int.not_le] at h43q
        have hno : ∀ s, ¬ Enc s xs := fun s h => h43q (basD h (hn s h)).2.2.2.2
        show AWl _ _ _ _ _
        refine aN rfl rfl (by constructor) ?_
        refine aBinV (.bool true) rfl rfl rfl ?_
        refine aN rfl rfl (by constructor) ?_
        refine gF rfl (by decide) ?_
        refine gF rfl (by decide) ?_
        refine gF rfl (by decide) ?_
        refine gF rfl (by decide) ?_
        refine gF rfl (by decide) ?_
        refine aN rfl rfl (by constructor) ?_
        refine sE ?_
        show AW _ (.cond _ _ _) _ _ _
        refine cT rfl ?_
        show AWl _ _ _ _ _
        refine aBld rfl (by repeat constructor) ?_
        refine aSt st 1 rfl rfl rfl rfl (by first | rfl | simp [cellsOf, *]) (by first | decide | simp [*]) (by repeat constructor) fun H61 st => ?_
        refine aN rfl rfl (by constructor) ?_
        refine sE ?_
        refine ⟨_, out2 (r_cellA st 1 rfl rfl (by first | decide | simp [*]) (by repeat constructor)) (r_tmp rfl (by constructor)) ⟨rfl, rfl⟩, ?_⟩
        exact ⟨none, DecOk.no (hno), rfl, st.drop⟩
    · have h42q := h42; try simp only [decide_eq_true_eq, decide_eq_false_iff_not, beq_iff_eq, beq_eq_false_iff_ne, bne_iff_ne, bne_eq_false_iff_eq, ne_eq, Decidable.not_not, Bool.not_eq_true, Bool.not_eq_false, gt_iff_lt, ge_iff_le, Int.not_lt, Int.not_le] at h42q
      refine gF rfl (by decide) ?_
      refine gF rfl (by decide) ?_
      refine gF rfl (by decide) ?_
      refine gF rfl (by decide) ?_
      refine aN rfl rfl (by constructor) ?_
      refine aN rfl rfl (by constructor) ?_
      have hno : ∀ s, ¬ Enc s xs := fun s h => by have := (basD h (hn s h)).2.2.2.1; omega
      refine sE ?_
      show AW _ (.cond _ _ _) _ _ _
      refine cF' rfl ?_
      show AWl _ _ _ _ _
      refine aN rfl rfl (by constructor) ?_
      refine aBinV (.bool true) rfl rfl rfl ?_
      refine aN rfl rfl (by constructor) ?_
      refine gF rfl (by decide) ?_
      refine gF rfl (by decide) ?_
      refine gF rfl (by decide) ?_
      refine gF rfl (by decide) ?_
      refine gF rfl (by decide) ?_
      refine aN rfl rfl (by constructor) ?_
      refine sE ?_
      show AW _ (.cond _ _ _) _ _ _
      refine cT rfl ?_
      show AWl _ _ _ _ _
      refine aBld rfl (by repeat constructor) ?_
      refine aSt st 1 rfl rfl rfl rfl (by first | rfl | simp [cellsOf, *]) (by first | decide | simp [*]) (by repeat constructor) fun H62 st => ?_
      refine aN rfl rfl (by constructor) ?_
      refine sE ?_
      refine ⟨_, out2 (r_cellA st 1 rfl rfl (by first | decide | simp [*]) (by repeat constructor)) (r_tmp rfl (by constructor)) ⟨rfl, rfl⟩, ?_⟩
      exact ⟨none, DecOk.no (hno), rfl, st.drop⟩
end Go.Proofs.Ytloigiieoehimaa.Abs
