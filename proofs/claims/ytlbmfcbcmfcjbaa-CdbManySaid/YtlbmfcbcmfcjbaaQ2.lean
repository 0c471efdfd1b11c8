/- Commands: what bytes are, as the document has it. -/
import Derived.Test.YtlbmfcbcmfcjbaaQ1
set_option linter.unusedVariables false
set_option linter.unusedSimpArgs false
set_option maxRecDepth 100000
namespace Go.Proofs.Ytlbmfcbcmfcjbaa.Abs
open Go Go.RowKit
theorem take_get0 {xs : List Int} {n : Nat} (h : 0 < n) : (xs.take n).getD 0 0 = xs.getD 0 0 := by simp [List.getD, List.getElem?_take, h]
theorem OddAt.no {xs ms : List Int} {f b : Int} (h : OddAt xs ms f b) (hf : ¬ f ≥ 0) : ∀ i, i < xs.length → ∀ k, k < 8 → oddB xs ms i k = false := by
  rcases h with ⟨_, _, h⟩ | ⟨i, k, rfl, _⟩
  · exact h
  · exact absurd (Int.natCast_nonneg i) hf
theorem rparse_call {H : Hp} {xs : List Int} {x : Value} (hx : Sl H 1 xs.length (xs.map (Value.int .u8)) x) (hb : ByteL xs) (hl : xs.length ≤ 140737488355328) :
    ACalls Try.prog 11 [x] H (fun v H' => ∃ f b : Int, v = .tuple #[.agg #[.int .u8 (parseM xs f b).1.kind, .bool (parseM xs f b).1.long, .int .u64 (parseM xs f b).1.lba, .int .u64 (parseM xs f b).1.blocks, .int .i64 (parseM xs f b).1.alloc, .bool (parseM xs f b).1.fua, .int .u8 (parseM xs f b).1.prot, .bool (parseM xs f b).1.unmap, .bool (parseM xs f b).1.evpd, .int .u8 (parseM xs f b).1.page, .int .u8 (parseM xs f b).1.control, .bool (parseM xs f b).1.save, .int .u8 (parseM xs f b).1.service, .int .u8 (parseM xs f b).1.type, .bool (parseM xs f b).1.bytes], .agg #[.int .u8 (parseM xs f b).2.1.key, .int .u16 (parseM xs f b).2.1.code, .int .u64 (parseM xs f b).2.1.info, .bool (parseM xs f b).2.1.hasInfo, .int .i64 (parseM xs f b).2.1.field, .int .i64 (parseM xs f b).2.1.bit, .bool (parseM xs f b).2.1.hasField, .bool (parseM xs f b).2.1.inCmd], .bool (parseM xs f b).2.2] ∧ Stt [] H H' [] ∧ POdd xs f b) := by
  refine acallsW Try.func11 f11_ok (Nat.le_of_ble_eq_true rfl) fun hw => ?_
  have st : Stt [] H H [] := Stt.start hw
  unfold f11c
  show AWl _ _ _ _ _
  refine aNewP st rfl rfl (by repeat constructor) fun b2 H1 st => ?_
  refine aNewP st rfl rfl (by repeat constructor) fun b3 H2 st => ?_
  refine aN rfl rfl (by constructor) ?_
  refine sE ?_
  show AWl _ _ _ _ _
  refine aBld rfl (by repeat constructor) ?_
  refine aNewP st rfl rfl (by repeat constructor) fun b5 H3 st => ?_
  refine aSt st 0 rfl rfl rfl rfl (by first | rfl | simp [cellsOf, *]) (by first | decide | simp [*]) (by repeat constructor) fun H4 st => ?_
  refine sE ?_
  show AWl _ _ _ _ _
  refine aMovV x rfl ?_
  refine aLen (st.slc hx) rfl ?_
  refine aN rfl rfl (by constructor) ?_
  refine sE ?_
  show AW _ (.cond _ _ _) _ _ _
  refine cC' rfl (fun h5 => ?_) (fun h5 => ?_)
  · have h5q := h5; try simp only [decide_eq_true_eq, decide_eq_false_iff_not, beq_iff_eq, beq_eq_false_iff_ne, bne_iff_ne, bne_eq_false_iff_eq, ne_eq, Decidable.not_not, Bool.not_eq_true, Bool.not_eq_false, gt_iff_lt, ge_iff_le, Int.not_lt, Int.not_le] at h5q
    have h0 : xs.length = 0 := by have := h5q; omega
    show AWp _ _ _ _ _
    refine aLdA st 0 rfl rfl (by first | decide | simp [*]) (by repeat constructor) ?_
    refine ⟨?_, trivial⟩
    refine aC (rfault_call) fun v21 H6 ⟨hv, st1⟩ => ?_
    subst hv
    replace st := st.call st1 rfl
    clear st1
    refine ⟨⟨(h_LdA st 0 rfl rfl (by first | decide | simp [*]) (by repeat constructor)), trivial⟩, ?_⟩
    refine ⟨?_, trivial⟩
    refine aSt st 2 rfl rfl rfl rfl (by first | rfl | simp [cellsOf, *]) (by first | decide | simp [*]) (by repeat constructor) fun H7 st => ?_
    refine ⟨trivial, ?_⟩
    refine ⟨?_, trivial⟩
    refine aSt st 1 rfl rfl rfl rfl (by first | rfl | simp [cellsOf, *]) (by first | decide | simp [*]) (by repeat constructor) fun H8 st => ?_
    refine ⟨trivial, ?_⟩
    refine aN rfl rfl (by constructor) ?_
    refine pE ?_
    refine ⟨_, out3 (r_cellA st 2 rfl rfl (by first | decide | simp [*]) (by repeat constructor)) (r_cellA st 1 rfl rfl (by first | decide | simp [*]) (by repeat constructor)) (r_tmp rfl (by constructor)) ⟨rfl, rfl, rfl⟩, ?_⟩
    exact ⟨0, 0, by rw [pm1 h0]; rfl, st.drop, fun h h3 => absurd (show xs.length < (useL (xs.getD 0 0)).length by have : 0 < (useL (xs.getD 0 0)).length := List.length_pos_iff.2 h; omega) h3⟩
  · have h5q := h5; try simp only [decide_eq_true_eq, decide_eq_false_iff_not, beq_iff_eq, beq_eq_false_iff_ne, bne_iff_ne, bne_eq_false_iff_eq, ne_eq, Decidable.not_not, Bool.not_eq_true, Bool.not_eq_false, gt_iff_lt, ge_iff_le, Int.not_lt, Int.not_le] at h5q
    have h0 : xs.length ≠ 0 := by have := h5q; omega
    show AWl _ _ _ _ _
    refine aMovV x rfl ?_
    refine aIxB (st.slc hx) rfl rfl (by omega) fun b23 o23 g23 => ?_
    refine aLdG rfl g23 ?_
    refine aN rfl rfl (by constructor) ?_
    refine sE ?_
    show AWl _ _ _ _ _
    refine aN rfl rfl (by constructor) ?_
    refine sE ?_
    refine AW_cutK (b := .seq (.list (⟨some 37, _, _⟩ :: _)) _) (fun t1 H1 => (tellsB (xs.getD 0 0) = true → xs.length ≠ 1) ∧ t1 6 = .int .u8 (xs.getD 0 0) ∧ t1 7 = .int .u8 (svOf xs) ∧ Stt [] H H1 [⟨some b2, true, ⟨true, 27, [.int .u8 0, .bool false, .int .u64 0, .int .u64 0, .int .i64 0, .bool false, .int .u8 0, .bool false, .bool false, .int .u8 0, .int .u8 0, .bool false, .int .u8 0, .int .u8 0, .bool false]⟩⟩, ⟨some b3, true, ⟨true, 30, [.int .u8 0, .int .u16 0, .int .u64 0, .bool false, .int .i64 0, .int .i64 0, .bool false, .bool false]⟩⟩, ⟨some b5, true, ⟨true, 27, [.int .u8 0, .bool false, .int .u64 0, .int .u64 0, .int .i64 0, .bool false, .int .u8 0, .bool false, .bool false, .int .u8 0, .int .u8 0, .bool false, .int .u8 0, .int .u8 0, .bool false]⟩⟩]) [4, 7, 25, 26, 27, 28, 29, 30, 31, 32, 33, 34, 35] (by decide) ?_ fun t1 H1 hk hI => ?_
    · show AWl _ _ _ _ _
      refine aN rfl rfl (by constructor) ?_
      refine aC (tells_call) fun v26 H9 ⟨hv, st1⟩ => ?_
      subst hv
      replace st := st.call st1 rfl
      clear st1
      refine sE ?_
      show AW _ (.cond _ _ _) _ _ _
      refine cC' rfl (fun h10 => ?_) (fun h10 => ?_)
      · have h10q := h10; try simp only [decide_eq_true_eq, decide_eq_false_iff_not, beq_iff_eq, beq_eq_false_iff_ne, bne_iff_ne, bne_eq_false_iff_eq, ne_eq, Decidable.not_not, Bool.not_eq_true, Bool.not_eq_false, gt_iff_lt, ge_iff_le, Int.not_lt, Int.not_le] at h10q
        have ht : tellsB (xs.getD 0 0) = true := h10
        show AWl _ _ _ _ _
        refine aMovV x rfl ?_
        refine aLen (st.slc hx) rfl ?_
        refine aN rfl rfl (by constructor) ?_
        refine sE ?_
        show AW _ (.cond _ _ _) _ _ _
        refine cC' rfl (fun h11 => ?_) (fun h11 => ?_)
        · have h11q := h11; try simp only [decide_eq_true_eq, decide_eq_false_iff_not, beq_iff_eq, beq_eq_false_iff_ne, bne_iff_ne, bne_eq_false_iff_eq, ne_eq, Decidable.not_not, Bool.not_eq_true, Bool.not_eq_false, gt_iff_lt, ge_iff_le, Int.not_lt, Int.not_le] at h11q
          have hs1 : xs.length = 1 := by have := h11q; omega
          show AWp _ _ _ _ _
          refine aLdA st 0 rfl rfl (by first | decide | simp [*]) (by repeat constructor) ?_
          refine ⟨?_, trivial⟩
          refine aC (rfault_call) fun v31 H12 ⟨hv, st1⟩ => ?_
          subst hv
          replace st := st.call st1 rfl
          clear st1
          refine ⟨⟨(h_LdA st 0 rfl rfl (by first | decide | simp [*]) (by repeat constructor)), trivial⟩, ?_⟩
          refine ⟨?_, trivial⟩
          refine aSt st 2 rfl rfl rfl rfl (by first | rfl | simp [cellsOf, *]) (by first | decide | simp [*]) (by repeat constructor) fun H13 st => ?_
          refine ⟨trivial, ?_⟩
          refine ⟨?_, trivial⟩
          refine aSt st 1 rfl rfl rfl rfl (by first | rfl | simp [cellsOf, *]) (by first | decide | simp [*]) (by repeat constructor) fun H14 st => ?_
          refine ⟨trivial, ?_⟩
          refine aN rfl rfl (by constructor) ?_
          refine pE ?_
          refine ⟨_, out3 (r_cellA st 2 rfl rfl (by first | decide | simp [*]) (by repeat constructor)) (r_cellA st 1 rfl rfl (by first | decide | simp [*]) (by repeat constructor)) (r_tmp rfl (by constructor)) ⟨rfl, rfl, rfl⟩, ?_⟩
          exact ⟨0, 0, by rw [pm2 h0 ht hs1]; rfl, st.drop, fun h h3 => absurd (show xs.length < (useL (xs.getD 0 0)).length by have := tells_len ht; omega) h3⟩
        · have h11q := h11; try simp only [decide_eq_true_eq, decide_eq_false_iff_not, beq_iff_eq, beq_eq_false_iff_ne, bne_iff_ne, bne_eq_false_iff_eq, ne_eq, Decidable.not_not, Bool.not_eq_true, Bool.not_eq_false, gt_iff_lt, ge_iff_le, Int.not_lt, Int.not_le] at h11q
          have hs1 : xs.length ≠ 1 := by have := h11q; omega
          show AWl _ _ _ _ _
          refine aMovV x rfl ?_
          refine aIxB (st.slc hx) rfl rfl (by omega) fun b33 o33 g33 => ?_
          refine aLdG rfl g33 ?_
          refine aN rfl (e_rem rfl rfl (by decide)) (by constructor) ?_
          refine aN rfl rfl (by constructor) ?_
          refine sE ?_
          have hs35 : tellsB (xs.getD 0 0) = true → xs.length ≠ 1 := fun _ => hs1
          have hsv : svOf xs = xs.getD 1 0 % 32 := if_pos ht
          exact ⟨hs35, rfl, congrArg (Value.int .u8) ((b_rem 32 (hb.getD _)).trans hsv.symm), st.sel [2, 1, 0] (by decide)⟩
      · have h10q := h10; try simp only [decide_eq_true_eq, decide_eq_false_iff_not, beq_iff_eq, beq_eq_false_iff_ne, bne_iff_ne, bne_eq_false_iff_eq, ne_eq, Decidable.not_not, Bool.not_eq_true, Bool.not_eq_false, gt_iff_lt, ge_iff_le, Int.not_lt, Int.not_le] at h10q
        have ht : tellsB (xs.getD 0 0) = false := h10
        have hs35 : tellsB (xs.getD 0 0) = true → xs.length ≠ 1 := fun h => by have := ht.symm.trans h; cases this
        have hsv : svOf xs = 0 := if_neg (fun h => by have := ht.symm.trans h; cases this)
        exact ⟨hs35, rfl, congrArg (Value.int .u8) hsv.symm, st.sel [2, 1, 0] (by decide)⟩
    · obtain ⟨h1, ht6, ht7, st⟩ := hI
      obtain ⟨u, rfl⟩ : ∃ u, t1 = (upd (upd (mix [4, 7, 25, 26, 27, 28, 29, 30, 31, 32, 33, 34, 35] _ u) (some 6) _) (some 7) _) := ⟨t1, by rw [← hk, upd_self ht6, upd_self ht7]⟩
      clear hk ht6 ht7
      show AWl _ _ _ _ _
      refine aN rfl rfl (by constructor) ?_
      refine aN rfl rfl (by constructor) ?_
      have ho := hb.getD 0
      refine aC (rusage_call (by omega)) fun v39 H15 ⟨ob39, hv, st1, he39⟩ => ?_
      subst hv
      replace st := st.call st1 rfl
      clear st1
      by_cases h2 : useL (xs.getD 0 0) = []
      · obtain rfl := he39 h2
        refine aN rfl rfl (by constructor) ?_
        refine aN rfl rfl (by constructor) ?_
        refine aN rfl rfl (by constructor) ?_
        refine aN rfl rfl (by constructor) ?_
        refine aN rfl rfl (by constructor) ?_
        refine sE ?_
        show AWl _ _ _ _ _
        refine aN rfl rfl (by constructor) ?_
        refine aBinV (.bool true) (u := .slice none 0 0) (u' := .slice none 0 0) rfl rfl rfl ?_
        refine sE ?_
        show AW _ (.cond _ _ _) _ _ _
        refine cT rfl ?_
        show AWl _ _ _ _ _
        refine aLdA st 3 rfl rfl (by first | decide | simp [*]) (by repeat constructor) ?_
        refine aBld rfl (by repeat constructor) ?_
        refine aSt st 1 rfl rfl rfl rfl (by first | rfl | simp [cellsOf, *]) (by first | decide | simp [*]) (by repeat constructor) fun H16 st => ?_
        refine aSt st 2 rfl rfl rfl rfl (by first | rfl | simp [cellsOf, *]) (by first | decide | simp [*]) (by repeat constructor) fun H17 st => ?_
        refine aN rfl rfl (by constructor) ?_
        refine sE ?_
        refine ⟨_, out3 (r_cellA st 1 rfl rfl (by first | decide | simp [*]) (by repeat constructor)) (r_cellA st 2 rfl rfl (by first | decide | simp [*]) (by repeat constructor)) (r_tmp rfl (by constructor)) ⟨rfl, rfl, rfl⟩, ?_⟩
        exact ⟨0, 0, by rw [pm3 h0 h1 h2]; rfl, st.drop, fun h => absurd h2 h⟩
      · obtain ⟨b39, rfl⟩ := st.isSome 0 rfl (by intro hc; rw [List.map_eq_nil_iff] at hc; exact h2 hc)
        have hcode : (xs.getD 0 0) ∈ codes := (use_elim _).resolve_left h2
        obtain ⟨eR, lR⟩ := code_row _ hcode
        have hn20 : (useL (xs.getD 0 0)).length ≤ 21 := by have h9 := congrArg List.length eR; simp only [List.length_cons] at h9; omega
        refine aN rfl rfl (by constructor) ?_
        refine aN rfl rfl (by constructor) ?_
        refine aN rfl rfl (by constructor) ?_
        refine aN rfl rfl (by constructor) ?_
        refine aN rfl rfl (by constructor) ?_
        refine sE ?_
        show AWl _ _ _ _ _
        refine aN rfl rfl (by constructor) ?_
        refine aBinV (.bool false) (u := .slice (some ⟨b39, 0, none⟩) (useL (xs.getD 0 0)).length 1) (u' := .slice none 0 0) rfl rfl rfl ?_
        refine sE ?_
        show AW _ (.cond _ _ _) _ _ _
        refine cF' rfl ?_
        show AWl _ _ _ _ _
        refine aN rfl rfl (by constructor) ?_
        refine aN rfl rfl (by constructor) ?_
        refine aN rfl rfl (by constructor) ?_
        refine sE ?_
        show AWl _ _ _ _ _
        refine aMovV x rfl ?_
        refine aLen (st.slc hx) rfl ?_
        refine aN rfl rfl (by constructor) ?_
        refine aN rfl rfl (by constructor) ?_
        refine sE ?_
        show AW _ (.cond _ _ _) _ _ _
        refine cC' rfl (fun h18 => ?_) (fun h18 => ?_)
        · have h18q := h18; try simp only [decide_eq_true_eq, decide_eq_false_iff_not, beq_iff_eq, beq_eq_false_iff_ne, bne_iff_ne, bne_eq_false_iff_eq, ne_eq, Decidable.not_not, Bool.not_eq_true, Bool.not_eq_false, gt_iff_lt, ge_iff_le, Int.not_lt, Int.not_le] at h18q
          have h3 : (xs.length < (useL (xs.getD 0 0)).length) := by have := h18q; omega
          show AWp _ _ _ _ _
          refine aLdA st 3 rfl rfl (by first | decide | simp [*]) (by repeat constructor) ?_
          refine aMovV x rfl ?_
          refine aLen (st.slc hx) rfl ?_
          refine ⟨?_, trivial⟩
          refine aC (rfault_call) fun v55 H19 ⟨hv, st1⟩ => ?_
          subst hv
          replace st := st.call st1 rfl
          clear st1
          refine ⟨⟨(h_LdA st 3 rfl rfl (by first | decide | simp [*]) (by repeat constructor)), trivial⟩, ?_⟩
          refine ⟨?_, trivial⟩
          refine aSt st 1 rfl rfl rfl rfl (by first | rfl | simp [cellsOf, *]) (by first | decide | simp [*]) (by repeat constructor) fun H20 st => ?_
          refine ⟨trivial, ?_⟩
          refine ⟨?_, trivial⟩
          refine aSt st 2 rfl rfl rfl rfl (by first | rfl | simp [cellsOf, *]) (by first | decide | simp [*]) (by repeat constructor) fun H21 st => ?_
          refine ⟨trivial, ?_⟩
          refine aN rfl rfl (by constructor) ?_
          refine pE ?_
          refine ⟨_, out3 (r_cellA st 1 rfl rfl (by first | decide | simp [*]) (by repeat constructor)) (r_cellA st 2 rfl rfl (by first | decide | simp [*]) (by repeat constructor)) (r_tmp rfl (by constructor)) ⟨rfl, rfl, rfl⟩, ?_⟩
          exact ⟨0, 0, by rw [pm4 h0 h1 h2 h3]; rfl, st.drop, fun _ h => absurd h3 h⟩
        · have h18q := h18; try simp only [decide_eq_true_eq, decide_eq_false_iff_not, beq_iff_eq, beq_eq_false_iff_ne, bne_iff_ne, bne_eq_false_iff_eq, ne_eq, Decidable.not_not, Bool.not_eq_true, Bool.not_eq_false, gt_iff_lt, ge_iff_le, Int.not_lt, Int.not_le] at h18q
          have h3 : ¬ (xs.length < (useL (xs.getD 0 0)).length) := by have := h18q; omega
          show AWl _ _ _ _ _
          refine aMovV x rfl ?_
          refine aN rfl rfl (by constructor) ?_
          refine aCutH (st.slc hx) rfl rfl (by omega) fun v59 s59 => ?_
          replace s59 := s59 _ hx
          have hlt : (xs.take (useL (xs.getD 0 0)).length).length = (useL (xs.getD 0 0)).length := by rw [List.length_take]; omega
          replace s59 : Sl H 1 (xs.take (useL (xs.getD 0 0)).length).length ((xs.take (useL (xs.getD 0 0)).length).map (Value.int .u8)) v59 := by rw [hlt]; exact s59
          refine aN rfl rfl (by constructor) ?_
          have hbm : ByteL (useL (xs.getD 0 0)) := use_bytes _ hcode
          refine aC (rodd_call (st.slc s59) (st.rowAll 0 rfl (by simp)) (hb.take _) hbm (by omega) (by omega)) fun v61 H22 ⟨f61, b61, hv, st1, hod61⟩ => ?_
          subst hv
          replace st := st.call st1 rfl
          clear st1
          have hP : POdd xs f61 b61 := fun _ _ => hod61
          refine aN rfl rfl (by constructor) ?_
          refine aN rfl rfl (by constructor) ?_
          refine aN rfl rfl (by constructor) ?_
          refine aN rfl rfl (by constructor) ?_
          refine aN rfl rfl (by constructor) ?_
          refine sE ?_
          show AWl _ _ _ _ _
          refine aN rfl rfl (by constructor) ?_
          refine aN rfl rfl (by constructor) ?_
          refine sE ?_
          show AW _ (.cond _ _ _) _ _ _
          refine cC' rfl (fun h23 => ?_) (fun h23 => ?_)
          · have h23q := h23; try simp only [decide_eq_true_eq, decide_eq_false_iff_not, beq_iff_eq, beq_eq_false_iff_ne, bne_iff_ne, bne_eq_false_iff_eq, ne_eq, Decidable.not_not, Bool.not_eq_true, Bool.not_eq_false, gt_iff_lt, ge_iff_le, Int.not_lt, Int.not_le] at h23q
            have h4 : (f61 ≥ 0) := by have := h23q; omega
            show AWp _ _ _ _ _
            refine aLdA st 3 rfl rfl (by first | decide | simp [*]) (by repeat constructor) ?_
            refine aN rfl rfl (by constructor) ?_
            refine aN rfl rfl (by constructor) ?_
            refine ⟨?_, trivial⟩
            refine aC (rfault_call) fun v69 H24 ⟨hv, st1⟩ => ?_
            subst hv
            replace st := st.call st1 rfl
            clear st1
            refine ⟨⟨(h_LdA st 3 rfl rfl (by first | decide | simp [*]) (by repeat constructor)), trivial⟩, ?_⟩
            refine ⟨?_, trivial⟩
            refine aSt st 1 rfl rfl rfl rfl (by first | rfl | simp [cellsOf, *]) (by first | decide | simp [*]) (by repeat constructor) fun H25 st => ?_
            refine ⟨trivial, ?_⟩
            refine ⟨?_, trivial⟩
            refine aSt st 2 rfl rfl rfl rfl (by first | rfl | simp [cellsOf, *]) (by first | decide | simp [*]) (by repeat constructor) fun H26 st => ?_
            refine ⟨trivial, ?_⟩
            refine aN rfl rfl (by constructor) ?_
            refine pE ?_
            refine ⟨_, out3 (r_cellA st 1 rfl rfl (by first | decide | simp [*]) (by repeat constructor)) (r_cellA st 2 rfl rfl (by first | decide | simp [*]) (by repeat constructor)) (r_tmp rfl (by constructor)) ⟨rfl, rfl, rfl⟩, ?_⟩
            exact ⟨f61, b61, by rw [pm5 h0 h1 h2 h3 h4]; rfl, st.drop, hP⟩
          · have h23q := h23; try simp only [decide_eq_true_eq, decide_eq_false_iff_not, beq_iff_eq, beq_eq_false_iff_ne, bne_iff_ne, bne_eq_false_iff_eq, ne_eq, Decidable.not_not, Bool.not_eq_true, Bool.not_eq_false, gt_iff_lt, ge_iff_le, Int.not_lt, Int.not_le] at h23q
            have h4 : ¬ (f61 ≥ 0) := by have := h23q; omega
            show AWl _ _ _ _ _
            refine aN rfl rfl (by constructor) ?_
            refine aN rfl rfl (by constructor) ?_
            refine sE ?_
            show AW _ (.cond _ _ _) _ _ _
            refine cC' rfl (fun h27 => ?_) (fun h27 => ?_)
            · have h27q := h27; try simp only [decide_eq_true_eq, decide_eq_false_iff_not, beq_iff_eq, beq_eq_false_iff_ne, bne_iff_ne, bne_eq_false_iff_eq, ne_eq, Decidable.not_not, Bool.not_eq_true, Bool.not_eq_false, gt_iff_lt, ge_iff_le, Int.not_lt, Int.not_le] at h27q
              have h27n : serveB (xs.getD 0 0) (svOf xs) = false := by simpa using h27
              have h5 : serveB (xs.getD 0 0) (svOf xs) = false := by simpa using h27
              show AWp _ _ _ _ _
              refine aLdA st 3 rfl rfl (by first | decide | simp [*]) (by repeat constructor) ?_
              refine ⟨?_, trivial⟩
              refine aC (rfault_call) fun v73 H28 ⟨hv, st1⟩ => ?_
              subst hv
              replace st := st.call st1 rfl
              clear st1
              refine ⟨⟨(h_LdA st 3 rfl rfl (by first | decide | simp [*]) (by repeat constructor)), trivial⟩, ?_⟩
              refine ⟨?_, trivial⟩
              refine aSt st 1 rfl rfl rfl rfl (by first | rfl | simp [cellsOf, *]) (by first | decide | simp [*]) (by repeat constructor) fun H29 st => ?_
              refine ⟨trivial, ?_⟩
              refine ⟨?_, trivial⟩
              refine aSt st 2 rfl rfl rfl rfl (by first | rfl | simp [cellsOf, *]) (by first | decide | simp [*]) (by repeat constructor) fun H30 st => ?_
              refine ⟨trivial, ?_⟩
              refine aN rfl rfl (by constructor) ?_
              refine pE ?_
              refine ⟨_, out3 (r_cellA st 1 rfl rfl (by first | decide | simp [*]) (by repeat constructor)) (r_cellA st 2 rfl rfl (by first | decide | simp [*]) (by repeat constructor)) (r_tmp rfl (by constructor)) ⟨rfl, rfl, rfl⟩, ?_⟩
              exact ⟨f61, b61, by rw [pm6 h0 h1 h2 h3 h4 h5]; rfl, st.drop, hP⟩
            · have h27q := h27; try simp only [decide_eq_true_eq, decide_eq_false_iff_not, beq_iff_eq, beq_eq_false_iff_ne, bne_iff_ne, bne_eq_false_iff_eq, ne_eq, Decidable.not_not, Bool.not_eq_true, Bool.not_eq_false, gt_iff_lt, ge_iff_le, Int.not_lt, Int.not_le] at h27q
              have h27n : serveB (xs.getD 0 0) (svOf xs) = true := by simpa using h27
              have h5 : serveB (xs.getD 0 0) (svOf xs) = true := by simpa using h27
              show AWl _ _ _ _ _
              refine aMovV x rfl ?_
              refine aN rfl rfl (by constructor) ?_
              refine aCutH (st.slc hx) rfl rfl (by omega) fun v77 s77 => ?_
              replace s77 := s77 _ hx
              replace s77 : Sl H 1 (xs.take (useL (xs.getD 0 0)).length).length ((xs.take (useL (xs.getD 0 0)).length).map (Value.int .u8)) v77 := by rw [hlt]; exact s77
              refine aN rfl rfl (by constructor) ?_
              have hop : (xs.take (useL (xs.getD 0 0)).length).getD 0 0 = (xs.getD 0 0) := take_get0 (by have h9 := congrArg List.length eR; simp only [List.length_cons] at h9; omega)
              refine aC (told_call (xs := xs.take (useL (xs.getD 0 0)).length) hcode (by have s9 := st.slc s77; rw [hlt] at s9; exact s9) (hb.take _) hlt hop (hod61.no h4)) fun v79 H31 ⟨hv, st1⟩ => ?_
              subst hv
              replace st := st.call st1 rfl
              clear st1
              refine aN rfl rfl (by constructor) ?_
              refine aN rfl rfl (by constructor) ?_
              refine aN rfl rfl (by constructor) ?_
              refine aN rfl rfl (by constructor) ?_
              refine aNewP st rfl rfl (by repeat constructor) fun b13 H32 st => ?_
              refine aSt st 0 rfl rfl rfl rfl (by first | rfl | simp [cellsOf, *]) (by first | decide | simp [*]) (by repeat constructor) fun H33 st => ?_
              refine aN rfl rfl (by constructor) ?_
              refine aN rfl rfl (by constructor) ?_
              refine sE ?_
              show AWl _ _ _ _ _
              refine aN rfl rfl (by constructor) ?_
              refine aN rfl rfl (by constructor) ?_
              refine sE ?_
              show AW _ (.cond _ _ _) _ _ _
              refine cC' rfl (fun h34 => ?_) (fun h34 => ?_)
              · have h34q := h34; try simp only [decide_eq_true_eq, decide_eq_false_iff_not, beq_iff_eq, beq_eq_false_iff_ne, bne_iff_ne, bne_eq_false_iff_eq, ne_eq, Decidable.not_not, Bool.not_eq_true, Bool.not_eq_false, gt_iff_lt, ge_iff_le, Int.not_lt, Int.not_le] at h34q
                have h6 : ((fillF (kindL (xs.getD 0 0)) (useL (xs.getD 0 0)).length (xs.take (useL (xs.getD 0 0)).length)).1 ≥ 0) := by have := h34q; omega
                show AWp _ _ _ _ _
                refine aLdA st 4 rfl rfl (by first | decide | simp [*]) (by repeat constructor) ?_
                refine aN rfl rfl (by constructor) ?_
                refine aN rfl rfl (by constructor) ?_
                refine ⟨?_, trivial⟩
                refine aC (rfault_call) fun v88 H35 ⟨hv, st1⟩ => ?_
                subst hv
                replace st := st.call st1 rfl
                clear st1
                refine ⟨⟨(h_LdA st 4 rfl rfl (by first | decide | simp [*]) (by repeat constructor)), trivial⟩, ?_⟩
                refine ⟨?_, trivial⟩
                refine aSt st 2 rfl rfl rfl rfl (by first | rfl | simp [cellsOf, *]) (by first | decide | simp [*]) (by repeat constructor) fun H36 st => ?_
                refine ⟨trivial, ?_⟩
                refine ⟨?_, trivial⟩
                refine aSt st 3 rfl rfl rfl rfl (by first | rfl | simp [cellsOf, *]) (by first | decide | simp [*]) (by repeat constructor) fun H37 st => ?_
                refine ⟨trivial, ?_⟩
                refine aN rfl rfl (by constructor) ?_
                refine pE ?_
                refine ⟨_, out3 (r_cellA st 2 rfl rfl (by first | decide | simp [*]) (by repeat constructor)) (r_cellA st 3 rfl rfl (by first | decide | simp [*]) (by repeat constructor)) (r_tmp rfl (by constructor)) ⟨rfl, rfl, rfl⟩, ?_⟩
                exact ⟨f61, b61, by rw [pm7 h0 h1 h2 h3 h4 h5 h6]; rfl, st.drop, hP⟩
              · have h34q := h34; try simp only [decide_eq_true_eq, decide_eq_false_iff_not, beq_iff_eq, beq_eq_false_iff_ne, bne_iff_ne, bne_eq_false_iff_eq, ne_eq, Decidable.not_not, Bool.not_eq_true, Bool.not_eq_false, gt_iff_lt, ge_iff_le, Int.not_lt, Int.not_le] at h34q
                have h6 : ¬ ((fillF (kindL (xs.getD 0 0)) (useL (xs.getD 0 0)).length (xs.take (useL (xs.getD 0 0)).length)).1 ≥ 0) := by have := h34q; omega
                show AWl _ _ _ _ _
                refine aLdA st 0 rfl rfl (by first | decide | simp [*]) (by repeat constructor) ?_
                refine aBld rfl (by repeat constructor) ?_
                refine aSt st 2 rfl rfl rfl rfl (by first | rfl | simp [cellsOf, *]) (by first | decide | simp [*]) (by repeat constructor) fun H38 st => ?_
                refine aSt st 3 rfl rfl rfl rfl (by first | rfl | simp [cellsOf, *]) (by first | decide | simp [*]) (by repeat constructor) fun H39 st => ?_
                refine aN rfl rfl (by constructor) ?_
                refine sE ?_
                refine ⟨_, out3 (r_cellA st 2 rfl rfl (by first | decide | simp [*]) (by repeat constructor)) (r_cellA st 3 rfl rfl (by first | decide | simp [*]) (by repeat constructor)) (r_tmp rfl (by constructor)) ⟨rfl, rfl, rfl⟩, ?_⟩
                exact ⟨f61, b61, by rw [pm8 h0 h1 h2 h3 h4 h5 h6]; rfl, st.drop, hP⟩
end Go.Proofs.Ytlbmfcbcmfcjbaa.Abs
