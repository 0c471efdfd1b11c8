/- Reservations: services of all kinds. -/
import Derived.Test.YtihkghfmihdicaaT5
set_option linter.unusedVariables false
set_option linter.unusedSimpArgs false
set_option maxRecDepth 100000
namespace Go.Proofs.Ytihkghfmihdicaa.Abs
open Go Go.RowKit
theorem do_call {H : Hp} {b : Nat} {ob : Option Nat} {P : PT} {n : Int} {o : POut} (hk : H.m b = some ⟨true, 79, [accV ob P.regs.length 2, .int .u32 P.gen, .int .u8 P.kind, .int .i64 P.holder, .bool P.aptpl]⟩) (hr : ∀ c, ob = some c → H.m c = some ⟨true, 30, (P.regs).flatMap regE⟩) (hr0 : ob = none → P.regs.flatMap regE = []) (hn : P.regs.length ≤ 400) (hob : ob ≠ some b) :
  ACalls Try.prog 15 [.pointer (some ⟨b, 0, none⟩), .int .i64 n, .agg #[.int .u8 o.sv, .int .u8 o.ty, .int .u64 o.key, .int .u64 o.act, .bool o.ap]] H (fun v H' => ∃ ob' oe, v = .tuple #[.int .u8 (doM P n o).st, .int .u16 (doM P n o).code, accV oe (doM P n o).ev.length 2] ∧ ((ob' = ob ∧ ((doM P n o).tab).regs = P.regs ∧ Stt [b] H H' [⟨some b, true, ⟨true, 79, [accV ob' ((doM P n o).tab).regs.length 2, .int .u32 ((doM P n o).tab).gen, .int .u8 ((doM P n o).tab).kind, .int .i64 ((doM P n o).tab).holder, .bool ((doM P n o).tab).aptpl]⟩⟩, ⟨oe, true, ⟨true, 43, ((doM P n o).ev).flatMap evE⟩⟩]) ∨ Stt [b] H H' [⟨some b, true, ⟨true, 79, [accV ob' ((doM P n o).tab).regs.length 2, .int .u32 ((doM P n o).tab).gen, .int .u8 ((doM P n o).tab).kind, .int .i64 ((doM P n o).tab).holder, .bool ((doM P n o).tab).aptpl]⟩⟩, ⟨ob', true, ⟨true, 30, (((doM P n o).tab).regs).flatMap regE⟩⟩, ⟨oe, true, ⟨true, 43, ((doM P n o).ev).flatMap evE⟩⟩])) := by
 refine acallsW Try.func15 f15_ok (Nat.le_of_ble_eq_true rfl) fun hw => ?_
 have st : Stt [b] H H [] := Stt.start hw
 replace st := st.mine hk rfl (by simp) (by simp)
 replace st := st.roA hr hr0 (fun c hc p hp => by rw [List.mem_singleton.1 hp]; intro e; exact hob (hc.trans e.symm))
 unfold f15c
 show AWl _ _ _ _ _
 refine aBoxN st rfl rfl (by repeat constructor) rfl fun b5 H1 st => ?_
 iterate 3 refine aN rfl rfl (by constructor) ?_
 refine sE ?_
 show AWl _ _ _ _ _
 refine aN rfl rfl (by constructor) ?_
 refine aBinV (.bool false) rfl rfl rfl ?_
 refine aN rfl rfl (by constructor) ?_
 refine gT rfl ?_
 refine aN rfl rfl (by constructor) ?_
 refine gT rfl ?_
 iterate 3 refine aN rfl rfl (by constructor) ?_
 refine gCase 17 rfl (fun h2 => ?_) (fun h2 => ?_)
 ·have h2q := h2; try simp only [decide_eq_true_eq, decide_eq_false_iff_not, beq_iff_eq, beq_eq_false_iff_ne, bne_iff_ne, bne_eq_false_iff_eq, ne_eq, Decidable.not_not, Bool.not_eq_true, Bool.not_eq_false, gt_iff_lt, ge_iff_le, Int.not_lt, Int.not_le] at h2q
  refine gF rfl (by decide) ?_
  refine gF rfl (by decide) ?_
  iterate 2 refine aN rfl rfl (by constructor) ?_
  refine gF rfl (by decide) ?_
  refine gF rfl (by decide) ?_
  refine gF rfl (by decide) ?_
  refine aN rfl rfl (by constructor) ?_
  refine sE ?_
  show AW _ (.cond _ _ _) _ _ _
  refine cT rfl ?_
  show AWl _ _ _ _ _
  iterate 3 refine aN rfl rfl (by constructor) ?_
  refine sE ?_
  refine ⟨_, out3 (r_tmp rfl (by constructor)) (r_tmp rfl (by constructor)) (r_tmp rfl (by constructor)) ⟨rfl, rfl, rfl⟩, ?_⟩
  have hr25 : n < 0 ∨ n ≥ 8 ∨ o.sv > 6 := by omega
  have st := st.nil 43
  have hM : doM P n o = ⟨2, 9216, [], P⟩ := by unfold doM; rw [if_pos hr25]
  rw [hM]
  exact ⟨ob, none, rfl, .inl ⟨rfl, rfl, st.sel [3, 0] (by decide)⟩⟩
 ·have h2q := h2; try simp only [decide_eq_true_eq, decide_eq_false_iff_not, beq_iff_eq, beq_eq_false_iff_ne, bne_iff_ne, bne_eq_false_iff_eq, ne_eq, Decidable.not_not, Bool.not_eq_true, Bool.not_eq_false, gt_iff_lt, ge_iff_le, Int.not_lt, Int.not_le] at h2q
  refine gT rfl ?_
  refine aN rfl rfl (by constructor) ?_
  refine gT rfl ?_
  iterate 3 refine aN rfl rfl (by constructor) ?_
  refine gCase 21 rfl (fun h3 => ?_) (fun h3 => ?_)
  ·have h3q := h3; try simp only [decide_eq_true_eq, decide_eq_false_iff_not, beq_iff_eq, beq_eq_false_iff_ne, bne_iff_ne, bne_eq_false_iff_eq, ne_eq, Decidable.not_not, Bool.not_eq_true, Bool.not_eq_false, gt_iff_lt, ge_iff_le, Int.not_lt, Int.not_le] at h3q
   refine gF rfl (by decide) ?_
   refine gF rfl (by decide) ?_
   refine gF rfl (by decide) ?_
   refine aN rfl rfl (by constructor) ?_
   refine sE ?_
   show AW _ (.cond _ _ _) _ _ _
   refine cT rfl ?_
   show AWl _ _ _ _ _
   iterate 3 refine aN rfl rfl (by constructor) ?_
   refine sE ?_
   refine ⟨_, out3 (r_tmp rfl (by constructor)) (r_tmp rfl (by constructor)) (r_tmp rfl (by constructor)) ⟨rfl, rfl, rfl⟩, ?_⟩
   have hr25 : n < 0 ∨ n ≥ 8 ∨ o.sv > 6 := by omega
   have st := st.nil 43
   have hM : doM P n o = ⟨2, 9216, [], P⟩ := by unfold doM; rw [if_pos hr25]
   rw [hM]
   exact ⟨ob, none, rfl, .inl ⟨rfl, rfl, st.sel [3, 0] (by decide)⟩⟩
  ·have h3q := h3; try simp only [decide_eq_true_eq, decide_eq_false_iff_not, beq_iff_eq, beq_eq_false_iff_ne, bne_iff_ne, bne_eq_false_iff_eq, ne_eq, Decidable.not_not, Bool.not_eq_true, Bool.not_eq_false, gt_iff_lt, ge_iff_le, Int.not_lt, Int.not_le] at h3q
   refine gT rfl ?_
   refine aN rfl rfl (by constructor) ?_
   refine gT rfl ?_
   refine aLd st 0 rfl rfl rfl (by constructor) ?_
   refine gT rfl ?_
   iterate 2 refine aN rfl rfl (by constructor) ?_
   refine sE ?_
   show AW _ (.cond _ _ _) _ _ _
   refine cC' rfl (fun h4 => ?_) (fun h4 => ?_)
   ·have h4q := h4; try simp only [decide_eq_true_eq, decide_eq_false_iff_not, beq_iff_eq, beq_eq_false_iff_ne, bne_iff_ne, bne_eq_false_iff_eq, ne_eq, Decidable.not_not, Bool.not_eq_true, Bool.not_eq_false, gt_iff_lt, ge_iff_le, Int.not_lt, Int.not_le] at h4q
    show AWl _ _ _ _ _
    iterate 3 refine aN rfl rfl (by constructor) ?_
    refine sE ?_
    refine ⟨_, out3 (r_tmp rfl (by constructor)) (r_tmp rfl (by constructor)) (r_tmp rfl (by constructor)) ⟨rfl, rfl, rfl⟩, ?_⟩
    have hr25 : n < 0 ∨ n ≥ 8 ∨ o.sv > 6 := by omega
    have st := st.nil 43
    have hM : doM P n o = ⟨2, 9216, [], P⟩ := by unfold doM; rw [if_pos hr25]
    rw [hM]
    exact ⟨ob, none, rfl, .inl ⟨rfl, rfl, st.sel [3, 0] (by decide)⟩⟩
   ·have h4q := h4; try simp only [decide_eq_true_eq, decide_eq_false_iff_not, beq_iff_eq, beq_eq_false_iff_ne, bne_iff_ne, bne_eq_false_iff_eq, ne_eq, Decidable.not_not, Bool.not_eq_true, Bool.not_eq_false, gt_iff_lt, ge_iff_le, Int.not_lt, Int.not_le] at h4q
    show AWl _ _ _ _ _
    have hr25 : ¬ (n < 0 ∨ n ≥ 8 ∨ o.sv > 6) := by omega
    iterate 2 refine aN rfl rfl (by constructor) ?_
    refine aC (key_call (P := P) (n := n) (st.get (j := 2) rfl) (st.rowAcc 1 rfl (by decide) (flat_len' regE_len _)) (by omega)) fun v29 H5 ⟨hv, st1⟩ => ?_
    subst hv
    replace st := st.call st1 rfl
    clear st1
    iterate 5 refine aN rfl rfl (by constructor) ?_
    refine sE ?_
    show AWl _ _ _ _ _
    refine aN rfl rfl (by constructor) ?_
    refine aLd st 0 rfl rfl rfl (by constructor) ?_
    refine sE ?_
    show AWl _ _ _ _ _
    iterate 2 refine aN rfl rfl (by constructor) ?_
    refine sE ?_
    show AW _ (.cond _ _ _) _ _ _
    refine cC' rfl (fun h6 => ?_) (fun h6 => ?_)
    ·have h6q := h6; try simp only [decide_eq_true_eq, decide_eq_false_iff_not, beq_iff_eq, beq_eq_false_iff_ne, bne_iff_ne, bne_eq_false_iff_eq, ne_eq, Decidable.not_not, Bool.not_eq_true, Bool.not_eq_false, gt_iff_lt, ge_iff_le, Int.not_lt, Int.not_le] at h6q
     have hs34 : o.sv = 6 := by simpa using h6
     show AWl _ _ _ _ _
     iterate 2 refine aN rfl rfl (by constructor) ?_
     refine aLdA st 0 rfl rfl (by first | decide | simp [*]) (by repeat constructor) ?_
     refine aN rfl rfl (by constructor) ?_
     refine aC (register_call (P := P) (n := n) (o := o) (known := (keyM P.regs n).2) (st.get (j := 2) rfl) (st.got 1 rfl).1 (st.got 1 rfl).2 (by omega) (st.ne 1 2 rfl rfl (by decide))) fun v40 H7 ⟨o40, e40, hv, hc40⟩ => ?_
     subst hv
     rcases hc40 with ⟨q1, q2, st1⟩ | st1
     ·subst q1
      replace st := st.callX 2 rfl st1 rfl
      iterate 2 refine aN rfl rfl (by constructor) ?_
      refine aMovA rfl ?_
      refine sE ?_
      refine ⟨_, out3 (r_tmp rfl (by constructor)) (r_tmp rfl (by constructor)) (r_acc rfl) ⟨rfl, rfl, notTup_acc⟩, ?_⟩
      have hM : doM P n o = ⟨0, 0, registerE P n o (keyM P.regs n).2, registerP P n o (keyM P.regs n).2⟩ := by unfold doM; rw [if_neg hr25, if_pos hs34]
      rw [hM]
      exact ⟨o40, e40, rfl, .inl ⟨rfl, q2, st.sel [0, 1] (by decide)⟩⟩
     ·replace st := st.callX 2 rfl st1 rfl
      iterate 2 refine aN rfl rfl (by constructor) ?_
      refine aMovA rfl ?_
      refine sE ?_
      refine ⟨_, out3 (r_tmp rfl (by constructor)) (r_tmp rfl (by constructor)) (r_acc rfl) ⟨rfl, rfl, notTup_acc⟩, ?_⟩
      have hM : doM P n o = ⟨0, 0, registerE P n o (keyM P.regs n).2, registerP P n o (keyM P.regs n).2⟩ := by unfold doM; rw [if_neg hr25, if_pos hs34]
      rw [hM]
      exact ⟨o40, e40, rfl, .inr (st.sel [0, 1, 2] (by decide))⟩
    ·have h6q := h6; try simp only [decide_eq_true_eq, decide_eq_false_iff_not, beq_iff_eq, beq_eq_false_iff_ne, bne_iff_ne, bne_eq_false_iff_eq, ne_eq, Decidable.not_not, Bool.not_eq_true, Bool.not_eq_false, gt_iff_lt, ge_iff_le, Int.not_lt, Int.not_le] at h6q
     have hs34 : ¬ o.sv = 6 := by simpa using h6
     show AWl _ _ _ _ _
     iterate 2 refine aN rfl rfl (by constructor) ?_
     refine sE ?_
     show AW _ (.cond _ _ _) _ _ _
     refine cC' rfl (fun h8 => ?_) (fun h8 => ?_)
     ·have h8q := h8; try simp only [decide_eq_true_eq, decide_eq_false_iff_not, beq_iff_eq, beq_eq_false_iff_ne, bne_iff_ne, bne_eq_false_iff_eq, ne_eq, Decidable.not_not, Bool.not_eq_true, Bool.not_eq_false, gt_iff_lt, ge_iff_le, Int.not_lt, Int.not_le] at h8q
      have hs41 : o.sv = 0 := by simpa using h8
      show AWl _ _ _ _ _
      refine aN rfl rfl (by constructor) ?_
      refine aLd st 0 rfl rfl rfl (by constructor) ?_
      iterate 2 refine aN rfl rfl (by constructor) ?_
      refine sE ?_
      show AW _ (.cond _ _ _) _ _ _
      refine cC' rfl (fun h9 => ?_) (fun h9 => ?_)
      ·have h9q := h9; try simp only [decide_eq_true_eq, decide_eq_false_iff_not, beq_iff_eq, beq_eq_false_iff_ne, bne_iff_ne, bne_eq_false_iff_eq, ne_eq, Decidable.not_not, Bool.not_eq_true, Bool.not_eq_false, gt_iff_lt, ge_iff_le, Int.not_lt, Int.not_le] at h9q
       have hk46 : (o.key ≠ (keyM P.regs n).1) := by simpa using h9
       show AWl _ _ _ _ _
       iterate 3 refine aN rfl rfl (by constructor) ?_
       refine sE ?_
       refine ⟨_, out3 (r_tmp rfl (by constructor)) (r_tmp rfl (by constructor)) (r_tmp rfl (by constructor)) ⟨rfl, rfl, rfl⟩, ?_⟩
       have st := st.nil 43
       have hM : doM P n o = ⟨24, 0, [], P⟩ := by unfold doM; rw [if_neg hr25, if_neg hs34, if_pos hs41, if_pos hk46]
       rw [hM]
       exact ⟨ob, none, rfl, .inl ⟨rfl, rfl, st.sel [3, 0] (by decide)⟩⟩
      ·have h9q := h9; try simp only [decide_eq_true_eq, decide_eq_false_iff_not, beq_iff_eq, beq_eq_false_iff_ne, bne_iff_ne, bne_eq_false_iff_eq, ne_eq, Decidable.not_not, Bool.not_eq_true, Bool.not_eq_false, gt_iff_lt, ge_iff_le, Int.not_lt, Int.not_le] at h9q
       have hk46 : ¬ (o.key ≠ (keyM P.regs n).1) := by simpa using h9
       show AWl _ _ _ _ _
       iterate 2 refine aN rfl rfl (by constructor) ?_
       refine aLdA st 0 rfl rfl (by first | decide | simp [*]) (by repeat constructor) ?_
       refine aN rfl rfl (by constructor) ?_
       refine aC (register_call (P := P) (n := n) (o := o) (known := (keyM P.regs n).2) (st.get (j := 2) rfl) (st.got 1 rfl).1 (st.got 1 rfl).2 (by omega) (st.ne 1 2 rfl rfl (by decide))) fun v51 H10 ⟨o51, e51, hv, hc51⟩ => ?_
       subst hv
       rcases hc51 with ⟨q1, q2, st1⟩ | st1
       ·subst q1
        replace st := st.callX 2 rfl st1 rfl
        iterate 2 refine aN rfl rfl (by constructor) ?_
        refine aMovA rfl ?_
        refine sE ?_
        refine ⟨_, out3 (r_tmp rfl (by constructor)) (r_tmp rfl (by constructor)) (r_acc rfl) ⟨rfl, rfl, notTup_acc⟩, ?_⟩
        have hM : doM P n o = ⟨0, 0, registerE P n o (keyM P.regs n).2, registerP P n o (keyM P.regs n).2⟩ := by unfold doM; rw [if_neg hr25, if_neg hs34, if_pos hs41, if_neg hk46]
        rw [hM]
        exact ⟨o51, e51, rfl, .inl ⟨rfl, q2, st.sel [0, 1] (by decide)⟩⟩
       ·replace st := st.callX 2 rfl st1 rfl
        iterate 2 refine aN rfl rfl (by constructor) ?_
        refine aMovA rfl ?_
        refine sE ?_
        refine ⟨_, out3 (r_tmp rfl (by constructor)) (r_tmp rfl (by constructor)) (r_acc rfl) ⟨rfl, rfl, notTup_acc⟩, ?_⟩
        have hM : doM P n o = ⟨0, 0, registerE P n o (keyM P.regs n).2, registerP P n o (keyM P.regs n).2⟩ := by unfold doM; rw [if_neg hr25, if_neg hs34, if_pos hs41, if_neg hk46]
        rw [hM]
        exact ⟨o51, e51, rfl, .inr (st.sel [0, 1, 2] (by decide))⟩
     ·have h8q := h8; try simp only [decide_eq_true_eq, decide_eq_false_iff_not, beq_iff_eq, beq_eq_false_iff_ne, bne_iff_ne, bne_eq_false_iff_eq, ne_eq, Decidable.not_not, Bool.not_eq_true, Bool.not_eq_false, gt_iff_lt, ge_iff_le, Int.not_lt, Int.not_le] at h8q
      have hs41 : ¬ o.sv = 0 := by simpa using h8
      show AWl _ _ _ _ _
      iterate 3 refine aN rfl rfl (by constructor) ?_
      refine gCase 54 rfl (fun h11 => ?_) (fun h11 => ?_)
      ·have h11q := h11; try simp only [decide_eq_true_eq, decide_eq_false_iff_not, beq_iff_eq, beq_eq_false_iff_ne, bne_iff_ne, bne_eq_false_iff_eq, ne_eq, Decidable.not_not, Bool.not_eq_true, Bool.not_eq_false, gt_iff_lt, ge_iff_le, Int.not_lt, Int.not_le] at h11q
       have h11n : (keyM P.regs n).2 = false := Eq.mp (Bool.not_eq_true' _) h11
       refine gF rfl (by decide) ?_
       refine gF rfl (by decide) ?_
       refine gF rfl (by decide) ?_
       refine gF rfl (by decide) ?_
       refine aN rfl rfl (by constructor) ?_
       refine sE ?_
       show AW _ (.cond _ _ _) _ _ _
       refine cT rfl ?_
       show AWl _ _ _ _ _
       iterate 3 refine aN rfl rfl (by constructor) ?_
       refine sE ?_
       refine ⟨_, out3 (r_tmp rfl (by constructor)) (r_tmp rfl (by constructor)) (r_tmp rfl (by constructor)) ⟨rfl, rfl, rfl⟩, ?_⟩
       have hk59 : (keyM P.regs n).2 = false ∨ o.key ≠ (keyM P.regs n).1 := by simp_all
       have st := st.nil 43
       have hM : doM P n o = ⟨24, 0, [], P⟩ := by unfold doM; rw [if_neg hr25, if_neg hs34, if_neg hs41, if_pos hk59]
       rw [hM]
       exact ⟨ob, none, rfl, .inl ⟨rfl, rfl, st.sel [3, 0] (by decide)⟩⟩
      ·have h11q := h11; try simp only [decide_eq_true_eq, decide_eq_false_iff_not, beq_iff_eq, beq_eq_false_iff_ne, bne_iff_ne, bne_eq_false_iff_eq, ne_eq, Decidable.not_not, Bool.not_eq_true, Bool.not_eq_false, gt_iff_lt, ge_iff_le, Int.not_lt, Int.not_le] at h11q
       have h11n : (keyM P.regs n).2 = true := Eq.mp (Bool.not_eq_false' _) h11
       refine gT rfl ?_
       refine aN rfl rfl (by constructor) ?_
       refine gT rfl ?_
       refine aLd st 0 rfl rfl rfl (by constructor) ?_
       refine gT rfl ?_
       refine aN rfl rfl (by constructor) ?_
       refine gT rfl ?_
       iterate 2 refine aN rfl rfl (by constructor) ?_
       refine sE ?_
       show AW _ (.cond _ _ _) _ _ _
       refine cC' rfl (fun h12 => ?_) (fun h12 => ?_)
       ·have h12q := h12; try simp only [decide_eq_true_eq, decide_eq_false_iff_not, beq_iff_eq, beq_eq_false_iff_ne, bne_iff_ne, bne_eq_false_iff_eq, ne_eq, Decidable.not_not, Bool.not_eq_true, Bool.not_eq_false, gt_iff_lt, ge_iff_le, Int.not_lt, Int.not_le] at h12q
        show AWl _ _ _ _ _
        iterate 3 refine aN rfl rfl (by constructor) ?_
        refine sE ?_
        refine ⟨_, out3 (r_tmp rfl (by constructor)) (r_tmp rfl (by constructor)) (r_tmp rfl (by constructor)) ⟨rfl, rfl, rfl⟩, ?_⟩
        have hk59 : (keyM P.regs n).2 = false ∨ o.key ≠ (keyM P.regs n).1 := by simp_all
        have st := st.nil 43
        have hM : doM P n o = ⟨24, 0, [], P⟩ := by unfold doM; rw [if_neg hr25, if_neg hs34, if_neg hs41, if_pos hk59]
        rw [hM]
        exact ⟨ob, none, rfl, .inl ⟨rfl, rfl, st.sel [3, 0] (by decide)⟩⟩
       ·have h12q := h12; try simp only [decide_eq_true_eq, decide_eq_false_iff_not, beq_iff_eq, beq_eq_false_iff_ne, bne_iff_ne, bne_eq_false_iff_eq, ne_eq, Decidable.not_not, Bool.not_eq_true, Bool.not_eq_false, gt_iff_lt, ge_iff_le, Int.not_lt, Int.not_le] at h12q
        show AWl _ _ _ _ _
        have hk59 : ¬ ((keyM P.regs n).2 = false ∨ o.key ≠ (keyM P.regs n).1) := by simp_all
        refine aN rfl rfl (by constructor) ?_
        refine aLd st 0 rfl rfl rfl (by constructor) ?_
        refine sE ?_
        show AWl _ _ _ _ _
        iterate 2 refine aN rfl rfl (by constructor) ?_
        refine sE ?_
        show AW _ (.cond _ _ _) _ _ _
        refine cC' rfl (fun h13 => ?_) (fun h13 => ?_)
        ·have h13q := h13; try simp only [decide_eq_true_eq, decide_eq_false_iff_not, beq_iff_eq, beq_eq_false_iff_ne, bne_iff_ne, bne_eq_false_iff_eq, ne_eq, Decidable.not_not, Bool.not_eq_true, Bool.not_eq_false, gt_iff_lt, ge_iff_le, Int.not_lt, Int.not_le] at h13q
         have hs62 : o.sv = 1 := by simpa using h13
         show AWl _ _ _ _ _
         iterate 2 refine aN rfl rfl (by constructor) ?_
         refine aLdA st 0 rfl rfl (by first | decide | simp [*]) (by repeat constructor) ?_
         refine aC (reserve_call (P := P) (n := n) (o := o) (st.get (j := 2) rfl) (st.got 1 rfl).1 (st.got 1 rfl).2 (by omega) (st.ne 1 2 rfl rfl (by decide))) fun v67 H14 ⟨o67, e67, hv, hc67⟩ => ?_
         subst hv
         rcases hc67 with ⟨q1, q2, st1⟩ | st1
         ·subst q1
          replace st := st.callX 2 rfl st1 rfl
          iterate 2 refine aN rfl rfl (by constructor) ?_
          refine aExtA rfl rfl ?_
          iterate 2 refine aN rfl rfl (by constructor) ?_
          refine aMovA rfl ?_
          refine sE ?_
          refine ⟨_, out3 (r_tmp rfl (by constructor)) (r_tmp rfl (by constructor)) (r_acc rfl) ⟨rfl, rfl, notTup_acc⟩, ?_⟩
          have hM : doM P n o = reserveM P n o := by unfold doM; rw [if_neg hr25, if_neg hs34, if_neg hs41, if_neg hk59, if_pos hs62]
          rw [hM]
          exact ⟨o67, e67, rfl, .inl ⟨rfl, q2, st.sel [0, 1] (by decide)⟩⟩
         ·replace st := st.callX 2 rfl st1 rfl
          iterate 2 refine aN rfl rfl (by constructor) ?_
          refine aExtA rfl rfl ?_
          iterate 2 refine aN rfl rfl (by constructor) ?_
          refine aMovA rfl ?_
          refine sE ?_
          refine ⟨_, out3 (r_tmp rfl (by constructor)) (r_tmp rfl (by constructor)) (r_acc rfl) ⟨rfl, rfl, notTup_acc⟩, ?_⟩
          have hM : doM P n o = reserveM P n o := by unfold doM; rw [if_neg hr25, if_neg hs34, if_neg hs41, if_neg hk59, if_pos hs62]
          rw [hM]
          exact ⟨o67, e67, rfl, .inr (st.sel [0, 1, 2] (by decide))⟩
        ·have h13q := h13; try simp only [decide_eq_true_eq, decide_eq_false_iff_not, beq_iff_eq, beq_eq_false_iff_ne, bne_iff_ne, bne_eq_false_iff_eq, ne_eq, Decidable.not_not, Bool.not_eq_true, Bool.not_eq_false, gt_iff_lt, ge_iff_le, Int.not_lt, Int.not_le] at h13q
         have hs62 : ¬ o.sv = 1 := by simpa using h13
         show AWl _ _ _ _ _
         iterate 2 refine aN rfl rfl (by constructor) ?_
         refine sE ?_
         show AW _ (.cond _ _ _) _ _ _
         refine cC' rfl (fun h15 => ?_) (fun h15 => ?_)
         ·have h15q := h15; try simp only [decide_eq_true_eq, decide_eq_false_iff_not, beq_iff_eq, beq_eq_false_iff_ne, bne_iff_ne, bne_eq_false_iff_eq, ne_eq, Decidable.not_not, Bool.not_eq_true, Bool.not_eq_false, gt_iff_lt, ge_iff_le, Int.not_lt, Int.not_le] at h15q
          have hs71 : o.sv = 2 := by simpa using h15
          show AWl _ _ _ _ _
          iterate 2 refine aN rfl rfl (by constructor) ?_
          refine aLdA st 0 rfl rfl (by first | decide | simp [*]) (by repeat constructor) ?_
          refine aC (release_call (P := P) (n := n) (o := o) (st.get (j := 2) rfl) (st.got 1 rfl).1 (st.got 1 rfl).2 (by omega) (st.ne 1 2 rfl rfl (by decide))) fun v76 H16 ⟨o76, e76, hv, hc76⟩ => ?_
          subst hv
          rcases hc76 with ⟨q1, q2, st1⟩ | st1
          ·subst q1
           replace st := st.callX 2 rfl st1 rfl
           iterate 2 refine aN rfl rfl (by constructor) ?_
           refine aExtA rfl rfl ?_
           iterate 2 refine aN rfl rfl (by constructor) ?_
           refine aMovA rfl ?_
           refine sE ?_
           refine ⟨_, out3 (r_tmp rfl (by constructor)) (r_tmp rfl (by constructor)) (r_acc rfl) ⟨rfl, rfl, notTup_acc⟩, ?_⟩
           have hM : doM P n o = releaseM P n o := by unfold doM; rw [if_neg hr25, if_neg hs34, if_neg hs41, if_neg hk59, if_neg hs62, if_pos hs71]
           rw [hM]
           exact ⟨o76, e76, rfl, .inl ⟨rfl, q2, st.sel [0, 1] (by decide)⟩⟩
          ·replace st := st.callX 2 rfl st1 rfl
           iterate 2 refine aN rfl rfl (by constructor) ?_
           refine aExtA rfl rfl ?_
           iterate 2 refine aN rfl rfl (by constructor) ?_
           refine aMovA rfl ?_
           refine sE ?_
           refine ⟨_, out3 (r_tmp rfl (by constructor)) (r_tmp rfl (by constructor)) (r_acc rfl) ⟨rfl, rfl, notTup_acc⟩, ?_⟩
           have hM : doM P n o = releaseM P n o := by unfold doM; rw [if_neg hr25, if_neg hs34, if_neg hs41, if_neg hk59, if_neg hs62, if_pos hs71]
           rw [hM]
           exact ⟨o76, e76, rfl, .inr (st.sel [0, 1, 2] (by decide))⟩
         ·have h15q := h15; try simp only [decide_eq_true_eq, decide_eq_false_iff_not, beq_iff_eq, beq_eq_false_iff_ne, bne_iff_ne, bne_eq_false_iff_eq, ne_eq, Decidable.not_not, Bool.not_eq_true, Bool.not_eq_false, gt_iff_lt, ge_iff_le, Int.not_lt, Int.not_le] at h15q
          have hs71 : ¬ o.sv = 2 := by simpa using h15
          show AWl _ _ _ _ _
          iterate 2 refine aN rfl rfl (by constructor) ?_
          refine sE ?_
          show AW _ (.cond _ _ _) _ _ _
          refine cC' rfl (fun h17 => ?_) (fun h17 => ?_)
          ·have h17q := h17; try simp only [decide_eq_true_eq, decide_eq_false_iff_not, beq_iff_eq, beq_eq_false_iff_ne, bne_iff_ne, bne_eq_false_iff_eq, ne_eq, Decidable.not_not, Bool.not_eq_true, Bool.not_eq_false, gt_iff_lt, ge_iff_le, Int.not_lt, Int.not_le] at h17q
           have hs80 : o.sv = 3 := by simpa using h17
           show AWl _ _ _ _ _
           iterate 2 refine aN rfl rfl (by constructor) ?_
           refine aC (clear_call (P := P) (n := n) (st.get (j := 2) rfl) (st.got 1 rfl).1 (st.got 1 rfl).2 (by omega) (st.ne 1 2 rfl rfl (by decide))) fun v84 H18 ⟨o84, e84, hv, hc84⟩ => ?_
           subst hv
           rcases hc84 with ⟨q1, q2, st1⟩ | st1
           ·subst q1
            replace st := st.callX 2 rfl st1 rfl
            iterate 2 refine aN rfl rfl (by constructor) ?_
            refine aMovA rfl ?_
            refine sE ?_
            refine ⟨_, out3 (r_tmp rfl (by constructor)) (r_tmp rfl (by constructor)) (r_acc rfl) ⟨rfl, rfl, notTup_acc⟩, ?_⟩
            have hM : doM P n o = ⟨0, 0, clearE P n, clearP P⟩ := by unfold doM; rw [if_neg hr25, if_neg hs34, if_neg hs41, if_neg hk59, if_neg hs62, if_neg hs71, if_pos hs80]
            rw [hM]
            exact ⟨o84, e84, rfl, .inl ⟨rfl, q2, st.sel [0, 1] (by decide)⟩⟩
           ·replace st := st.callX 2 rfl st1 rfl
            iterate 2 refine aN rfl rfl (by constructor) ?_
            refine aMovA rfl ?_
            refine sE ?_
            refine ⟨_, out3 (r_tmp rfl (by constructor)) (r_tmp rfl (by constructor)) (r_acc rfl) ⟨rfl, rfl, notTup_acc⟩, ?_⟩
            have hM : doM P n o = ⟨0, 0, clearE P n, clearP P⟩ := by unfold doM; rw [if_neg hr25, if_neg hs34, if_neg hs41, if_neg hk59, if_neg hs62, if_neg hs71, if_pos hs80]
            rw [hM]
            exact ⟨o84, e84, rfl, .inr (st.sel [0, 1, 2] (by decide))⟩
          ·have h17q := h17; try simp only [decide_eq_true_eq, decide_eq_false_iff_not, beq_iff_eq, beq_eq_false_iff_ne, bne_iff_ne, bne_eq_false_iff_eq, ne_eq, Decidable.not_not, Bool.not_eq_true, Bool.not_eq_false, gt_iff_lt, ge_iff_le, Int.not_lt, Int.not_le] at h17q
           have hs80 : ¬ o.sv = 3 := by simpa using h17
           show AWl _ _ _ _ _
           iterate 2 refine aN rfl rfl (by constructor) ?_
           refine aLdA st 0 rfl rfl (by first | decide | simp [*]) (by repeat constructor) ?_
           refine aC (preempt_call (P := P) (n := n) (o := o) (st.get (j := 2) rfl) (st.got 1 rfl).1 (st.got 1 rfl).2 (by omega) (st.ne 1 2 rfl rfl (by decide))) fun v88 H19 ⟨o88, e88, hv, hc88⟩ => ?_
           subst hv
           rcases hc88 with ⟨q1, q2, st1⟩ | st1
           ·subst q1
            replace st := st.callX 2 rfl st1 rfl
            iterate 2 refine aN rfl rfl (by constructor) ?_
            refine aExtA rfl rfl ?_
            iterate 2 refine aN rfl rfl (by constructor) ?_
            refine aMovA rfl ?_
            refine sE ?_
            refine ⟨_, out3 (r_tmp rfl (by constructor)) (r_tmp rfl (by constructor)) (r_acc rfl) ⟨rfl, rfl, notTup_acc⟩, ?_⟩
            have hM : doM P n o = preemptM P n o := by unfold doM; rw [if_neg hr25, if_neg hs34, if_neg hs41, if_neg hk59, if_neg hs62, if_neg hs71, if_neg hs80]
            rw [hM]
            exact ⟨o88, e88, rfl, .inl ⟨rfl, q2, st.sel [0, 1] (by decide)⟩⟩
           ·replace st := st.callX 2 rfl st1 rfl
            iterate 2 refine aN rfl rfl (by constructor) ?_
            refine aExtA rfl rfl ?_
            iterate 2 refine aN rfl rfl (by constructor) ?_
            refine aMovA rfl ?_
            refine sE ?_
            refine ⟨_, out3 (r_tmp rfl (by constructor)) (r_tmp rfl (by constructor)) (r_acc rfl) ⟨rfl, rfl, notTup_acc⟩, ?_⟩
            have hM : doM P n o = preemptM P n o := by unfold doM; rw [if_neg hr25, if_neg hs34, if_neg hs41, if_neg hk59, if_neg hs62, if_neg hs71, if_neg hs80]
            rw [hM]
            exact ⟨o88, e88, rfl, .inr (st.sel [0, 1, 2] (by decide))⟩
end Go.Proofs.Ytihkghfmihdicaa.Abs
