/- The services of the document. -/
import Derived.Test.YtihkghfmihdicaaX2
set_option linter.unusedVariables false
set_option linter.unusedSimpArgs false
set_option maxRecDepth 100000
namespace Go.Proofs.Ytihkghfmihdicaa.Abs
open Go Go.RowKit
theorem xdo_call {H : Hp} {b : Nat} {X : XT} {n : Int} {o : POut} (hk : H.m b = some ⟨true, 65, k8 X.ks [.int .i64 X.kd, .int .i64 X.hd, .int .u32 X.gen, .bool X.ls]⟩) (hX : XOK X) (ho : 0 ≤ o.act ∧ o.act < 18446744073709551616) (hty : 0 ≤ o.ty ∧ o.ty < 256) :
  ACalls Try.prog 27 [.pointer (some ⟨b, 0, none⟩), .int .i64 n, .agg #[.int .i64 o.sv, .int .i64 o.ty, .int .u64 o.key, .int .u64 o.act, .bool o.ap]] H (fun v H' => ∃ X' oe, v = .tuple #[.int .i64 (doM (xpt X) n o).st, .int .i64 (doM (xpt X) n o).code, accV oe (doM (xpt X) n o).ev.length 2] ∧ XOK X' ∧ xpt X' = (doM (xpt X) n o).tab ∧ Stt [b] H H' [⟨some b, true, ⟨true, 65, k8 X'.ks [.int .i64 X'.kd, .int .i64 X'.hd, .int .u32 X'.gen, .bool X'.ls]⟩⟩, ⟨oe, true, ⟨true, 75, ((doM (xpt X) n o).ev).flatMap ev2E⟩⟩]) := by
 refine acallsW Try.func27 f27_ok (Nat.le_of_ble_eq_true rfl) fun hw => ?_
 have st : Stt [b] H H [] := Stt.start hw
 replace st := st.mine hk rfl (by simp) (by simp)
 unfold f27c
 show AWl _ _ _ _ _
 refine aBoxN st rfl rfl (by repeat constructor) rfl fun b5 H1 st => ?_
 iterate 3 refine aN rfl rfl (by constructor) ?_
 refine sE ?_
 show AWl _ _ _ _ _
 iterate 3 refine aN rfl rfl (by constructor) ?_
 refine gCase 15 rfl (fun h2 => ?_) (fun h2 => ?_)
 ·have h2q := h2; try simp only [decide_eq_true_eq, decide_eq_false_iff_not, beq_iff_eq, beq_eq_false_iff_ne, bne_iff_ne, bne_eq_false_iff_eq, ne_eq, Decidable.not_not, Bool.not_eq_true, Bool.not_eq_false, gt_iff_lt, ge_iff_le, Int.not_lt, Int.not_le] at h2q
  refine gF rfl (by decide) ?_
  refine gF rfl (by decide) ?_
  iterate 2 refine aN rfl rfl (by constructor) ?_
  refine gF rfl (by decide) ?_
  refine gF rfl (by decide) ?_
  refine gF rfl (by decide) ?_
  refine aN rfl rfl (by constructor) ?_
  refine sE ?_
  show AW _ (.cond _ _ _) _ _ _
  refine cT rfl ?_
  show AWl _ _ _ _ _
  iterate 3 refine aN rfl rfl (by constructor) ?_
  refine sE ?_
  refine ⟨_, out3 (r_tmp rfl (by constructor)) (r_tmp rfl (by constructor)) (r_tmp rfl (by constructor)) ⟨rfl, rfl, rfl⟩, ?_⟩
  have st := st.nil 75
  have hM : doM (xpt X) n o = ⟨2, 9216, [], xpt X⟩ := dx1 (by omega)
  rw [hM]
  exact ⟨X, none, rfl, hX, rfl, st.sel [2, 0] (by decide)⟩
 ·have h2q := h2; try simp only [decide_eq_true_eq, decide_eq_false_iff_not, beq_iff_eq, beq_eq_false_iff_ne, bne_iff_ne, bne_eq_false_iff_eq, ne_eq, Decidable.not_not, Bool.not_eq_true, Bool.not_eq_false, gt_iff_lt, ge_iff_le, Int.not_lt, Int.not_le] at h2q
  refine gT rfl ?_
  refine aN rfl rfl (by constructor) ?_
  refine gT rfl ?_
  iterate 3 refine aN rfl rfl (by constructor) ?_
  refine gCase 19 rfl (fun h3 => ?_) (fun h3 => ?_)
  ·have h3q := h3; try simp only [decide_eq_true_eq, decide_eq_false_iff_not, beq_iff_eq, beq_eq_false_iff_ne, bne_iff_ne, bne_eq_false_iff_eq, ne_eq, Decidable.not_not, Bool.not_eq_true, Bool.not_eq_false, gt_iff_lt, ge_iff_le, Int.not_lt, Int.not_le] at h3q
   refine gF rfl (by decide) ?_
   refine gF rfl (by decide) ?_
   refine gF rfl (by decide) ?_
   refine aN rfl rfl (by constructor) ?_
   refine sE ?_
   show AW _ (.cond _ _ _) _ _ _
   refine cT rfl ?_
   show AWl _ _ _ _ _
   iterate 3 refine aN rfl rfl (by constructor) ?_
   refine sE ?_
   refine ⟨_, out3 (r_tmp rfl (by constructor)) (r_tmp rfl (by constructor)) (r_tmp rfl (by constructor)) ⟨rfl, rfl, rfl⟩, ?_⟩
   have st := st.nil 75
   have hM : doM (xpt X) n o = ⟨2, 9216, [], xpt X⟩ := dx1 (by omega)
   rw [hM]
   exact ⟨X, none, rfl, hX, rfl, st.sel [2, 0] (by decide)⟩
  ·have h3q := h3; try simp only [decide_eq_true_eq, decide_eq_false_iff_not, beq_iff_eq, beq_eq_false_iff_ne, bne_iff_ne, bne_eq_false_iff_eq, ne_eq, Decidable.not_not, Bool.not_eq_true, Bool.not_eq_false, gt_iff_lt, ge_iff_le, Int.not_lt, Int.not_le] at h3q
   refine gT rfl ?_
   refine aN rfl rfl (by constructor) ?_
   refine gT rfl ?_
   refine aLd st 0 rfl rfl rfl (by constructor) ?_
   refine gT rfl ?_
   iterate 2 refine aN rfl rfl (by constructor) ?_
   refine sE ?_
   show AW _ (.cond _ _ _) _ _ _
   refine cC' rfl (fun h4 => ?_) (fun h4 => ?_)
   ·have h4q := h4; try simp only [decide_eq_true_eq, decide_eq_false_iff_not, beq_iff_eq, beq_eq_false_iff_ne, bne_iff_ne, bne_eq_false_iff_eq, ne_eq, Decidable.not_not, Bool.not_eq_true, Bool.not_eq_false, gt_iff_lt, ge_iff_le, Int.not_lt, Int.not_le] at h4q
    show AWl _ _ _ _ _
    iterate 3 refine aN rfl rfl (by constructor) ?_
    refine sE ?_
    refine ⟨_, out3 (r_tmp rfl (by constructor)) (r_tmp rfl (by constructor)) (r_tmp rfl (by constructor)) ⟨rfl, rfl, rfl⟩, ?_⟩
    have st := st.nil 75
    have hM : doM (xpt X) n o = ⟨2, 9216, [], xpt X⟩ := dx1 (by omega)
    rw [hM]
    exact ⟨X, none, rfl, hX, rfl, st.sel [2, 0] (by decide)⟩
   ·have h4q := h4; try simp only [decide_eq_true_eq, decide_eq_false_iff_not, beq_iff_eq, beq_eq_false_iff_ne, bne_iff_ne, bne_eq_false_iff_eq, ne_eq, Decidable.not_not, Bool.not_eq_true, Bool.not_eq_false, gt_iff_lt, ge_iff_le, Int.not_lt, Int.not_le] at h4q
    show AWl _ _ _ _ _
    have hs7 : ¬ o.sv > 6 := by omega
    have hn : 0 ≤ n ∧ n < 8 := by omega
    iterate 4 refine aN rfl rfl (by constructor) ?_
    refine aIxA rfl rfl hn ?_
    refine aLd st 1 rfl rfl (k8_at X.ks _ hn) (by constructor) ?_
    refine aN rfl rfl (by constructor) ?_
    refine sE ?_
    show AWl _ _ _ _ _
    refine aN rfl rfl (by constructor) ?_
    refine aLd st 0 rfl rfl rfl (by constructor) ?_
    iterate 2 refine aN rfl rfl (by constructor) ?_
    refine gCase 33 rfl (fun h5 => ?_) (fun h5 => ?_)
    ·have h5q := h5; try simp only [decide_eq_true_eq, decide_eq_false_iff_not, beq_iff_eq, beq_eq_false_iff_ne, bne_iff_ne, bne_eq_false_iff_eq, ne_eq, Decidable.not_not, Bool.not_eq_true, Bool.not_eq_false, gt_iff_lt, ge_iff_le, Int.not_lt, Int.not_le] at h5q
     refine gF rfl (by decide) ?_
     refine gF rfl (by decide) ?_
     refine gF rfl (by decide) ?_
     refine aN rfl rfl (by constructor) ?_
     refine sE ?_
     show AW _ (.cond _ _ _) _ _ _
     refine cT rfl ?_
     refine AW_cutK (b := .seq (.list (⟨some 10, _, _⟩ :: _)) _) (fun t1 H1 => (o.sv = 6 ∨ (o.sv = 0 ∧ o.key = (X.ks.getD n.toNat 0))) ∧ Stt [b] H H1 [⟨some b5, true, ⟨true, 72, [.int .i64 o.sv, .int .i64 o.ty, .int .u64 o.key, .int .u64 o.act, .bool o.ap]⟩⟩, ⟨some b, true, ⟨true, 65, k8 X.ks [.int .i64 X.kd, .int .i64 X.hd, .int .u32 X.gen, .bool X.ls]⟩⟩]) [6, 7, 8, 38, 39, 40, 41, 42, 43, 44, 45, 46] (by decide) ?_ fun t1 H1 hk hI => ?_
     ·show AWl _ _ _ _ _
      refine aN rfl rfl (by constructor) ?_
      refine aLd st 0 rfl rfl rfl (by constructor) ?_
      refine aN rfl rfl (by constructor) ?_
      refine aMovV (.bool true) (congrArg Value.bool h5) ?_
      refine gT rfl ?_
      refine aN rfl rfl (by constructor) ?_
      refine gT rfl ?_
      refine aLd st 0 rfl rfl rfl (by constructor) ?_
      refine gT rfl ?_
      refine aN rfl rfl (by constructor) ?_
      refine gT rfl ?_
      iterate 2 refine aN rfl rfl (by constructor) ?_
      refine sE ?_
      show AW _ (.cond _ _ _) _ _ _
      refine cC' rfl (fun h6 => ?_) (fun h6 => ?_)
      ·have h6q := h6; try simp only [decide_eq_true_eq, decide_eq_false_iff_not, beq_iff_eq, beq_eq_false_iff_ne, bne_iff_ne, bne_eq_false_iff_eq, ne_eq, Decidable.not_not, Bool.not_eq_true, Bool.not_eq_false, gt_iff_lt, ge_iff_le, Int.not_lt, Int.not_le] at h6q
       show AWl _ _ _ _ _
       iterate 3 refine aN rfl rfl (by constructor) ?_
       refine sE ?_
       refine ⟨_, out3 (r_tmp rfl (by constructor)) (r_tmp rfl (by constructor)) (r_tmp rfl (by constructor)) ⟨rfl, rfl, rfl⟩, ?_⟩
       have st := st.nil 75
       have hM : doM (xpt X) n o = ⟨24, 0, [], xpt X⟩ := dx2 hn hs7 (by simpa using h5) (by simpa using h6)
       rw [hM]
       exact ⟨X, none, rfl, hX, rfl, st.sel [2, 0] (by decide)⟩
      ·have h6q := h6; try simp only [decide_eq_true_eq, decide_eq_false_iff_not, beq_iff_eq, beq_eq_false_iff_ne, bne_iff_ne, bne_eq_false_iff_eq, ne_eq, Decidable.not_not, Bool.not_eq_true, Bool.not_eq_false, gt_iff_lt, ge_iff_le, Int.not_lt, Int.not_le] at h6q
       exact ⟨.inr ⟨by simpa using h5, by simpa using h6⟩, (st.sel [0, 1] (by decide))⟩
     ·obtain ⟨hs, st⟩ := hI
      obtain ⟨u, rfl⟩ : ∃ u, t1 = (mix [6, 7, 8, 38, 39, 40, 41, 42, 43, 44, 45, 46] _ u) := ⟨t1, by rw [← hk]⟩
      clear hk
      show AWl _ _ _ _ _
      refine aN rfl rfl (by constructor) ?_
      refine sE ?_
      refine AW_cutK (b := .seq (.list (⟨some 101, _, _⟩ :: _)) _) (fun t1 H1 => ∃ (oe : Option Nat) (X1 : XT), (XR X X1 n o) ∧ (X1.gen = X.gen) ∧ (X1.ls = X.ls) ∧ t1 10 = accV oe (registerE (xpt X) n o ((X.ks.getD n.toNat 0) != 0)).length 2 ∧ Stt [b] H H1 [⟨oe, true, ⟨true, 75, (registerE (xpt X) n o ((X.ks.getD n.toNat 0) != 0)).flatMap ev2E⟩⟩, ⟨some b5, true, ⟨true, 72, [.int .i64 o.sv, .int .i64 o.ty, .int .u64 o.key, .int .u64 o.act, .bool o.ap]⟩⟩, ⟨some b, true, ⟨true, 65, k8 X1.ks [.int .i64 X1.kd, .int .i64 X1.hd, .int .u32 X1.gen, .bool X1.ls]⟩⟩]) [10, 11, 47, 48, 49, 50, 51, 52, 53, 54, 55, 56, 57, 58, 59, 60, 61, 62, 63, 64, 65, 66, 67, 68, 69, 70, 71, 72, 73, 74, 75, 76, 77, 78, 79, 80, 81, 82, 83, 84, 85, 86, 87, 88, 89, 90, 91, 92, 93, 94, 95, 96, 97, 98, 99, 100] (by decide) ?_ fun t1 H1 hk hI => ?_
      ·show AWl _ _ _ _ _
       refine aN rfl rfl (by constructor) ?_
       refine aLd st 0 rfl rfl rfl (by constructor) ?_
       refine aN rfl rfl (by constructor) ?_
       refine sE ?_
       show AW _ (.cond _ _ _) _ _ _
       refine cC' rfl (fun h7 => ?_) (fun h7 => ?_)
       ·have h7q := h7; try simp only [decide_eq_true_eq, decide_eq_false_iff_not, beq_iff_eq, beq_eq_false_iff_ne, bne_iff_ne, bne_eq_false_iff_eq, ne_eq, Decidable.not_not, Bool.not_eq_true, Bool.not_eq_false, gt_iff_lt, ge_iff_le, Int.not_lt, Int.not_le] at h7q
        show AWp _ _ _ _ _
        iterate 3 refine aN rfl rfl (by constructor) ?_
        refine aLd st 0 rfl rfl rfl (by constructor) ?_
        iterate 2 refine aN rfl rfl (by constructor) ?_
        refine aIxA rfl rfl hn ?_
        refine ⟨?_, trivial⟩
        refine aStAt (u := .int .u64 o.act) (cs := k8 (X.ks.set n.toNat o.act) [.int .i64 X.kd, .int .i64 X.hd, .int .u32 X.gen, .bool X.ls]) st 1 rfl rfl rfl rfl rfl (by show 0 + n.toNat * 1 < 12; omega) (k8_set hX.len _ hn) fun H8 st => ?_
        refine ⟨trivial, ?_⟩
        refine pE ?_
        have ha : o.act ≠ 0 := by simpa using h7
        obtain ⟨r1, r2⟩ := rgA hX hn ho ha
        have st := st.nil 75
        exact ⟨none, ⟨X.ks.set n.toNat o.act, X.kd, X.hd, X.gen, X.ls⟩, r1, rfl, rfl, by rw [r2] <;> rfl, by rw [r2]; exact st.sel [0, 1, 2] (by decide)⟩
       ·have h7q := h7; try simp only [decide_eq_true_eq, decide_eq_false_iff_not, beq_iff_eq, beq_eq_false_iff_ne, bne_iff_ne, bne_eq_false_iff_eq, ne_eq, Decidable.not_not, Bool.not_eq_true, Bool.not_eq_false, gt_iff_lt, ge_iff_le, Int.not_lt, Int.not_le] at h7q
        show AWl _ _ _ _ _
        iterate 2 refine aN rfl rfl (by constructor) ?_
        refine sE ?_
        show AW _ (.cond _ _ _) _ _ _
        refine cC' rfl (fun h9 => ?_) (fun h9 => ?_)
        ·have h9q := h9; try simp only [decide_eq_true_eq, decide_eq_false_iff_not, beq_iff_eq, beq_eq_false_iff_ne, bne_iff_ne, bne_eq_false_iff_eq, ne_eq, Decidable.not_not, Bool.not_eq_true, Bool.not_eq_false, gt_iff_lt, ge_iff_le, Int.not_lt, Int.not_le] at h9q
         show AWl _ _ _ _ _
         iterate 3 refine aN rfl rfl (by constructor) ?_
         refine aLd st 1 rfl rfl rfl (by constructor) ?_
         iterate 2 refine aN rfl rfl (by constructor) ?_
         refine gCase 64 rfl (fun h10 => ?_) (fun h10 => ?_)
         ·have h10q := h10; try simp only [decide_eq_true_eq, decide_eq_false_iff_not, beq_iff_eq, beq_eq_false_iff_ne, bne_iff_ne, bne_eq_false_iff_eq, ne_eq, Decidable.not_not, Bool.not_eq_true, Bool.not_eq_false, gt_iff_lt, ge_iff_le, Int.not_lt, Int.not_le] at h10q
          refine gT rfl ?_
          refine aN rfl rfl (by constructor) ?_
          refine gT rfl ?_
          refine aN rfl rfl (by constructor) ?_
          refine gT rfl ?_
          refine aN rfl rfl (by constructor) ?_
          refine gT rfl ?_
          refine aLd st 1 rfl rfl rfl (by constructor) ?_
          refine gT rfl ?_
          refine aC (xall_call) fun v69 H11 ⟨hv, st1⟩ => ?_
          subst hv
          replace st := st.call st1 rfl
          clear st1
          refine gT rfl ?_
          iterate 3 refine aN rfl rfl (by constructor) ?_
          refine gCase 72 rfl (fun h12 => ?_) (fun h12 => ?_)
          ·have h12q := h12; try simp only [decide_eq_true_eq, decide_eq_false_iff_not, beq_iff_eq, beq_eq_false_iff_ne, bne_iff_ne, bne_eq_false_iff_eq, ne_eq, Decidable.not_not, Bool.not_eq_true, Bool.not_eq_false, gt_iff_lt, ge_iff_le, Int.not_lt, Int.not_le] at h12q
           have h12n : allB X.kd = false := Eq.mp (Bool.not_eq_true' _) h12
           refine gT rfl ?_
           refine aN rfl rfl (by constructor) ?_
           refine gT rfl ?_
           refine aN rfl rfl (by constructor) ?_
           refine gT rfl ?_
           refine aN rfl rfl (by constructor) ?_
           refine gT rfl ?_
           refine aLd st 1 rfl rfl rfl (by constructor) ?_
           refine gT rfl ?_
           refine aN rfl rfl (by constructor) ?_
           refine gT rfl ?_
           iterate 3 refine aN rfl rfl (by constructor) ?_
           refine sE ?_
           show AWl _ _ _ _ _
           iterate 4 refine aN rfl rfl (by constructor) ?_
           refine aIxA rfl rfl hn ?_
           refine aStAt (u := .int .u64 0) (cs := k8 (X.ks.set n.toNat 0) [.int .i64 X.kd, .int .i64 X.hd, .int .u32 X.gen, .bool X.ls]) st 1 rfl rfl rfl rfl rfl (by show 0 + n.toNat * 1 < 12; omega) (k8_set hX.len _ hn) fun H13 st => ?_
           refine sE ?_
           show AWl _ _ _ _ _
           iterate 2 refine aN rfl rfl (by constructor) ?_
           refine gCase 86 rfl (fun h14 => ?_) (fun h14 => ?_)
           ·have h14q := h14; try simp only [decide_eq_true_eq, decide_eq_false_iff_not, beq_iff_eq, beq_eq_false_iff_ne, bne_iff_ne, bne_eq_false_iff_eq, ne_eq, Decidable.not_not, Bool.not_eq_true, Bool.not_eq_false, gt_iff_lt, ge_iff_le, Int.not_lt, Int.not_le] at h14q
            refine gF rfl (by decide) ?_
            refine gF rfl (by decide) ?_
            refine gF rfl (by decide) ?_
            refine gF rfl (by decide) ?_
            refine gF rfl (by decide) ?_
            refine gF rfl (by decide) ?_
            refine gU rfl ?_
            refine gU rfl ?_
            refine gU rfl ?_
            refine gF rfl (by decide) ?_
            refine aN rfl rfl (by constructor) ?_
            refine sE ?_
            show AW _ (.cond _ _ _) _ _ _
            refine cT rfl ?_
            show AWl _ _ _ _ _
            iterate 2 refine aN rfl rfl (by constructor) ?_
            refine aC (end_call (X := (⟨X.ks.set n.toNat 0, X.kd, X.hd, X.gen, X.ls⟩ : XT)) (n := n) (st.get (j := 1) rfl)) fun v100 H15 ⟨oe100, hv, st1⟩ => ?_
            subst hv
            replace st := st.callX 1 rfl st1 rfl
            clear st1
            refine aMovA rfl ?_
            refine sE ?_
            have ha : o.act = 0 := by simpa using h7
            have hk0 : (X.ks.getD n.toNat 0) ≠ 0 := by simpa using h9
            have hf : frM (xpt X) n = true := by rw [frX hX hn hk0]; unfold ownX; simp only [h10, h12n, h14, Bool.and_true, Bool.true_and, Bool.false_and, Bool.and_false, Bool.or_false, Bool.false_or, Bool.or_true, Bool.true_or, Bool.not_true, Bool.not_false]
            obtain ⟨r1, r2⟩ := rgD hX hn ha hk0 hf
            exact ⟨oe100, ⟨X.ks.set n.toNat 0, 0, 0, X.gen, X.ls⟩, r1, rfl, rfl, by rw [r2] <;> rfl, by rw [r2]; exact st.sel [1, 2, 0] (by decide)⟩
           ·have h14q := h14; try simp only [decide_eq_true_eq, decide_eq_false_iff_not, beq_iff_eq, beq_eq_false_iff_ne, bne_iff_ne, bne_eq_false_iff_eq, ne_eq, Decidable.not_not, Bool.not_eq_true, Bool.not_eq_false, gt_iff_lt, ge_iff_le, Int.not_lt, Int.not_le] at h14q
            refine gT rfl ?_
            refine aN rfl rfl (by constructor) ?_
            refine gT rfl ?_
            refine aN rfl rfl (by constructor) ?_
            refine gT rfl ?_
            refine aN rfl rfl (by constructor) ?_
            refine gT rfl ?_
            refine aLd st 1 rfl rfl rfl (by constructor) ?_
            refine gT rfl ?_
            refine aC (xall_call) fun v91 H16 ⟨hv, st1⟩ => ?_
            subst hv
            replace st := st.call st1 rfl
            clear st1
            refine gT rfl ?_
            refine aMovV (.bool false) (congrArg Value.bool h12n) ?_
            refine gF rfl (by decide) ?_
            refine gF rfl (by decide) ?_
            refine gF rfl (by decide) ?_
            refine gT rfl ?_
            iterate 2 refine aN rfl rfl (by constructor) ?_
            refine sE ?_
            show AW _ (.cond _ _ _) _ _ _
            refine cF' rfl ?_
            have ha : o.act = 0 := by simpa using h7
            have hk0 : (X.ks.getD n.toNat 0) ≠ 0 := by simpa using h9
            have hf : frM (xpt X) n = false := by rw [frX hX hn hk0]; unfold ownX; simp only [h10, h12n, h14, Bool.and_true, Bool.true_and, Bool.false_and, Bool.and_false, Bool.or_false, Bool.false_or, Bool.or_true, Bool.true_or, Bool.not_true, Bool.not_false]
            obtain ⟨r1, r2⟩ := rgC hX hn ha hk0 hf
            have st := st.nil 75
            exact ⟨none, ⟨X.ks.set n.toNat 0, X.kd, X.hd, X.gen, X.ls⟩, r1, rfl, rfl, by rw [r2] <;> rfl, by rw [r2]; exact st.sel [0, 1, 2] (by decide)⟩
          ·have h12q := h12; try simp only [decide_eq_true_eq, decide_eq_false_iff_not, beq_iff_eq, beq_eq_false_iff_ne, bne_iff_ne, bne_eq_false_iff_eq, ne_eq, Decidable.not_not, Bool.not_eq_true, Bool.not_eq_false, gt_iff_lt, ge_iff_le, Int.not_lt, Int.not_le] at h12q
           have h12n : allB X.kd = true := Eq.mp (Bool.not_eq_false' _) h12
           refine gF rfl (by decide) ?_
           refine gF rfl (by decide) ?_
           refine gF rfl (by decide) ?_
           refine gF rfl (by decide) ?_
           refine gF rfl (by decide) ?_
           refine gF rfl (by decide) ?_
           iterate 2 refine aN rfl rfl (by constructor) ?_
           refine sE ?_
           show AWl _ _ _ _ _
           iterate 4 refine aN rfl rfl (by constructor) ?_
           refine aIxA rfl rfl hn ?_
           refine aStAt (u := .int .u64 0) (cs := k8 (X.ks.set n.toNat 0) [.int .i64 X.kd, .int .i64 X.hd, .int .u32 X.gen, .bool X.ls]) st 1 rfl rfl rfl rfl rfl (by show 0 + n.toNat * 1 < 12; omega) (k8_set hX.len _ hn) fun H17 st => ?_
           refine sE ?_
           show AWl _ _ _ _ _
           iterate 2 refine aN rfl rfl (by constructor) ?_
           refine gT rfl ?_
           refine aN rfl rfl (by constructor) ?_
           refine gT rfl ?_
           refine aN rfl rfl (by constructor) ?_
           refine gT rfl ?_
           refine aN rfl rfl (by constructor) ?_
           refine gT rfl ?_
           refine aLd st 1 rfl rfl rfl (by constructor) ?_
           refine gT rfl ?_
           refine aC (xall_call) fun v91 H18 ⟨hv, st1⟩ => ?_
           subst hv
           replace st := st.call st1 rfl
           clear st1
           refine gT rfl ?_
           refine aMovV (.bool true) (congrArg Value.bool h12n) ?_
           refine gT rfl ?_
           refine aN rfl rfl (by constructor) ?_
           refine gT rfl ?_
           refine aC (count_call (X := (⟨X.ks.set n.toNat 0, X.kd, X.hd, X.gen, X.ls⟩ : XT)) (st.get (j := 1) rfl)) fun v94 H19 ⟨hv, st1⟩ => ?_
           subst hv
           replace st := st.call st1 rfl
           clear st1
           refine gT rfl ?_
           refine aN rfl rfl (by constructor) ?_
           refine gT rfl ?_
           iterate 2 refine aN rfl rfl (by constructor) ?_
           refine sE ?_
           show AW _ (.cond _ _ _) _ _ _
           refine cC' rfl (fun h20 => ?_) (fun h20 => ?_)
           ·have h20q := h20; try simp only [decide_eq_true_eq, decide_eq_false_iff_not, beq_iff_eq, beq_eq_false_iff_ne, bne_iff_ne, bne_eq_false_iff_eq, ne_eq, Decidable.not_not, Bool.not_eq_true, Bool.not_eq_false, gt_iff_lt, ge_iff_le, Int.not_lt, Int.not_le] at h20q
            show AWl _ _ _ _ _
            iterate 2 refine aN rfl rfl (by constructor) ?_
            refine aC (end_call (X := (⟨X.ks.set n.toNat 0, X.kd, X.hd, X.gen, X.ls⟩ : XT)) (n := n) (st.get (j := 1) rfl)) fun v100 H21 ⟨oe100, hv, st1⟩ => ?_
            subst hv
            replace st := st.callX 1 rfl st1 rfl
            clear st1
            refine aMovA rfl ?_
            refine sE ?_
            have ha : o.act = 0 := by simpa using h7
            have hk0 : (X.ks.getD n.toNat 0) ≠ 0 := by simpa using h9
            have hf : frM (xpt X) n = true := by rw [frX hX hn hk0]; unfold ownX; simp only [h10, h12n, h20, Bool.and_true, Bool.true_and, Bool.false_and, Bool.and_false, Bool.or_false, Bool.false_or, Bool.or_true, Bool.true_or, Bool.not_true, Bool.not_false]
            obtain ⟨r1, r2⟩ := rgD hX hn ha hk0 hf
            exact ⟨oe100, ⟨X.ks.set n.toNat 0, 0, 0, X.gen, X.ls⟩, r1, rfl, rfl, by rw [r2] <;> rfl, by rw [r2]; exact st.sel [1, 2, 0] (by decide)⟩
           ·have h20q := h20; try simp only [decide_eq_true_eq, decide_eq_false_iff_not, beq_iff_eq, beq_eq_false_iff_ne, bne_iff_ne, bne_eq_false_iff_eq, ne_eq, Decidable.not_not, Bool.not_eq_true, Bool.not_eq_false, gt_iff_lt, ge_iff_le, Int.not_lt, Int.not_le] at h20q
            have ha : o.act = 0 := by simpa using h7
            have hk0 : (X.ks.getD n.toNat 0) ≠ 0 := by simpa using h9
            have hf : frM (xpt X) n = false := by rw [frX hX hn hk0]; unfold ownX; simp only [h10, h12n, h20, Bool.and_true, Bool.true_and, Bool.false_and, Bool.and_false, Bool.or_false, Bool.false_or, Bool.or_true, Bool.true_or, Bool.not_true, Bool.not_false]
            obtain ⟨r1, r2⟩ := rgC hX hn ha hk0 hf
            have st := st.nil 75
            exact ⟨none, ⟨X.ks.set n.toNat 0, X.kd, X.hd, X.gen, X.ls⟩, r1, rfl, rfl, by rw [r2] <;> rfl, by rw [r2]; exact st.sel [0, 1, 2] (by decide)⟩
         ·have h10q := h10; try simp only [decide_eq_true_eq, decide_eq_false_iff_not, beq_iff_eq, beq_eq_false_iff_ne, bne_iff_ne, bne_eq_false_iff_eq, ne_eq, Decidable.not_not, Bool.not_eq_true, Bool.not_eq_false, gt_iff_lt, ge_iff_le, Int.not_lt, Int.not_le] at h10q
          refine gF rfl (by decide) ?_
          refine gF rfl (by decide) ?_
          refine gF rfl (by decide) ?_
          refine gF rfl (by decide) ?_
          refine gF rfl (by decide) ?_
          refine gF rfl (by decide) ?_
          iterate 2 refine aN rfl rfl (by constructor) ?_
          refine gF rfl (by decide) ?_
          refine gF rfl (by decide) ?_
          refine gF rfl (by decide) ?_
          refine gF rfl (by decide) ?_
          refine gF rfl (by decide) ?_
          refine gF rfl (by decide) ?_
          iterate 2 refine aN rfl rfl (by constructor) ?_
          refine sE ?_
          show AWl _ _ _ _ _
          iterate 4 refine aN rfl rfl (by constructor) ?_
          refine aIxA rfl rfl hn ?_
          refine aStAt (u := .int .u64 0) (cs := k8 (X.ks.set n.toNat 0) [.int .i64 X.kd, .int .i64 X.hd, .int .u32 X.gen, .bool X.ls]) st 1 rfl rfl rfl rfl rfl (by show 0 + n.toNat * 1 < 12; omega) (k8_set hX.len _ hn) fun H22 st => ?_
          refine sE ?_
          show AWl _ _ _ _ _
          iterate 2 refine aN rfl rfl (by constructor) ?_
          refine gT rfl ?_
          refine aN rfl rfl (by constructor) ?_
          refine gT rfl ?_
          refine aN rfl rfl (by constructor) ?_
          refine gT rfl ?_
          refine aN rfl rfl (by constructor) ?_
          refine gT rfl ?_
          refine aLd st 1 rfl rfl rfl (by constructor) ?_
          refine gT rfl ?_
          refine aC (xall_call) fun v91 H23 ⟨hv, st1⟩ => ?_
          subst hv
          replace st := st.call st1 rfl
          clear st1
          refine gT rfl ?_
          refine aN rfl rfl (by constructor) ?_
          refine gCase 92 rfl (fun h24 => ?_) (fun h24 => ?_)
          ·have h24q := h24; try simp only [decide_eq_true_eq, decide_eq_false_iff_not, beq_iff_eq, beq_eq_false_iff_ne, bne_iff_ne, bne_eq_false_iff_eq, ne_eq, Decidable.not_not, Bool.not_eq_true, Bool.not_eq_false, gt_iff_lt, ge_iff_le, Int.not_lt, Int.not_le] at h24q
           refine gT rfl ?_
           refine aN rfl rfl (by constructor) ?_
           refine gT rfl ?_
           refine aC (count_call (X := (⟨X.ks.set n.toNat 0, X.kd, X.hd, X.gen, X.ls⟩ : XT)) (st.get (j := 1) rfl)) fun v94 H25 ⟨hv, st1⟩ => ?_
           subst hv
           replace st := st.call st1 rfl
           clear st1
           refine gT rfl ?_
           refine aN rfl rfl (by constructor) ?_
           refine gT rfl ?_
           iterate 2 refine aN rfl rfl (by constructor) ?_
           refine sE ?_
           show AW _ (.cond _ _ _) _ _ _
           refine cC' rfl (fun h26 => ?_) (fun h26 => ?_)
           ·have h26q := h26; try simp only [decide_eq_true_eq, decide_eq_false_iff_not, beq_iff_eq, beq_eq_false_iff_ne, bne_iff_ne, bne_eq_false_iff_eq, ne_eq, Decidable.not_not, Bool.not_eq_true, Bool.not_eq_false, gt_iff_lt, ge_iff_le, Int.not_lt, Int.not_le] at h26q
            show AWl _ _ _ _ _
            iterate 2 refine aN rfl rfl (by constructor) ?_
            refine aC (end_call (X := (⟨X.ks.set n.toNat 0, X.kd, X.hd, X.gen, X.ls⟩ : XT)) (n := n) (st.get (j := 1) rfl)) fun v100 H27 ⟨oe100, hv, st1⟩ => ?_
            subst hv
            replace st := st.callX 1 rfl st1 rfl
            clear st1
            refine aMovA rfl ?_
            refine sE ?_
            have ha : o.act = 0 := by simpa using h7
            have hk0 : (X.ks.getD n.toNat 0) ≠ 0 := by simpa using h9
            have hf : frM (xpt X) n = true := by rw [frX hX hn hk0]; unfold ownX; simp only [h10, h24, h26, Bool.and_true, Bool.true_and, Bool.false_and, Bool.and_false, Bool.or_false, Bool.false_or, Bool.or_true, Bool.true_or, Bool.not_true, Bool.not_false]
            obtain ⟨r1, r2⟩ := rgD hX hn ha hk0 hf
            exact ⟨oe100, ⟨X.ks.set n.toNat 0, 0, 0, X.gen, X.ls⟩, r1, rfl, rfl, by rw [r2] <;> rfl, by rw [r2]; exact st.sel [1, 2, 0] (by decide)⟩
           ·have h26q := h26; try simp only [decide_eq_true_eq, decide_eq_false_iff_not, beq_iff_eq, beq_eq_false_iff_ne, bne_iff_ne, bne_eq_false_iff_eq, ne_eq, Decidable.not_not, Bool.not_eq_true, Bool.not_eq_false, gt_iff_lt, ge_iff_le, Int.not_lt, Int.not_le] at h26q
            have ha : o.act = 0 := by simpa using h7
            have hk0 : (X.ks.getD n.toNat 0) ≠ 0 := by simpa using h9
            have hf : frM (xpt X) n = false := by rw [frX hX hn hk0]; unfold ownX; simp only [h10, h24, h26, Bool.and_true, Bool.true_and, Bool.false_and, Bool.and_false, Bool.or_false, Bool.false_or, Bool.or_true, Bool.true_or, Bool.not_true, Bool.not_false]
            obtain ⟨r1, r2⟩ := rgC hX hn ha hk0 hf
            have st := st.nil 75
            exact ⟨none, ⟨X.ks.set n.toNat 0, X.kd, X.hd, X.gen, X.ls⟩, r1, rfl, rfl, by rw [r2] <;> rfl, by rw [r2]; exact st.sel [0, 1, 2] (by decide)⟩
          ·have h24q := h24; try simp only [decide_eq_true_eq, decide_eq_false_iff_not, beq_iff_eq, beq_eq_false_iff_ne, bne_iff_ne, bne_eq_false_iff_eq, ne_eq, Decidable.not_not, Bool.not_eq_true, Bool.not_eq_false, gt_iff_lt, ge_iff_le, Int.not_lt, Int.not_le] at h24q
           refine gF rfl (by decide) ?_
           refine gF rfl (by decide) ?_
           refine gF rfl (by decide) ?_
           refine gT rfl ?_
           iterate 2 refine aN rfl rfl (by constructor) ?_
           refine sE ?_
           show AW _ (.cond _ _ _) _ _ _
           refine cF' rfl ?_
           have ha : o.act = 0 := by simpa using h7
           have hk0 : (X.ks.getD n.toNat 0) ≠ 0 := by simpa using h9
           have hf : frM (xpt X) n = false := by rw [frX hX hn hk0]; unfold ownX; simp only [h10, h24, Bool.and_true, Bool.true_and, Bool.false_and, Bool.and_false, Bool.or_false, Bool.false_or, Bool.or_true, Bool.true_or, Bool.not_true, Bool.not_false]
           obtain ⟨r1, r2⟩ := rgC hX hn ha hk0 hf
           have st := st.nil 75
           exact ⟨none, ⟨X.ks.set n.toNat 0, X.kd, X.hd, X.gen, X.ls⟩, r1, rfl, rfl, by rw [r2] <;> rfl, by rw [r2]; exact st.sel [0, 1, 2] (by decide)⟩
        ·have h9q := h9; try simp only [decide_eq_true_eq, decide_eq_false_iff_not, beq_iff_eq, beq_eq_false_iff_ne, bne_iff_ne, bne_eq_false_iff_eq, ne_eq, Decidable.not_not, Bool.not_eq_true, Bool.not_eq_false, gt_iff_lt, ge_iff_le, Int.not_lt, Int.not_le] at h9q
         have ha : o.act = 0 := by simpa using h7
         have hk0 : (X.ks.getD n.toNat 0) = 0 := by simpa using h9
         obtain ⟨r1, r2⟩ := rgB (n := n) hX ha hk0
         have st := st.nil 75
         exact ⟨none, ⟨X.ks, X.kd, X.hd, X.gen, X.ls⟩, r1, rfl, rfl, by rw [r2] <;> rfl, by rw [r2]; exact st.sel [0, 1, 2] (by decide)⟩
      ·obtain ⟨oe, X1, hxr, hg1, hl1, ht10, st⟩ := hI
       obtain ⟨u, rfl⟩ : ∃ u, t1 = (upd (mix [10, 11, 47, 48, 49, 50, 51, 52, 53, 54, 55, 56, 57, 58, 59, 60, 61, 62, 63, 64, 65, 66, 67, 68, 69, 70, 71, 72, 73, 74, 75, 76, 77, 78, 79, 80, 81, 82, 83, 84, 85, 86, 87, 88, 89, 90, 91, 92, 93, 94, 95, 96, 97, 98, 99, 100] _ u) (some 10) _) := ⟨t1, by rw [← hk, upd_self ht10]⟩
       clear hk ht10
       show AWl _ _ _ _ _
       iterate 2 refine aN rfl rfl (by constructor) ?_
       refine aLd st 1 rfl rfl rfl (by constructor) ?_
       iterate 2 refine aN rfl rfl (by constructor) ?_
       refine aSt st 2 rfl rfl rfl rfl (by first | rfl | simp [cellsOf, *]) (by first | decide | (simp [*]; done) | (simp [k8]; done)) (by repeat constructor) fun H28 st => ?_
       refine sE ?_
       show AWl _ _ _ _ _
       iterate 3 refine aN rfl rfl (by constructor) ?_
       refine aLd st 2 rfl rfl rfl (by constructor) ?_
       iterate 3 refine aN rfl rfl (by constructor) ?_
       refine aSt st 2 rfl rfl rfl rfl (by first | rfl | simp [cellsOf, *]) (by first | decide | (simp [*]; done) | (simp [k8]; done)) (by repeat constructor) fun H29 st => ?_
       refine sE ?_
       show AWl _ _ _ _ _
       refine aMovA rfl ?_
       iterate 2 refine aN rfl rfl (by constructor) ?_
       refine aMovA rfl ?_
       refine sE ?_
       refine ⟨_, out3 (r_tmp rfl (by constructor)) (r_tmp rfl (by constructor)) (r_acc rfl) ⟨rfl, rfl, notTup_acc⟩, ?_⟩
       have hM : doM (xpt X) n o = ⟨0, 0, registerE (xpt X) n o ((X.ks.getD n.toNat 0) != 0), registerP (xpt X) n o ((X.ks.getD n.toNat 0) != 0)⟩ := dx0 hn hs7 hs
       rw [hM]
       exact ⟨⟨X1.ks, X1.kd, X1.hd, inc32 X1.gen, o.ap⟩, oe, rfl, ⟨hxr.1.len, hxr.1.rng, hxr.1.hd, hxr.1.kd⟩, by rw [hxr.2, ← hg1]; rfl, st.sel [2, 0] (by decide)⟩
    ·have h5q := h5; try simp only [decide_eq_true_eq, decide_eq_false_iff_not, beq_iff_eq, beq_eq_false_iff_ne, bne_iff_ne, bne_eq_false_iff_eq, ne_eq, Decidable.not_not, Bool.not_eq_true, Bool.not_eq_false, gt_iff_lt, ge_iff_le, Int.not_lt, Int.not_le] at h5q
     refine gT rfl ?_
     refine aN rfl rfl (by constructor) ?_
     refine gT rfl ?_
     refine aLd st 0 rfl rfl rfl (by constructor) ?_
     refine gT rfl ?_
     iterate 2 refine aN rfl rfl (by constructor) ?_
     refine sE ?_
     show AW _ (.cond _ _ _) _ _ _
     refine cC' rfl (fun h30 => ?_) (fun h30 => ?_)
     ·have h30q := h30; try simp only [decide_eq_true_eq, decide_eq_false_iff_not, beq_iff_eq, beq_eq_false_iff_ne, bne_iff_ne, bne_eq_false_iff_eq, ne_eq, Decidable.not_not, Bool.not_eq_true, Bool.not_eq_false, gt_iff_lt, ge_iff_le, Int.not_lt, Int.not_le] at h30q
      refine AW_cutK (b := .seq (.list (⟨some 10, _, _⟩ :: _)) _) (fun t1 H1 => (o.sv = 6 ∨ (o.sv = 0 ∧ o.key = (X.ks.getD n.toNat 0))) ∧ Stt [b] H H1 [⟨some b5, true, ⟨true, 72, [.int .i64 o.sv, .int .i64 o.ty, .int .u64 o.key, .int .u64 o.act, .bool o.ap]⟩⟩, ⟨some b, true, ⟨true, 65, k8 X.ks [.int .i64 X.kd, .int .i64 X.hd, .int .u32 X.gen, .bool X.ls]⟩⟩]) [6, 7, 8, 38, 39, 40, 41, 42, 43, 44, 45, 46] (by decide) ?_ fun t1 H1 hk hI => ?_
      ·show AWl _ _ _ _ _
       refine aN rfl rfl (by constructor) ?_
       refine aLd st 0 rfl rfl rfl (by constructor) ?_
       refine aN rfl rfl (by constructor) ?_
       refine aMovV (.bool false) (congrArg Value.bool h5) ?_
       refine gF rfl (by decide) ?_
       refine gF rfl (by decide) ?_
       refine gF rfl (by decide) ?_
       refine gF rfl (by decide) ?_
       refine aN rfl rfl (by constructor) ?_
       refine sE ?_
       show AW _ (.cond _ _ _) _ _ _
       refine cF' rfl ?_
       exact ⟨.inl (by simpa using h30), (st.sel [0, 1] (by decide))⟩
      ·obtain ⟨hs, st⟩ := hI
       obtain ⟨u, rfl⟩ : ∃ u, t1 = (mix [6, 7, 8, 38, 39, 40, 41, 42, 43, 44, 45, 46] _ u) := ⟨t1, by rw [← hk]⟩
       clear hk
       show AWl _ _ _ _ _
       refine aN rfl rfl (by constructor) ?_
       refine sE ?_
       refine AW_cutK (b := .seq (.list (⟨some 101, _, _⟩ :: _)) _) (fun t1 H1 => ∃ (oe : Option Nat) (X1 : XT), (XR X X1 n o) ∧ (X1.gen = X.gen) ∧ (X1.ls = X.ls) ∧ t1 10 = accV oe (registerE (xpt X) n o ((X.ks.getD n.toNat 0) != 0)).length 2 ∧ Stt [b] H H1 [⟨oe, true, ⟨true, 75, (registerE (xpt X) n o ((X.ks.getD n.toNat 0) != 0)).flatMap ev2E⟩⟩, ⟨some b5, true, ⟨true, 72, [.int .i64 o.sv, .int .i64 o.ty, .int .u64 o.key, .int .u64 o.act, .bool o.ap]⟩⟩, ⟨some b, true, ⟨true, 65, k8 X1.ks [.int .i64 X1.kd, .int .i64 X1.hd, .int .u32 X1.gen, .bool X1.ls]⟩⟩]) [10, 11, 47, 48, 49, 50, 51, 52, 53, 54, 55, 56, 57, 58, 59, 60, 61, 62, 63, 64, 65, 66, 67, 68, 69, 70, 71, 72, 73, 74, 75, 76, 77, 78, 79, 80, 81, 82, 83, 84, 85, 86, 87, 88, 89, 90, 91, 92, 93, 94, 95, 96, 97, 98, 99, 100] (by decide) ?_ fun t1 H1 hk hI => ?_
       ·show AWl _ _ _ _ _
        refine aN rfl rfl (by constructor) ?_
        refine aLd st 0 rfl rfl rfl (by constructor) ?_
        refine aN rfl rfl (by constructor) ?_
        refine sE ?_
        show AW _ (.cond _ _ _) _ _ _
        refine cC' rfl (fun h31 => ?_) (fun h31 => ?_)
        ·have h31q := h31; try simp only [decide_eq_true_eq, decide_eq_false_iff_not, beq_iff_eq, beq_eq_false_iff_ne, bne_iff_ne, bne_eq_false_iff_eq, ne_eq, Decidable.not_not, Bool.not_eq_true, Bool.not_eq_false, gt_iff_lt, ge_iff_le, Int.not_lt, Int.not_le] at h31q
         show AWp _ _ _ _ _
         iterate 3 refine aN rfl rfl (by constructor) ?_
         refine aLd st 0 rfl rfl rfl (by constructor) ?_
         iterate 2 refine aN rfl rfl (by constructor) ?_
         refine aIxA rfl rfl hn ?_
         refine ⟨?_, trivial⟩
         refine aStAt (u := .int .u64 o.act) (cs := k8 (X.ks.set n.toNat o.act) [.int .i64 X.kd, .int .i64 X.hd, .int .u32 X.gen, .bool X.ls]) st 1 rfl rfl rfl rfl rfl (by show 0 + n.toNat * 1 < 12; omega) (k8_set hX.len _ hn) fun H32 st => ?_
         refine ⟨trivial, ?_⟩
         refine pE ?_
         have ha : o.act ≠ 0 := by simpa using h31
         obtain ⟨r1, r2⟩ := rgA hX hn ho ha
         have st := st.nil 75
         exact ⟨none, ⟨X.ks.set n.toNat o.act, X.kd, X.hd, X.gen, X.ls⟩, r1, rfl, rfl, by rw [r2] <;> rfl, by rw [r2]; exact st.sel [0, 1, 2] (by decide)⟩
        ·have h31q := h31; try simp only [decide_eq_true_eq, decide_eq_false_iff_not, beq_iff_eq, beq_eq_false_iff_ne, bne_iff_ne, bne_eq_false_iff_eq, ne_eq, Decidable.not_not, Bool.not_eq_true, Bool.not_eq_false, gt_iff_lt, ge_iff_le, Int.not_lt, Int.not_le] at h31q
         show AWl _ _ _ _ _
         iterate 2 refine aN rfl rfl (by constructor) ?_
         refine sE ?_
         show AW _ (.cond _ _ _) _ _ _
         refine cC' rfl (fun h33 => ?_) (fun h33 => ?_)
         ·have h33q := h33; try simp only [decide_eq_true_eq, decide_eq_false_iff_not, beq_iff_eq, beq_eq_false_iff_ne, bne_iff_ne, bne_eq_false_iff_eq, ne_eq, Decidable.not_not, Bool.not_eq_true, Bool.not_eq_false, gt_iff_lt, ge_iff_le, Int.not_lt, Int.not_le] at h33q
          show AWl _ _ _ _ _
          iterate 3 refine aN rfl rfl (by constructor) ?_
          refine aLd st 1 rfl rfl rfl (by constructor) ?_
          iterate 2 refine aN rfl rfl (by constructor) ?_
          refine gCase 64 rfl (fun h34 => ?_) (fun h34 => ?_)
          ·have h34q := h34; try simp only [decide_eq_true_eq, decide_eq_false_iff_not, beq_iff_eq, beq_eq_false_iff_ne, bne_iff_ne, bne_eq_false_iff_eq, ne_eq, Decidable.not_not, Bool.not_eq_true, Bool.not_eq_false, gt_iff_lt, ge_iff_le, Int.not_lt, Int.not_le] at h34q
           refine gT rfl ?_
           refine aN rfl rfl (by constructor) ?_
           refine gT rfl ?_
           refine aN rfl rfl (by constructor) ?_
           refine gT rfl ?_
           refine aN rfl rfl (by constructor) ?_
           refine gT rfl ?_
           refine aLd st 1 rfl rfl rfl (by constructor) ?_
           refine gT rfl ?_
           refine aC (xall_call) fun v69 H35 ⟨hv, st1⟩ => ?_
           subst hv
           replace st := st.call st1 rfl
           clear st1
           refine gT rfl ?_
           iterate 3 refine aN rfl rfl (by constructor) ?_
           refine gCase 72 rfl (fun h36 => ?_) (fun h36 => ?_)
           ·have h36q := h36; try simp only [decide_eq_true_eq, decide_eq_false_iff_not, beq_iff_eq, beq_eq_false_iff_ne, bne_iff_ne, bne_eq_false_iff_eq, ne_eq, Decidable.not_not, Bool.not_eq_true, Bool.not_eq_false, gt_iff_lt, ge_iff_le, Int.not_lt, Int.not_le] at h36q
            have h36n : allB X.kd = false := Eq.mp (Bool.not_eq_true' _) h36
            refine gT rfl ?_
            refine aN rfl rfl (by constructor) ?_
            refine gT rfl ?_
            refine aN rfl rfl (by constructor) ?_
            refine gT rfl ?_
            refine aN rfl rfl (by constructor) ?_
            refine gT rfl ?_
            refine aLd st 1 rfl rfl rfl (by constructor) ?_
            refine gT rfl ?_
            refine aN rfl rfl (by constructor) ?_
            refine gT rfl ?_
            iterate 3 refine aN rfl rfl (by constructor) ?_
            refine sE ?_
            show AWl _ _ _ _ _
            iterate 4 refine aN rfl rfl (by constructor) ?_
            refine aIxA rfl rfl hn ?_
            refine aStAt (u := .int .u64 0) (cs := k8 (X.ks.set n.toNat 0) [.int .i64 X.kd, .int .i64 X.hd, .int .u32 X.gen, .bool X.ls]) st 1 rfl rfl rfl rfl rfl (by show 0 + n.toNat * 1 < 12; omega) (k8_set hX.len _ hn) fun H37 st => ?_
            refine sE ?_
            show AWl _ _ _ _ _
            iterate 2 refine aN rfl rfl (by constructor) ?_
            refine gCase 86 rfl (fun h38 => ?_) (fun h38 => ?_)
            ·have h38q := h38; try simp only [decide_eq_true_eq, decide_eq_false_iff_not, beq_iff_eq, beq_eq_false_iff_ne, bne_iff_ne, bne_eq_false_iff_eq, ne_eq, Decidable.not_not, Bool.not_eq_true, Bool.not_eq_false, gt_iff_lt, ge_iff_le, Int.not_lt, Int.not_le] at h38q
             refine gF rfl (by decide) ?_
             refine gF rfl (by decide) ?_
             refine gF rfl (by decide) ?_
             refine gF rfl (by decide) ?_
             refine gF rfl (by decide) ?_
             refine gF rfl (by decide) ?_
             refine gU rfl ?_
             refine gU rfl ?_
             refine gU rfl ?_
             refine gF rfl (by decide) ?_
             refine aN rfl rfl (by constructor) ?_
             refine sE ?_
             show AW _ (.cond _ _ _) _ _ _
             refine cT rfl ?_
             show AWl _ _ _ _ _
             iterate 2 refine aN rfl rfl (by constructor) ?_
             refine aC (end_call (X := (⟨X.ks.set n.toNat 0, X.kd, X.hd, X.gen, X.ls⟩ : XT)) (n := n) (st.get (j := 1) rfl)) fun v100 H39 ⟨oe100, hv, st1⟩ => ?_
             subst hv
             replace st := st.callX 1 rfl st1 rfl
             clear st1
             refine aMovA rfl ?_
             refine sE ?_
             have ha : o.act = 0 := by simpa using h31
             have hk0 : (X.ks.getD n.toNat 0) ≠ 0 := by simpa using h33
             have hf : frM (xpt X) n = true := by rw [frX hX hn hk0]; unfold ownX; simp only [h34, h36n, h38, Bool.and_true, Bool.true_and, Bool.false_and, Bool.and_false, Bool.or_false, Bool.false_or, Bool.or_true, Bool.true_or, Bool.not_true, Bool.not_false]
             obtain ⟨r1, r2⟩ := rgD hX hn ha hk0 hf
             exact ⟨oe100, ⟨X.ks.set n.toNat 0, 0, 0, X.gen, X.ls⟩, r1, rfl, rfl, by rw [r2] <;> rfl, by rw [r2]; exact st.sel [1, 2, 0] (by decide)⟩
            ·have h38q := h38; try simp only [decide_eq_true_eq, decide_eq_false_iff_not, beq_iff_eq, beq_eq_false_iff_ne, bne_iff_ne, bne_eq_false_iff_eq, ne_eq, Decidable.not_not, Bool.not_eq_true, Bool.not_eq_false, gt_iff_lt, ge_iff_le, Int.not_lt, Int.not_le] at h38q
             refine gT rfl ?_
             refine aN rfl rfl (by constructor) ?_
             refine gT rfl ?_
             refine aN rfl rfl (by constructor) ?_
             refine gT rfl ?_
             refine aN rfl rfl (by constructor) ?_
             refine gT rfl ?_
             refine aLd st 1 rfl rfl rfl (by constructor) ?_
             refine gT rfl ?_
             refine aC (xall_call) fun v91 H40 ⟨hv, st1⟩ => ?_
             subst hv
             replace st := st.call st1 rfl
             clear st1
             refine gT rfl ?_
             refine aMovV (.bool false) (congrArg Value.bool h36n) ?_
             refine gF rfl (by decide) ?_
             refine gF rfl (by decide) ?_
             refine gF rfl (by decide) ?_
             refine gT rfl ?_
             iterate 2 refine aN rfl rfl (by constructor) ?_
             refine sE ?_
             show AW _ (.cond _ _ _) _ _ _
             refine cF' rfl ?_
             have ha : o.act = 0 := by simpa using h31
             have hk0 : (X.ks.getD n.toNat 0) ≠ 0 := by simpa using h33
             have hf : frM (xpt X) n = false := by rw [frX hX hn hk0]; unfold ownX; simp only [h34, h36n, h38, Bool.and_true, Bool.true_and, Bool.false_and, Bool.and_false, Bool.or_false, Bool.false_or, Bool.or_true, Bool.true_or, Bool.not_true, Bool.not_false]
             obtain ⟨r1, r2⟩ := rgC hX hn ha hk0 hf
             have st := st.nil 75
             exact ⟨none, ⟨X.ks.set n.toNat 0, X.kd, X.hd, X.gen, X.ls⟩, r1, rfl, rfl, by rw [r2] <;> rfl, by rw [r2]; exact st.sel [0, 1, 2] (by decide)⟩
           ·have h36q := h36; try simp only [decide_eq_true_eq, decide_eq_false_iff_not, beq_iff_eq, beq_eq_false_iff_ne, bne_iff_ne, bne_eq_false_iff_eq, ne_eq, Decidable.not_not, Bool.not_eq_true, Bool.not_eq_false, gt_iff_lt, ge_iff_le, Int.not_lt, Int.not_le] at h36q
            have h36n : allB X.kd = true := Eq.mp (Bool.not_eq_false' _) h36
            refine gF rfl (by decide) ?_
            refine gF rfl (by decide) ?_
            refine gF rfl (by decide) ?_
            refine gF rfl (by decide) ?_
            refine gF rfl (by decide) ?_
            refine gF rfl (by decide) ?_
            iterate 2 refine aN rfl rfl (by constructor) ?_
            refine sE ?_
            show AWl _ _ _ _ _
            iterate 4 refine aN rfl rfl (by constructor) ?_
            refine aIxA rfl rfl hn ?_
            refine aStAt (u := .int .u64 0) (cs := k8 (X.ks.set n.toNat 0) [.int .i64 X.kd, .int .i64 X.hd, .int .u32 X.gen, .bool X.ls]) st 1 rfl rfl rfl rfl rfl (by show 0 + n.toNat * 1 < 12; omega) (k8_set hX.len _ hn) fun H41 st => ?_
            refine sE ?_
            show AWl _ _ _ _ _
            iterate 2 refine aN rfl rfl (by constructor) ?_
            refine gT rfl ?_
            refine aN rfl rfl (by constructor) ?_
            refine gT rfl ?_
            refine aN rfl rfl (by constructor) ?_
            refine gT rfl ?_
            refine aN rfl rfl (by constructor) ?_
            refine gT rfl ?_
            refine aLd st 1 rfl rfl rfl (by constructor) ?_
            refine gT rfl ?_
            refine aC (xall_call) fun v91 H42 ⟨hv, st1⟩ => ?_
            subst hv
            replace st := st.call st1 rfl
            clear st1
            refine gT rfl ?_
            refine aMovV (.bool true) (congrArg Value.bool h36n) ?_
            refine gT rfl ?_
            refine aN rfl rfl (by constructor) ?_
            refine gT rfl ?_
            refine aC (count_call (X := (⟨X.ks.set n.toNat 0, X.kd, X.hd, X.gen, X.ls⟩ : XT)) (st.get (j := 1) rfl)) fun v94 H43 ⟨hv, st1⟩ => ?_
            subst hv
            replace st := st.call st1 rfl
            clear st1
            refine gT rfl ?_
            refine aN rfl rfl (by constructor) ?_
            refine gT rfl ?_
            iterate 2 refine aN rfl rfl (by constructor) ?_
            refine sE ?_
            show AW _ (.cond _ _ _) _ _ _
            refine cC' rfl (fun h44 => ?_) (fun h44 => ?_)
            ·have h44q := h44; try simp only [decide_eq_true_eq, decide_eq_false_iff_not, beq_iff_eq, beq_eq_false_iff_ne, bne_iff_ne, bne_eq_false_iff_eq, ne_eq, Decidable.not_not, Bool.not_eq_true, Bool.not_eq_false, gt_iff_lt, ge_iff_le, Int.not_lt, Int.not_le] at h44q
             show AWl _ _ _ _ _
             iterate 2 refine aN rfl rfl (by constructor) ?_
             refine aC (end_call (X := (⟨X.ks.set n.toNat 0, X.kd, X.hd, X.gen, X.ls⟩ : XT)) (n := n) (st.get (j := 1) rfl)) fun v100 H45 ⟨oe100, hv, st1⟩ => ?_
             subst hv
             replace st := st.callX 1 rfl st1 rfl
             clear st1
             refine aMovA rfl ?_
             refine sE ?_
             have ha : o.act = 0 := by simpa using h31
             have hk0 : (X.ks.getD n.toNat 0) ≠ 0 := by simpa using h33
             have hf : frM (xpt X) n = true := by rw [frX hX hn hk0]; unfold ownX; simp only [h34, h36n, h44, Bool.and_true, Bool.true_and, Bool.false_and, Bool.and_false, Bool.or_false, Bool.false_or, Bool.or_true, Bool.true_or, Bool.not_true, Bool.not_false]
             obtain ⟨r1, r2⟩ := rgD hX hn ha hk0 hf
             exact ⟨oe100, ⟨X.ks.set n.toNat 0, 0, 0, X.gen, X.ls⟩, r1, rfl, rfl, by rw [r2] <;> rfl, by rw [r2]; exact st.sel [1, 2, 0] (by decide)⟩
            ·have h44q := h44; try simp only [decide_eq_true_eq, decide_eq_false_iff_not, beq_iff_eq, beq_eq_false_iff_ne, bne_iff_ne, bne_eq_false_iff_eq, ne_eq, Decidable.not_not, Bool.not_eq_true, Bool.not_eq_false, gt_iff_lt, ge_iff_le, Int.not_lt, Int.not_le] at h44q
             have ha : o.act = 0 := by simpa using h31
             have hk0 : (X.ks.getD n.toNat 0) ≠ 0 := by simpa using h33
             have hf : frM (xpt X) n = false := by rw [frX hX hn hk0]; unfold ownX; simp only [h34, h36n, h44, Bool.and_true, Bool.true_and, Bool.false_and, Bool.and_false, Bool.or_false, Bool.false_or, Bool.or_true, Bool.true_or, Bool.not_true, Bool.not_false]
             obtain ⟨r1, r2⟩ := rgC hX hn ha hk0 hf
             have st := st.nil 75
             exact ⟨none, ⟨X.ks.set n.toNat 0, X.kd, X.hd, X.gen, X.ls⟩, r1, rfl, rfl, by rw [r2] <;> rfl, by rw [r2]; exact st.sel [0, 1, 2] (by decide)⟩
          ·have h34q := h34; try simp only [decide_eq_true_eq, decide_eq_false_iff_not, beq_iff_eq, beq_eq_false_iff_ne, bne_iff_ne, bne_eq_false_iff_eq, ne_eq, Decidable.not_not, Bool.not_eq_true, Bool.not_eq_false, gt_iff_lt, ge_iff_le, Int.not_lt, Int.not_le] at h34q
           refine gF rfl (by decide) ?_
           refine gF rfl (by decide) ?_
           refine gF rfl (by decide) ?_
           refine gF rfl (by decide) ?_
           refine gF rfl (by decide) ?_
           refine gF rfl (by decide) ?_
           iterate 2 refine aN rfl rfl (by constructor) ?_
           refine gF rfl (by decide) ?_
           refine gF rfl (by decide) ?_
           refine gF rfl (by decide) ?_
           refine gF rfl (by decide) ?_
           refine gF rfl (by decide) ?_
           refine gF rfl (by decide) ?_
           iterate 2 refine aN rfl rfl (by constructor) ?_
           refine sE ?_
           show AWl _ _ _ _ _
           iterate 4 refine aN rfl rfl (by constructor) ?_
           refine aIxA rfl rfl hn ?_
           refine aStAt (u := .int .u64 0) (cs := k8 (X.ks.set n.toNat 0) [.int .i64 X.kd, .int .i64 X.hd, .int .u32 X.gen, .bool X.ls]) st 1 rfl rfl rfl rfl rfl (by show 0 + n.toNat * 1 < 12; omega) (k8_set hX.len _ hn) fun H46 st => ?_
           refine sE ?_
           show AWl _ _ _ _ _
           iterate 2 refine aN rfl rfl (by constructor) ?_
           refine gT rfl ?_
           refine aN rfl rfl (by constructor) ?_
           refine gT rfl ?_
           refine aN rfl rfl (by constructor) ?_
           refine gT rfl ?_
           refine aN rfl rfl (by constructor) ?_
           refine gT rfl ?_
           refine aLd st 1 rfl rfl rfl (by constructor) ?_
           refine gT rfl ?_
           refine aC (xall_call) fun v91 H47 ⟨hv, st1⟩ => ?_
           subst hv
           replace st := st.call st1 rfl
           clear st1
           refine gT rfl ?_
           refine aN rfl rfl (by constructor) ?_
           refine gCase 92 rfl (fun h48 => ?_) (fun h48 => ?_)
           ·have h48q := h48; try simp only [decide_eq_true_eq, decide_eq_false_iff_not, beq_iff_eq, beq_eq_false_iff_ne, bne_iff_ne, bne_eq_false_iff_eq, ne_eq, Decidable.not_not, Bool.not_eq_true, Bool.not_eq_false, gt_iff_lt, ge_iff_le, Int.not_lt, Int.not_le] at h48q
            refine gT rfl ?_
            refine aN rfl rfl (by constructor) ?_
            refine gT rfl ?_
            refine aC (count_call (X := (⟨X.ks.set n.toNat 0, X.kd, X.hd, X.gen, X.ls⟩ : XT)) (st.get (j := 1) rfl)) fun v94 H49 ⟨hv, st1⟩ => ?_
            subst hv
            replace st := st.call st1 rfl
            clear st1
            refine gT rfl ?_
            refine aN rfl rfl (by constructor) ?_
            refine gT rfl ?_
            iterate 2 refine aN rfl rfl (by constructor) ?_
            refine sE ?_
            show AW _ (.cond _ _ _) _ _ _
            refine cC' rfl (fun h50 => ?_) (fun h50 => ?_)
            ·have h50q := h50; try simp only [decide_eq_true_eq, decide_eq_false_iff_not, beq_iff_eq, beq_eq_false_iff_ne, bne_iff_ne, bne_eq_false_iff_eq, ne_eq, Decidable.not_not, Bool.not_eq_true, Bool.not_eq_false, gt_iff_lt, ge_iff_le, Int.not_lt, Int.not_le] at h50q
             show AWl _ _ _ _ _
             iterate 2 refine aN rfl rfl (by constructor) ?_
             refine aC (end_call (X := (⟨X.ks.set n.toNat 0, X.kd, X.hd, X.gen, X.ls⟩ : XT)) (n := n) (st.get (j := 1) rfl)) fun v100 H51 ⟨oe100, hv, st1⟩ => ?_
             subst hv
             replace st := st.callX 1 rfl st1 rfl
             clear st1
             refine aMovA rfl ?_
             refine sE ?_
             have ha : o.act = 0 := by simpa using h31
             have hk0 : (X.ks.getD n.toNat 0) ≠ 0 := by simpa using h33
             have hf : frM (xpt X) n = true := by rw [frX hX hn hk0]; unfold ownX; simp only [h34, h48, h50, Bool.and_true, Bool.true_and, Bool.false_and, Bool.and_false, Bool.or_false, Bool.false_or, Bool.or_true, Bool.true_or, Bool.not_true, Bool.not_false]
             obtain ⟨r1, r2⟩ := rgD hX hn ha hk0 hf
             exact ⟨oe100, ⟨X.ks.set n.toNat 0, 0, 0, X.gen, X.ls⟩, r1, rfl, rfl, by rw [r2] <;> rfl, by rw [r2]; exact st.sel [1, 2, 0] (by decide)⟩
            ·have h50q := h50; try simp only [decide_eq_true_eq, decide_eq_false_iff_not, beq_iff_eq, beq_eq_false_iff_ne, bne_iff_ne, bne_eq_false_iff_eq, ne_eq, Decidable.not_not, Bool.not_eq_true, Bool.not_eq_false, gt_iff_lt, ge_iff_le, Int.not_lt, Int.not_le] at h50q
             have ha : o.act = 0 := by simpa using h31
             have hk0 : (X.ks.getD n.toNat 0) ≠ 0 := by simpa using h33
             have hf : frM (xpt X) n = false := by rw [frX hX hn hk0]; unfold ownX; simp only [h34, h48, h50, Bool.and_true, Bool.true_and, Bool.false_and, Bool.and_false, Bool.or_false, Bool.false_or, Bool.or_true, Bool.true_or, Bool.not_true, Bool.not_false]
             obtain ⟨r1, r2⟩ := rgC hX hn ha hk0 hf
             have st := st.nil 75
             exact ⟨none, ⟨X.ks.set n.toNat 0, X.kd, X.hd, X.gen, X.ls⟩, r1, rfl, rfl, by rw [r2] <;> rfl, by rw [r2]; exact st.sel [0, 1, 2] (by decide)⟩
           ·have h48q := h48; try simp only [decide_eq_true_eq, decide_eq_false_iff_not, beq_iff_eq, beq_eq_false_iff_ne, bne_iff_ne, bne_eq_false_iff_eq, ne_eq, Decidable.not_not, Bool.not_eq_true, Bool.not_eq_false, gt_iff_lt, ge_iff_le, Int.not_lt, Int.not_le] at h48q
            refine gF rfl (by decide) ?_
            refine gF rfl (by decide) ?_
            refine gF rfl (by decide) ?_
            refine gT rfl ?_
            iterate 2 refine aN rfl rfl (by constructor) ?_
            refine sE ?_
            show AW _ (.cond _ _ _) _ _ _
            refine cF' rfl ?_
            have ha : o.act = 0 := by simpa using h31
            have hk0 : (X.ks.getD n.toNat 0) ≠ 0 := by simpa using h33
            have hf : frM (xpt X) n = false := by rw [frX hX hn hk0]; unfold ownX; simp only [h34, h48, Bool.and_true, Bool.true_and, Bool.false_and, Bool.and_false, Bool.or_false, Bool.false_or, Bool.or_true, Bool.true_or, Bool.not_true, Bool.not_false]
            obtain ⟨r1, r2⟩ := rgC hX hn ha hk0 hf
            have st := st.nil 75
            exact ⟨none, ⟨X.ks.set n.toNat 0, X.kd, X.hd, X.gen, X.ls⟩, r1, rfl, rfl, by rw [r2] <;> rfl, by rw [r2]; exact st.sel [0, 1, 2] (by decide)⟩
         ·have h33q := h33; try simp only [decide_eq_true_eq, decide_eq_false_iff_not, beq_iff_eq, beq_eq_false_iff_ne, bne_iff_ne, bne_eq_false_iff_eq, ne_eq, Decidable.not_not, Bool.not_eq_true, Bool.not_eq_false, gt_iff_lt, ge_iff_le, Int.not_lt, Int.not_le] at h33q
          have ha : o.act = 0 := by simpa using h31
          have hk0 : (X.ks.getD n.toNat 0) = 0 := by simpa using h33
          obtain ⟨r1, r2⟩ := rgB (n := n) hX ha hk0
          have st := st.nil 75
          exact ⟨none, ⟨X.ks, X.kd, X.hd, X.gen, X.ls⟩, r1, rfl, rfl, by rw [r2] <;> rfl, by rw [r2]; exact st.sel [0, 1, 2] (by decide)⟩
       ·obtain ⟨oe, X1, hxr, hg1, hl1, ht10, st⟩ := hI
        obtain ⟨u, rfl⟩ : ∃ u, t1 = (upd (mix [10, 11, 47, 48, 49, 50, 51, 52, 53, 54, 55, 56, 57, 58, 59, 60, 61, 62, 63, 64, 65, 66, 67, 68, 69, 70, 71, 72, 73, 74, 75, 76, 77, 78, 79, 80, 81, 82, 83, 84, 85, 86, 87, 88, 89, 90, 91, 92, 93, 94, 95, 96, 97, 98, 99, 100] _ u) (some 10) _) := ⟨t1, by rw [← hk, upd_self ht10]⟩
        clear hk ht10
        show AWl _ _ _ _ _
        iterate 2 refine aN rfl rfl (by constructor) ?_
        refine aLd st 1 rfl rfl rfl (by constructor) ?_
        iterate 2 refine aN rfl rfl (by constructor) ?_
        refine aSt st 2 rfl rfl rfl rfl (by first | rfl | simp [cellsOf, *]) (by first | decide | (simp [*]; done) | (simp [k8]; done)) (by repeat constructor) fun H52 st => ?_
        refine sE ?_
        show AWl _ _ _ _ _
        iterate 3 refine aN rfl rfl (by constructor) ?_
        refine aLd st 2 rfl rfl rfl (by constructor) ?_
        iterate 3 refine aN rfl rfl (by constructor) ?_
        refine aSt st 2 rfl rfl rfl rfl (by first | rfl | simp [cellsOf, *]) (by first | decide | (simp [*]; done) | (simp [k8]; done)) (by repeat constructor) fun H53 st => ?_
        refine sE ?_
        show AWl _ _ _ _ _
        refine aMovA rfl ?_
        iterate 2 refine aN rfl rfl (by constructor) ?_
        refine aMovA rfl ?_
        refine sE ?_
        refine ⟨_, out3 (r_tmp rfl (by constructor)) (r_tmp rfl (by constructor)) (r_acc rfl) ⟨rfl, rfl, notTup_acc⟩, ?_⟩
        have hM : doM (xpt X) n o = ⟨0, 0, registerE (xpt X) n o ((X.ks.getD n.toNat 0) != 0), registerP (xpt X) n o ((X.ks.getD n.toNat 0) != 0)⟩ := dx0 hn hs7 hs
        rw [hM]
        exact ⟨⟨X1.ks, X1.kd, X1.hd, inc32 X1.gen, o.ap⟩, oe, rfl, ⟨hxr.1.len, hxr.1.rng, hxr.1.hd, hxr.1.kd⟩, by rw [hxr.2, ← hg1]; rfl, st.sel [2, 0] (by decide)⟩
     ·have h30q := h30; try simp only [decide_eq_true_eq, decide_eq_false_iff_not, beq_iff_eq, beq_eq_false_iff_ne, bne_iff_ne, bne_eq_false_iff_eq, ne_eq, Decidable.not_not, Bool.not_eq_true, Bool.not_eq_false, gt_iff_lt, ge_iff_le, Int.not_lt, Int.not_le] at h30q
      show AWl _ _ _ _ _
      iterate 3 refine aN rfl rfl (by constructor) ?_
      refine gCase 116 rfl (fun h54 => ?_) (fun h54 => ?_)
      ·have h54q := h54; try simp only [decide_eq_true_eq, decide_eq_false_iff_not, beq_iff_eq, beq_eq_false_iff_ne, bne_iff_ne, bne_eq_false_iff_eq, ne_eq, Decidable.not_not, Bool.not_eq_true, Bool.not_eq_false, gt_iff_lt, ge_iff_le, Int.not_lt, Int.not_le] at h54q
       refine gF rfl (by decide) ?_
       refine gF rfl (by decide) ?_
       refine gF rfl (by decide) ?_
       refine gF rfl (by decide) ?_
       refine aN rfl rfl (by constructor) ?_
       refine sE ?_
       show AW _ (.cond _ _ _) _ _ _
       refine cT rfl ?_
       show AWl _ _ _ _ _
       iterate 3 refine aN rfl rfl (by constructor) ?_
       refine sE ?_
       refine ⟨_, out3 (r_tmp rfl (by constructor)) (r_tmp rfl (by constructor)) (r_tmp rfl (by constructor)) ⟨rfl, rfl, rfl⟩, ?_⟩
       have st := st.nil 75
       have h0 : o.sv ≠ 0 := by simpa using h5
       have h6 : o.sv ≠ 6 := by simpa using h30
       have hM : doM (xpt X) n o = ⟨24, 0, [], xpt X⟩ := dx3 hn hs7 h0 h6 (by simp_all)
       rw [hM]
       exact ⟨X, none, rfl, hX, rfl, st.sel [2, 0] (by decide)⟩
      ·have h54q := h54; try simp only [decide_eq_true_eq, decide_eq_false_iff_not, beq_iff_eq, beq_eq_false_iff_ne, bne_iff_ne, bne_eq_false_iff_eq, ne_eq, Decidable.not_not, Bool.not_eq_true, Bool.not_eq_false, gt_iff_lt, ge_iff_le, Int.not_lt, Int.not_le] at h54q
       refine gT rfl ?_
       refine aN rfl rfl (by constructor) ?_
       refine gT rfl ?_
       refine aLd st 0 rfl rfl rfl (by constructor) ?_
       refine gT rfl ?_
       refine aN rfl rfl (by constructor) ?_
       refine gT rfl ?_
       iterate 2 refine aN rfl rfl (by constructor) ?_
       refine sE ?_
       show AW _ (.cond _ _ _) _ _ _
       refine cC' rfl (fun h55 => ?_) (fun h55 => ?_)
       ·have h55q := h55; try simp only [decide_eq_true_eq, decide_eq_false_iff_not, beq_iff_eq, beq_eq_false_iff_ne, bne_iff_ne, bne_eq_false_iff_eq, ne_eq, Decidable.not_not, Bool.not_eq_true, Bool.not_eq_false, gt_iff_lt, ge_iff_le, Int.not_lt, Int.not_le] at h55q
        show AWl _ _ _ _ _
        iterate 3 refine aN rfl rfl (by constructor) ?_
        refine sE ?_
        refine ⟨_, out3 (r_tmp rfl (by constructor)) (r_tmp rfl (by constructor)) (r_tmp rfl (by constructor)) ⟨rfl, rfl, rfl⟩, ?_⟩
        have st := st.nil 75
        have h0 : o.sv ≠ 0 := by simpa using h5
        have h6 : o.sv ≠ 6 := by simpa using h30
        have hM : doM (xpt X) n o = ⟨24, 0, [], xpt X⟩ := dx3 hn hs7 h0 h6 (by simp_all)
        rw [hM]
        exact ⟨X, none, rfl, hX, rfl, st.sel [2, 0] (by decide)⟩
       ·have h55q := h55; try simp only [decide_eq_true_eq, decide_eq_false_iff_not, beq_iff_eq, beq_eq_false_iff_ne, bne_iff_ne, bne_eq_false_iff_eq, ne_eq, Decidable.not_not, Bool.not_eq_true, Bool.not_eq_false, gt_iff_lt, ge_iff_le, Int.not_lt, Int.not_le] at h55q
        show AWl _ _ _ _ _
        have h0 : o.sv ≠ 0 := by simpa using h5
        have h6 : o.sv ≠ 6 := by simpa using h30
        have hkk : ¬ ((X.ks.getD n.toNat 0) = 0 ∨ o.key ≠ (X.ks.getD n.toNat 0)) := by simp_all
        have hD := dx4 (X := X) (o := o) hn hs7 h0 h6 hkk
        refine aN rfl rfl (by constructor) ?_
        refine aLd st 0 rfl rfl rfl (by constructor) ?_
        refine sE ?_
        show AWl _ _ _ _ _
        iterate 2 refine aN rfl rfl (by constructor) ?_
        refine sE ?_
        show AW _ (.cond _ _ _) _ _ _
        refine cC' rfl (fun h56 => ?_) (fun h56 => ?_)
        ·have h56q := h56; try simp only [decide_eq_true_eq, decide_eq_false_iff_not, beq_iff_eq, beq_eq_false_iff_ne, bne_iff_ne, bne_eq_false_iff_eq, ne_eq, Decidable.not_not, Bool.not_eq_true, Bool.not_eq_false, gt_iff_lt, ge_iff_le, Int.not_lt, Int.not_le] at h56q
         have q1 : o.sv = 1 := by simpa using h56
         show AWl _ _ _ _ _
         refine aN rfl rfl (by constructor) ?_
         refine aLd st 0 rfl rfl rfl (by constructor) ?_
         refine aC (xtype_call) fun v128 H57 ⟨hv, st1⟩ => ?_
         subst hv
         replace st := st.call st1 rfl
         clear st1
         refine aN rfl rfl (by constructor) ?_
         refine sE ?_
         show AW _ (.cond _ _ _) _ _ _
         refine cC' rfl (fun h58 => ?_) (fun h58 => ?_)
         ·have h58q := h58; try simp only [decide_eq_true_eq, decide_eq_false_iff_not, beq_iff_eq, beq_eq_false_iff_ne, bne_iff_ne, bne_eq_false_iff_eq, ne_eq, Decidable.not_not, Bool.not_eq_true, Bool.not_eq_false, gt_iff_lt, ge_iff_le, Int.not_lt, Int.not_le] at h58q
          have h58n : typeB o.ty = false := Eq.mp (Bool.not_eq_true' _) h58
          show AWl _ _ _ _ _
          iterate 3 refine aN rfl rfl (by constructor) ?_
          refine sE ?_
          refine ⟨_, out3 (r_tmp rfl (by constructor)) (r_tmp rfl (by constructor)) (r_tmp rfl (by constructor)) ⟨rfl, rfl, rfl⟩, ?_⟩
          rw [if_pos q1] at hD
          have st := st.nil 75
          have hM : doM (xpt X) n o = ⟨2, 9216, [], xpt X⟩ := hD.trans (xres0 h58n)
          rw [hM]
          exact ⟨X, none, rfl, hX, rfl, st.sel [2, 0] (by decide)⟩
         ·have h58q := h58; try simp only [decide_eq_true_eq, decide_eq_false_iff_not, beq_iff_eq, beq_eq_false_iff_ne, bne_iff_ne, bne_eq_false_iff_eq, ne_eq, Decidable.not_not, Bool.not_eq_true, Bool.not_eq_false, gt_iff_lt, ge_iff_le, Int.not_lt, Int.not_le] at h58q
          have h58n : typeB o.ty = true := Eq.mp (Bool.not_eq_false' _) h58
          show AWl _ _ _ _ _
          iterate 3 refine aN rfl rfl (by constructor) ?_
          refine aLd st 1 rfl rfl rfl (by constructor) ?_
          refine aN rfl rfl (by constructor) ?_
          refine sE ?_
          show AW _ (.cond _ _ _) _ _ _
          refine cC' rfl (fun h59 => ?_) (fun h59 => ?_)
          ·have h59q := h59; try simp only [decide_eq_true_eq, decide_eq_false_iff_not, beq_iff_eq, beq_eq_false_iff_ne, bne_iff_ne, bne_eq_false_iff_eq, ne_eq, Decidable.not_not, Bool.not_eq_true, Bool.not_eq_false, gt_iff_lt, ge_iff_le, Int.not_lt, Int.not_le] at h59q
           show AWl _ _ _ _ _
           iterate 2 refine aN rfl rfl (by constructor) ?_
           refine aLd st 0 rfl rfl rfl (by constructor) ?_
           iterate 2 refine aN rfl rfl (by constructor) ?_
           refine aSt st 1 rfl rfl rfl rfl (by first | rfl | simp [cellsOf, *]) (by first | decide | (simp [*]; done) | (simp [k8]; done)) (by repeat constructor) fun H60 st => ?_
           refine sE ?_
           show AWl _ _ _ _ _
           iterate 4 refine aN rfl rfl (by constructor) ?_
           refine aSt st 1 rfl rfl rfl rfl (by first | rfl | simp [cellsOf, *]) (by first | decide | (simp [*]; done) | (simp [k8]; done)) (by repeat constructor) fun H61 st => ?_
           refine sE ?_
           show AWl _ _ _ _ _
           iterate 3 refine aN rfl rfl (by constructor) ?_
           refine sE ?_
           refine ⟨_, out3 (r_tmp rfl (by constructor)) (r_tmp rfl (by constructor)) (r_tmp rfl (by constructor)) ⟨rfl, rfl, rfl⟩, ?_⟩
           rw [if_pos q1] at hD
           have st := st.nil 75
           have hM : doM (xpt X) n o = ⟨0, 0, [], xpt ⟨X.ks, o.ty, n, X.gen, X.ls⟩⟩ := hD.trans (xres1 h58n (by simpa using h59))
           rw [hM]
           exact ⟨⟨X.ks, o.ty, n, X.gen, X.ls⟩, none, rfl, ⟨hX.len, hX.rng, hn, hty⟩, rfl, st.sel [2, 0] (by decide)⟩
          ·have h59q := h59; try simp only [decide_eq_true_eq, decide_eq_false_iff_not, beq_iff_eq, beq_eq_false_iff_ne, bne_iff_ne, bne_eq_false_iff_eq, ne_eq, Decidable.not_not, Bool.not_eq_true, Bool.not_eq_false, gt_iff_lt, ge_iff_le, Int.not_lt, Int.not_le] at h59q
           show AWp _ _ _ _ _
           iterate 2 refine aN rfl rfl (by constructor) ?_
           refine ⟨?_, trivial⟩
           refine aC (xholds_call (X := X) (n := n) (st.get (j := 1) rfl) hX) fun v146 H62 ⟨hv, st1⟩ => ?_
           subst hv
           replace st := st.call st1 rfl
           clear st1
           refine ⟨trivial, ?_⟩
           refine aN rfl rfl (by constructor) ?_
           refine gCase 147 rfl (fun h63 => ?_) (fun h63 => ?_)
           ·have h63q := h63; try simp only [decide_eq_true_eq, decide_eq_false_iff_not, beq_iff_eq, beq_eq_false_iff_ne, bne_iff_ne, bne_eq_false_iff_eq, ne_eq, Decidable.not_not, Bool.not_eq_true, Bool.not_eq_false, gt_iff_lt, ge_iff_le, Int.not_lt, Int.not_le] at h63q
            refine gT rfl ?_
            refine aN rfl rfl (by constructor) ?_
            refine gT rfl ?_
            refine aN rfl rfl (by constructor) ?_
            refine gT rfl ?_
            refine aN rfl rfl (by constructor) ?_
            refine gT rfl ?_
            refine aLd st 1 rfl rfl rfl (by constructor) ?_
            refine gT rfl ?_
            refine aN rfl rfl (by constructor) ?_
            refine gT rfl ?_
            refine aLd st 0 rfl rfl rfl (by constructor) ?_
            refine gT rfl ?_
            iterate 2 refine aN rfl rfl (by constructor) ?_
            refine pE ?_
            show AW _ (.cond _ _ _) _ _ _
            refine cC' rfl (fun h64 => ?_) (fun h64 => ?_)
            ·have h64q := h64; try simp only [decide_eq_true_eq, decide_eq_false_iff_not, beq_iff_eq, beq_eq_false_iff_ne, bne_iff_ne, bne_eq_false_iff_eq, ne_eq, Decidable.not_not, Bool.not_eq_true, Bool.not_eq_false, gt_iff_lt, ge_iff_le, Int.not_lt, Int.not_le] at h64q
             show AWl _ _ _ _ _
             iterate 3 refine aN rfl rfl (by constructor) ?_
             refine sE ?_
             refine ⟨_, out3 (r_tmp rfl (by constructor)) (r_tmp rfl (by constructor)) (r_tmp rfl (by constructor)) ⟨rfl, rfl, rfl⟩, ?_⟩
             rw [if_pos q1] at hD
             have st := st.nil 75
             have hM : doM (xpt X) n o = ⟨0, 0, [], xpt X⟩ := hD.trans (xres2 h58n (by simpa using h59) h63 (by simpa using h64))
             rw [hM]
             exact ⟨X, none, rfl, hX, rfl, st.sel [2, 0] (by decide)⟩
            ·have h64q := h64; try simp only [decide_eq_true_eq, decide_eq_false_iff_not, beq_iff_eq, beq_eq_false_iff_ne, bne_iff_ne, bne_eq_false_iff_eq, ne_eq, Decidable.not_not, Bool.not_eq_true, Bool.not_eq_false, gt_iff_lt, ge_iff_le, Int.not_lt, Int.not_le] at h64q
             show AWl _ _ _ _ _
             iterate 3 refine aN rfl rfl (by constructor) ?_
             refine sE ?_
             refine ⟨_, out3 (r_tmp rfl (by constructor)) (r_tmp rfl (by constructor)) (r_tmp rfl (by constructor)) ⟨rfl, rfl, rfl⟩, ?_⟩
             rw [if_pos q1] at hD
             have st := st.nil 75
             have hM : doM (xpt X) n o = ⟨24, 0, [], xpt X⟩ := hD.trans (xres3 h58n (by simpa using h59) (fun hc => by have h9 := h64; rw [hc.2] at h9; simp at h9))
             rw [hM]
             exact ⟨X, none, rfl, hX, rfl, st.sel [2, 0] (by decide)⟩
           ·have h63q := h63; try simp only [decide_eq_true_eq, decide_eq_false_iff_not, beq_iff_eq, beq_eq_false_iff_ne, bne_iff_ne, bne_eq_false_iff_eq, ne_eq, Decidable.not_not, Bool.not_eq_true, Bool.not_eq_false, gt_iff_lt, ge_iff_le, Int.not_lt, Int.not_le] at h63q
            refine gF rfl (by decide) ?_
            refine gF rfl (by decide) ?_
            refine gF rfl (by decide) ?_
            refine gF rfl (by decide) ?_
            refine gF rfl (by decide) ?_
            refine gF rfl (by decide) ?_
            refine gF rfl (by decide) ?_
            refine aN rfl rfl (by constructor) ?_
            refine pE ?_
            show AW _ (.cond _ _ _) _ _ _
            refine cF' rfl ?_
            show AWl _ _ _ _ _
            iterate 3 refine aN rfl rfl (by constructor) ?_
            refine sE ?_
            refine ⟨_, out3 (r_tmp rfl (by constructor)) (r_tmp rfl (by constructor)) (r_tmp rfl (by constructor)) ⟨rfl, rfl, rfl⟩, ?_⟩
            rw [if_pos q1] at hD
            have st := st.nil 75
            have hM : doM (xpt X) n o = ⟨24, 0, [], xpt X⟩ := hD.trans (xres3 h58n (by simpa using h59) (fun hc => by have h9 := hc.1.symm.trans h63; cases h9))
            rw [hM]
            exact ⟨X, none, rfl, hX, rfl, st.sel [2, 0] (by decide)⟩
        ·have h56q := h56; try simp only [decide_eq_true_eq, decide_eq_false_iff_not, beq_iff_eq, beq_eq_false_iff_ne, bne_iff_ne, bne_eq_false_iff_eq, ne_eq, Decidable.not_not, Bool.not_eq_true, Bool.not_eq_false, gt_iff_lt, ge_iff_le, Int.not_lt, Int.not_le] at h56q
         have q1 : ¬ o.sv = 1 := by simpa using h56
         show AWl _ _ _ _ _
         iterate 2 refine aN rfl rfl (by constructor) ?_
         refine sE ?_
         show AW _ (.cond _ _ _) _ _ _
         refine cC' rfl (fun h65 => ?_) (fun h65 => ?_)
         ·have h65q := h65; try simp only [decide_eq_true_eq, decide_eq_false_iff_not, beq_iff_eq, beq_eq_false_iff_ne, bne_iff_ne, bne_eq_false_iff_eq, ne_eq, Decidable.not_not, Bool.not_eq_true, Bool.not_eq_false, gt_iff_lt, ge_iff_le, Int.not_lt, Int.not_le] at h65q
          have q2 : o.sv = 2 := by simpa using h65
          show AWl _ _ _ _ _
          iterate 2 refine aN rfl rfl (by constructor) ?_
          refine aC (xholds_call (X := X) (n := n) (st.get (j := 1) rfl) hX) fun v160 H66 ⟨hv, st1⟩ => ?_
          subst hv
          replace st := st.call st1 rfl
          clear st1
          refine aN rfl rfl (by constructor) ?_
          refine sE ?_
          show AW _ (.cond _ _ _) _ _ _
          refine cC' rfl (fun h67 => ?_) (fun h67 => ?_)
          ·have h67q := h67; try simp only [decide_eq_true_eq, decide_eq_false_iff_not, beq_iff_eq, beq_eq_false_iff_ne, bne_iff_ne, bne_eq_false_iff_eq, ne_eq, Decidable.not_not, Bool.not_eq_true, Bool.not_eq_false, gt_iff_lt, ge_iff_le, Int.not_lt, Int.not_le] at h67q
           have h67n : holdsM (xpt X) n = false := Eq.mp (Bool.not_eq_true' _) h67
           show AWl _ _ _ _ _
           iterate 3 refine aN rfl rfl (by constructor) ?_
           refine sE ?_
           refine ⟨_, out3 (r_tmp rfl (by constructor)) (r_tmp rfl (by constructor)) (r_tmp rfl (by constructor)) ⟨rfl, rfl, rfl⟩, ?_⟩
           rw [if_neg q1] at hD
           rw [if_pos q2] at hD
           have st := st.nil 75
           have hM : doM (xpt X) n o = ⟨0, 0, [], xpt X⟩ := hD.trans (xrel0 h67n)
           rw [hM]
           exact ⟨X, none, rfl, hX, rfl, st.sel [2, 0] (by decide)⟩
          ·have h67q := h67; try simp only [decide_eq_true_eq, decide_eq_false_iff_not, beq_iff_eq, beq_eq_false_iff_ne, bne_iff_ne, bne_eq_false_iff_eq, ne_eq, Decidable.not_not, Bool.not_eq_true, Bool.not_eq_false, gt_iff_lt, ge_iff_le, Int.not_lt, Int.not_le] at h67q
           have h67n : holdsM (xpt X) n = true := Eq.mp (Bool.not_eq_false' _) h67
           show AWp _ _ _ _ _
           iterate 3 refine aN rfl rfl (by constructor) ?_
           refine aLd st 1 rfl rfl rfl (by constructor) ?_
           refine aN rfl rfl (by constructor) ?_
           refine aLd st 0 rfl rfl rfl (by constructor) ?_
           refine aN rfl rfl (by constructor) ?_
           refine pE ?_
           show AW _ (.cond _ _ _) _ _ _
           refine cC' rfl (fun h68 => ?_) (fun h68 => ?_)
           ·have h68q := h68; try simp only [decide_eq_true_eq, decide_eq_false_iff_not, beq_iff_eq, beq_eq_false_iff_ne, bne_iff_ne, bne_eq_false_iff_eq, ne_eq, Decidable.not_not, Bool.not_eq_true, Bool.not_eq_false, gt_iff_lt, ge_iff_le, Int.not_lt, Int.not_le] at h68q
            show AWl _ _ _ _ _
            iterate 3 refine aN rfl rfl (by constructor) ?_
            refine sE ?_
            refine ⟨_, out3 (r_tmp rfl (by constructor)) (r_tmp rfl (by constructor)) (r_tmp rfl (by constructor)) ⟨rfl, rfl, rfl⟩, ?_⟩
            rw [if_neg q1] at hD
            rw [if_pos q2] at hD
            have st := st.nil 75
            have hM : doM (xpt X) n o = ⟨2, 9216, [], xpt X⟩ := hD.trans (xrel1 h67n (by simpa using h68))
            rw [hM]
            exact ⟨X, none, rfl, hX, rfl, st.sel [2, 0] (by decide)⟩
           ·have h68q := h68; try simp only [decide_eq_true_eq, decide_eq_false_iff_not, beq_iff_eq, beq_eq_false_iff_ne, bne_iff_ne, bne_eq_false_iff_eq, ne_eq, Decidable.not_not, Bool.not_eq_true, Bool.not_eq_false, gt_iff_lt, ge_iff_le, Int.not_lt, Int.not_le] at h68q
            show AWl _ _ _ _ _
            iterate 2 refine aN rfl rfl (by constructor) ?_
            refine aC (end_call (X := X) (n := n) (st.get (j := 1) rfl)) fun v171 H69 ⟨oe171, hv, st1⟩ => ?_
            subst hv
            replace st := st.callX 1 rfl st1 rfl
            clear st1
            iterate 2 refine aN rfl rfl (by constructor) ?_
            refine aMovA rfl ?_
            refine sE ?_
            refine ⟨_, out3 (r_tmp rfl (by constructor)) (r_tmp rfl (by constructor)) (r_acc rfl) ⟨rfl, rfl, notTup_acc⟩, ?_⟩
            rw [if_neg q1] at hD
            rw [if_pos q2] at hD
            have hM : doM (xpt X) n o = ⟨0, 0, freeE (xpt X) n, xpt ⟨X.ks, 0, 0, X.gen, X.ls⟩⟩ := hD.trans (xrel2 h67n (by simpa using h68))
            rw [hM]
            exact ⟨⟨X.ks, 0, 0, X.gen, X.ls⟩, oe171, rfl, ⟨hX.len, hX.rng, z8, z256⟩, rfl, st.sel [0, 1] (by decide)⟩
         ·have h65q := h65; try simp only [decide_eq_true_eq, decide_eq_false_iff_not, beq_iff_eq, beq_eq_false_iff_ne, bne_iff_ne, bne_eq_false_iff_eq, ne_eq, Decidable.not_not, Bool.not_eq_true, Bool.not_eq_false, gt_iff_lt, ge_iff_le, Int.not_lt, Int.not_le] at h65q
          have q2 : ¬ o.sv = 2 := by simpa using h65
          show AWl _ _ _ _ _
          iterate 2 refine aN rfl rfl (by constructor) ?_
          refine sE ?_
          show AW _ (.cond _ _ _) _ _ _
          refine cC' rfl (fun h70 => ?_) (fun h70 => ?_)
          ·have h70q := h70; try simp only [decide_eq_true_eq, decide_eq_false_iff_not, beq_iff_eq, beq_eq_false_iff_ne, bne_iff_ne, bne_eq_false_iff_eq, ne_eq, Decidable.not_not, Bool.not_eq_true, Bool.not_eq_false, gt_iff_lt, ge_iff_le, Int.not_lt, Int.not_le] at h70q
           have q3 : o.sv = 3 := by simpa using h70
           show AWl _ _ _ _ _
           iterate 2 refine aN rfl rfl (by constructor) ?_
           refine aC (others_call (X := X) (but := n) (code := 10755) (st.get (j := 1) rfl)) fun v176 H71 ⟨oe176, hv, st1⟩ => ?_
           subst hv
           replace st := st.call st1 rfl
           clear st1
           refine aMovA rfl ?_
           refine sE ?_
           show AWl _ _ _ _ _
           refine aN rfl rfl (by constructor) ?_
           refine aBld rfl (by repeat constructor) ?_
           iterate 2 refine aN rfl rfl (by constructor) ?_
           refine aSt st 2 rfl rfl rfl rfl (by first | rfl | simp [cellsOf, *]) (by first | decide | (simp [*]; done) | (simp [k8]; done)) (by repeat constructor) fun H72 st => ?_
           refine sE ?_
           show AWl _ _ _ _ _
           iterate 3 refine aN rfl rfl (by constructor) ?_
           refine aSt st 2 rfl rfl rfl rfl (by first | rfl | simp [cellsOf, *]) (by first | decide | (simp [*]; done) | (simp [k8]; done)) (by repeat constructor) fun H73 st => ?_
           refine sE ?_
           show AWl _ _ _ _ _
           iterate 3 refine aN rfl rfl (by constructor) ?_
           refine aSt st 2 rfl rfl rfl rfl (by first | rfl | simp [cellsOf, *]) (by first | decide | (simp [*]; done) | (simp [k8]; done)) (by repeat constructor) fun H74 st => ?_
           refine sE ?_
           show AWl _ _ _ _ _
           iterate 3 refine aN rfl rfl (by constructor) ?_
           refine aLd st 2 rfl rfl rfl (by constructor) ?_
           iterate 3 refine aN rfl rfl (by constructor) ?_
           refine aSt st 2 rfl rfl rfl rfl (by first | rfl | simp [cellsOf, *]) (by first | decide | (simp [*]; done) | (simp [k8]; done)) (by repeat constructor) fun H75 st => ?_
           refine sE ?_
           show AWl _ _ _ _ _
           refine aMovA rfl ?_
           iterate 2 refine aN rfl rfl (by constructor) ?_
           refine aMovA rfl ?_
           refine sE ?_
           refine ⟨_, out3 (r_tmp rfl (by constructor)) (r_tmp rfl (by constructor)) (r_acc rfl) ⟨rfl, rfl, notTup_acc⟩, ?_⟩
           rw [if_neg q1] at hD
           rw [if_neg q2, if_pos q3] at hD
           have hM : doM (xpt X) n o = ⟨0, 0, clearE (xpt X) n, clearP (xpt X)⟩ := hD
           rw [hM]
           exact ⟨⟨[0, 0, 0, 0, 0, 0, 0, 0], 0, 0, inc32 X.gen, X.ls⟩, oe176, rfl, zero_ok (by decide) (by decide), rfl, st.sel [2, 0] (by decide)⟩
          ·have h70q := h70; try simp only [decide_eq_true_eq, decide_eq_false_iff_not, beq_iff_eq, beq_eq_false_iff_ne, bne_iff_ne, bne_eq_false_iff_eq, ne_eq, Decidable.not_not, Bool.not_eq_true, Bool.not_eq_false, gt_iff_lt, ge_iff_le, Int.not_lt, Int.not_le] at h70q
           have q3 : ¬ o.sv = 3 := by simpa using h70
           show AWl _ _ _ _ _
           iterate 2 refine aN rfl rfl (by constructor) ?_
           refine aLdA st 0 rfl rfl (by first | decide | simp [*]) (by repeat constructor) ?_
           refine aC (xpreempt_call (X := X) (n := n) (o := o) (st.get (j := 1) rfl) hX ho hty hn) fun v198 H76 ⟨X2, oe198, hv, hX2, ht2, st1⟩ => ?_
           subst hv
           replace st := st.callX 1 rfl st1 rfl
           clear st1
           iterate 2 refine aN rfl rfl (by constructor) ?_
           refine aExtA rfl rfl ?_
           iterate 2 refine aN rfl rfl (by constructor) ?_
           refine aMovA rfl ?_
           refine sE ?_
           refine ⟨_, out3 (r_tmp rfl (by constructor)) (r_tmp rfl (by constructor)) (r_acc rfl) ⟨rfl, rfl, notTup_acc⟩, ?_⟩
           rw [if_neg q1, if_neg q2, if_neg q3] at hD
           rw [hD]
           exact ⟨X2, oe198, rfl, hX2, ht2, st.sel [0, 1] (by decide)⟩
end Go.Proofs.Ytihkghfmihdicaa.Abs
