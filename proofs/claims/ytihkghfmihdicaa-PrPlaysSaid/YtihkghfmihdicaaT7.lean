/- Reservations: how a table looks. -/
import Derived.Test.YtihkghfmihdicaaT4
set_option linter.unusedVariables false
set_option linter.unusedSimpArgs false
set_option maxRecDepth 100000
namespace Go.Proofs.Ytihkghfmihdicaa.Abs
open Go Go.RowKit
theorem conflict_call {H : Hp} {b : Nat} {x : Value} {P : PT} {n c : Int} (hk : H.m b = some ⟨true, 79, [x, .int .u32 P.gen, .int .u8 P.kind, .int .i64 P.holder, .bool P.aptpl]⟩) (hS : Sl H 2 P.regs.length (P.regs.flatMap regE) x) (hn : P.regs.length ≤ 1000) :
  ACalls Try.prog 18 [.pointer (some ⟨b, 0, none⟩), .int .i64 n, .int .u8 c] H (fun v H' => v = .bool (conflictM P n c) ∧ Stt [] H H' []) := by
 refine acallsW Try.func18 f18_ok (Nat.le_of_ble_eq_true rfl) fun hw => ?_
 have st : Stt [] H H [] := Stt.start hw
 replace st := st.ro hk (by simp)
 unfold f18c
 show AWl _ _ _ _ _
 refine aN rfl rfl (by constructor) ?_
 refine sE ?_
 show AWl _ _ _ _ _
 refine aN rfl rfl (by constructor) ?_
 refine aBinV (.bool false) rfl rfl rfl ?_
 refine aN rfl rfl (by constructor) ?_
 refine gT rfl ?_
 refine aN rfl rfl (by constructor) ?_
 refine gT rfl ?_
 refine aN rfl rfl (by constructor) ?_
 refine gT rfl ?_
 refine aN rfl rfl (by constructor) ?_
 refine gT rfl ?_
 refine aLd st 0 rfl rfl rfl (by constructor) ?_
 refine gT rfl ?_
 iterate 3 refine aN rfl rfl (by constructor) ?_
 refine gCase 18 rfl (fun h1 => ?_) (fun h1 => ?_)
 ·have h1q := h1; try simp only [decide_eq_true_eq, decide_eq_false_iff_not, beq_iff_eq, beq_eq_false_iff_ne, bne_iff_ne, bne_eq_false_iff_eq, ne_eq, Decidable.not_not, Bool.not_eq_true, Bool.not_eq_false, gt_iff_lt, ge_iff_le, Int.not_lt, Int.not_le] at h1q
  refine gF rfl (by decide) ?_
  refine gF rfl (by decide) ?_
  iterate 2 refine aN rfl rfl (by constructor) ?_
  refine gF rfl (by decide) ?_
  refine gF rfl (by decide) ?_
  refine gF rfl (by decide) ?_
  refine aN rfl rfl (by constructor) ?_
  refine sE ?_
  show AW _ (.cond _ _ _) _ _ _
  refine cT rfl ?_
  show AWl _ _ _ _ _
  refine aN rfl rfl (by constructor) ?_
  refine sE ?_
  refine ⟨_, out1 (r_tmp rfl (by constructor)), ?_⟩
  refine ⟨congrArg Value.bool ?_, st.drop⟩
  have h0 : P.kind = 0 ∨ c = 0 ∨ holdsM P n = true := by simp_all
  unfold conflictM; rw [if_pos h0]
 ·have h1q := h1; try simp only [decide_eq_true_eq, decide_eq_false_iff_not, beq_iff_eq, beq_eq_false_iff_ne, bne_iff_ne, bne_eq_false_iff_eq, ne_eq, Decidable.not_not, Bool.not_eq_true, Bool.not_eq_false, gt_iff_lt, ge_iff_le, Int.not_lt, Int.not_le] at h1q
  refine gT rfl ?_
  refine aN rfl rfl (by constructor) ?_
  refine gT rfl ?_
  iterate 3 refine aN rfl rfl (by constructor) ?_
  refine gCase 22 rfl (fun h2 => ?_) (fun h2 => ?_)
  ·have h2q := h2; try simp only [decide_eq_true_eq, decide_eq_false_iff_not, beq_iff_eq, beq_eq_false_iff_ne, bne_iff_ne, bne_eq_false_iff_eq, ne_eq, Decidable.not_not, Bool.not_eq_true, Bool.not_eq_false, gt_iff_lt, ge_iff_le, Int.not_lt, Int.not_le] at h2q
   refine gF rfl (by decide) ?_
   refine gF rfl (by decide) ?_
   refine gF rfl (by decide) ?_
   refine aN rfl rfl (by constructor) ?_
   refine sE ?_
   show AW _ (.cond _ _ _) _ _ _
   refine cT rfl ?_
   show AWl _ _ _ _ _
   refine aN rfl rfl (by constructor) ?_
   refine sE ?_
   refine ⟨_, out1 (r_tmp rfl (by constructor)), ?_⟩
   refine ⟨congrArg Value.bool ?_, st.drop⟩
   have h0 : P.kind = 0 ∨ c = 0 ∨ holdsM P n = true := by simp_all
   unfold conflictM; rw [if_pos h0]
  ·have h2q := h2; try simp only [decide_eq_true_eq, decide_eq_false_iff_not, beq_iff_eq, beq_eq_false_iff_ne, bne_iff_ne, bne_eq_false_iff_eq, ne_eq, Decidable.not_not, Bool.not_eq_true, Bool.not_eq_false, gt_iff_lt, ge_iff_le, Int.not_lt, Int.not_le] at h2q
   refine gT rfl ?_
   refine aN rfl rfl (by constructor) ?_
   refine gT rfl ?_
   refine aN rfl rfl (by constructor) ?_
   refine gT rfl ?_
   refine aC (holds_call (P := P) (n := n) (st.frm0.2 _ (hw _ _ hk) ▸ hk) (st.slc hS) hn) fun v25 H3 ⟨hv, st1⟩ => ?_
   subst hv
   replace st := st.call st1 rfl
   clear st1
   refine aN rfl rfl (by constructor) ?_
   refine sE ?_
   show AW _ (.cond _ _ _) _ _ _
   refine cC' rfl (fun h4 => ?_) (fun h4 => ?_)
   ·have h4q := h4; try simp only [decide_eq_true_eq, decide_eq_false_iff_not, beq_iff_eq, beq_eq_false_iff_ne, bne_iff_ne, bne_eq_false_iff_eq, ne_eq, Decidable.not_not, Bool.not_eq_true, Bool.not_eq_false, gt_iff_lt, ge_iff_le, Int.not_lt, Int.not_le] at h4q
    show AWl _ _ _ _ _
    refine aN rfl rfl (by constructor) ?_
    refine sE ?_
    refine ⟨_, out1 (r_tmp rfl (by constructor)), ?_⟩
    refine ⟨congrArg Value.bool ?_, st.drop⟩
    have h0 : P.kind = 0 ∨ c = 0 ∨ holdsM P n = true := by simp_all
    unfold conflictM; rw [if_pos h0]
   ·have h4q := h4; try simp only [decide_eq_true_eq, decide_eq_false_iff_not, beq_iff_eq, beq_eq_false_iff_ne, bne_iff_ne, bne_eq_false_iff_eq, ne_eq, Decidable.not_not, Bool.not_eq_true, Bool.not_eq_false, gt_iff_lt, ge_iff_le, Int.not_lt, Int.not_le] at h4q
    show AWl _ _ _ _ _
    have h0 : ¬ (P.kind = 0 ∨ c = 0 ∨ holdsM P n = true) := by simp_all
    iterate 2 refine aN rfl rfl (by constructor) ?_
    refine aC (key_call (P := P) (n := n) (st.frm0.2 _ (hw _ _ hk) ▸ hk) (st.slc hS) hn) fun v30 H5 ⟨hv, st1⟩ => ?_
    subst hv
    replace st := st.call st1 rfl
    clear st1
    iterate 5 refine aN rfl rfl (by constructor) ?_
    refine sE ?_
    show AWl _ _ _ _ _
    iterate 3 refine aN rfl rfl (by constructor) ?_
    refine aLd st 0 rfl rfl rfl (by constructor) ?_
    refine sE ?_
    show AWl _ _ _ _ _
    iterate 2 refine aN rfl rfl (by constructor) ?_
    refine sE ?_
    show AW _ (.cond _ _ _) _ _ _
    refine cC' rfl (fun h6 => ?_) (fun h6 => ?_)
    ·have h6q := h6; try simp only [decide_eq_true_eq, decide_eq_false_iff_not, beq_iff_eq, beq_eq_false_iff_ne, bne_iff_ne, bne_eq_false_iff_eq, ne_eq, Decidable.not_not, Bool.not_eq_true, Bool.not_eq_false, gt_iff_lt, ge_iff_le, Int.not_lt, Int.not_le] at h6q
     show AWl _ _ _ _ _
     iterate 3 refine aN rfl rfl (by constructor) ?_
     refine sE ?_
     refine ⟨_, out1 (r_tmp rfl (by constructor)), ?_⟩
     refine ⟨congrArg Value.bool ?_, st.drop⟩
     unfold conflictM; rw [if_neg h0]
     simp_all
    ·have h6q := h6; try simp only [decide_eq_true_eq, decide_eq_false_iff_not, beq_iff_eq, beq_eq_false_iff_ne, bne_iff_ne, bne_eq_false_iff_eq, ne_eq, Decidable.not_not, Bool.not_eq_true, Bool.not_eq_false, gt_iff_lt, ge_iff_le, Int.not_lt, Int.not_le] at h6q
     show AWl _ _ _ _ _
     iterate 2 refine aN rfl rfl (by constructor) ?_
     refine sE ?_
     show AW _ (.cond _ _ _) _ _ _
     refine cC' rfl (fun h7 => ?_) (fun h7 => ?_)
     ·have h7q := h7; try simp only [decide_eq_true_eq, decide_eq_false_iff_not, beq_iff_eq, beq_eq_false_iff_ne, bne_iff_ne, bne_eq_false_iff_eq, ne_eq, Decidable.not_not, Bool.not_eq_true, Bool.not_eq_false, gt_iff_lt, ge_iff_le, Int.not_lt, Int.not_le] at h7q
      show AWl _ _ _ _ _
      refine aN rfl rfl (by constructor) ?_
      refine sE ?_
      refine ⟨_, out1 (r_tmp rfl (by constructor)), ?_⟩
      refine ⟨congrArg Value.bool ?_, st.drop⟩
      unfold conflictM; rw [if_neg h0]
      simp_all
     ·have h7q := h7; try simp only [decide_eq_true_eq, decide_eq_false_iff_not, beq_iff_eq, beq_eq_false_iff_ne, bne_iff_ne, bne_eq_false_iff_eq, ne_eq, Decidable.not_not, Bool.not_eq_true, Bool.not_eq_false, gt_iff_lt, ge_iff_le, Int.not_lt, Int.not_le] at h7q
      show AWl _ _ _ _ _
      iterate 2 refine aN rfl rfl (by constructor) ?_
      refine sE ?_
      show AW _ (.cond _ _ _) _ _ _
      refine cC' rfl (fun h8 => ?_) (fun h8 => ?_)
      ·have h8q := h8; try simp only [decide_eq_true_eq, decide_eq_false_iff_not, beq_iff_eq, beq_eq_false_iff_ne, bne_iff_ne, bne_eq_false_iff_eq, ne_eq, Decidable.not_not, Bool.not_eq_true, Bool.not_eq_false, gt_iff_lt, ge_iff_le, Int.not_lt, Int.not_le] at h8q
       show AW _ (.cond _ _ _) _ _ _
       refine cT rfl ?_
       show AWl _ _ _ _ _
       iterate 3 refine aN rfl rfl (by constructor) ?_
       refine gCase 48 rfl (fun h9 => ?_) (fun h9 => ?_)
       ·have h9q := h9; try simp only [decide_eq_true_eq, decide_eq_false_iff_not, beq_iff_eq, beq_eq_false_iff_ne, bne_iff_ne, bne_eq_false_iff_eq, ne_eq, Decidable.not_not, Bool.not_eq_true, Bool.not_eq_false, gt_iff_lt, ge_iff_le, Int.not_lt, Int.not_le] at h9q
        refine gT rfl ?_
        refine aN rfl rfl (by constructor) ?_
        refine gT rfl ?_
        iterate 3 refine aN rfl rfl (by constructor) ?_
        refine sE ?_
        refine ⟨_, out1 (r_tmp rfl (by constructor)), ?_⟩
        refine ⟨congrArg Value.bool ?_, st.drop⟩
        unfold conflictM; rw [if_neg h0]
        simp_all
       ·have h9q := h9; try simp only [decide_eq_true_eq, decide_eq_false_iff_not, beq_iff_eq, beq_eq_false_iff_ne, bne_iff_ne, bne_eq_false_iff_eq, ne_eq, Decidable.not_not, Bool.not_eq_true, Bool.not_eq_false, gt_iff_lt, ge_iff_le, Int.not_lt, Int.not_le] at h9q
        refine gF rfl (by decide) ?_
        refine gF rfl (by decide) ?_
        iterate 2 refine aN rfl rfl (by constructor) ?_
        refine sE ?_
        refine ⟨_, out1 (r_tmp rfl (by constructor)), ?_⟩
        refine ⟨congrArg Value.bool ?_, st.drop⟩
        unfold conflictM; rw [if_neg h0]
        simp_all
      ·have h8q := h8; try simp only [decide_eq_true_eq, decide_eq_false_iff_not, beq_iff_eq, beq_eq_false_iff_ne, bne_iff_ne, bne_eq_false_iff_eq, ne_eq, Decidable.not_not, Bool.not_eq_true, Bool.not_eq_false, gt_iff_lt, ge_iff_le, Int.not_lt, Int.not_le] at h8q
       show AWl _ _ _ _ _
       iterate 2 refine aN rfl rfl (by constructor) ?_
       refine sE ?_
       show AW _ (.cond _ _ _) _ _ _
       refine cC' rfl (fun h10 => ?_) (fun h10 => ?_)
       ·have h10q := h10; try simp only [decide_eq_true_eq, decide_eq_false_iff_not, beq_iff_eq, beq_eq_false_iff_ne, bne_iff_ne, bne_eq_false_iff_eq, ne_eq, Decidable.not_not, Bool.not_eq_true, Bool.not_eq_false, gt_iff_lt, ge_iff_le, Int.not_lt, Int.not_le] at h10q
        show AWl _ _ _ _ _
        iterate 3 refine aN rfl rfl (by constructor) ?_
        refine gCase 48 rfl (fun h11 => ?_) (fun h11 => ?_)
        ·have h11q := h11; try simp only [decide_eq_true_eq, decide_eq_false_iff_not, beq_iff_eq, beq_eq_false_iff_ne, bne_iff_ne, bne_eq_false_iff_eq, ne_eq, Decidable.not_not, Bool.not_eq_true, Bool.not_eq_false, gt_iff_lt, ge_iff_le, Int.not_lt, Int.not_le] at h11q
         refine gT rfl ?_
         refine aN rfl rfl (by constructor) ?_
         refine gT rfl ?_
         iterate 3 refine aN rfl rfl (by constructor) ?_
         refine sE ?_
         refine ⟨_, out1 (r_tmp rfl (by constructor)), ?_⟩
         refine ⟨congrArg Value.bool ?_, st.drop⟩
         unfold conflictM; rw [if_neg h0]
         simp_all
        ·have h11q := h11; try simp only [decide_eq_true_eq, decide_eq_false_iff_not, beq_iff_eq, beq_eq_false_iff_ne, bne_iff_ne, bne_eq_false_iff_eq, ne_eq, Decidable.not_not, Bool.not_eq_true, Bool.not_eq_false, gt_iff_lt, ge_iff_le, Int.not_lt, Int.not_le] at h11q
         refine gF rfl (by decide) ?_
         refine gF rfl (by decide) ?_
         iterate 2 refine aN rfl rfl (by constructor) ?_
         refine sE ?_
         refine ⟨_, out1 (r_tmp rfl (by constructor)), ?_⟩
         refine ⟨congrArg Value.bool ?_, st.drop⟩
         unfold conflictM; rw [if_neg h0]
         simp_all
       ·have h10q := h10; try simp only [decide_eq_true_eq, decide_eq_false_iff_not, beq_iff_eq, beq_eq_false_iff_ne, bne_iff_ne, bne_eq_false_iff_eq, ne_eq, Decidable.not_not, Bool.not_eq_true, Bool.not_eq_false, gt_iff_lt, ge_iff_le, Int.not_lt, Int.not_le] at h10q
        show AWl _ _ _ _ _
        iterate 3 refine aN rfl rfl (by constructor) ?_
        refine sE ?_
        refine ⟨_, out1 (r_tmp rfl (by constructor)), ?_⟩
        refine ⟨congrArg Value.bool ?_, st.drop⟩
        unfold conflictM; rw [if_neg h0]
        simp_all
theorem reserved_call {H : Hp} {b : Nat} {x : Value} {P : PT} (hk : H.m b = some ⟨true, 79, [x, .int .u32 P.gen, .int .u8 P.kind, .int .i64 P.holder, .bool P.aptpl]⟩) (hS : Sl H 2 P.regs.length (P.regs.flatMap regE) x) (hn : P.regs.length ≤ 1000) :
  ACalls Try.prog 16 [.pointer (some ⟨b, 0, none⟩)] H (fun v H' => v = .tuple #[.int .u8 (reservedM P).1, .int .i64 (reservedM P).2] ∧ Stt [] H H' []) := by
 refine acallsW Try.func16 f16_ok (Nat.le_of_ble_eq_true rfl) fun hw => ?_
 have st : Stt [] H H [] := Stt.start hw
 replace st := st.ro hk (by simp)
 unfold f16c
 show AWl _ _ _ _ _
 iterate 2 refine aN rfl rfl (by constructor) ?_
 refine sE ?_
 show AWl _ _ _ _ _
 refine aN rfl rfl (by constructor) ?_
 refine aBinV (.bool false) rfl rfl rfl ?_
 refine aN rfl rfl (by constructor) ?_
 refine gT rfl ?_
 refine aN rfl rfl (by constructor) ?_
 refine gT rfl ?_
 refine aN rfl rfl (by constructor) ?_
 refine gT rfl ?_
 refine aN rfl rfl (by constructor) ?_
 refine gT rfl ?_
 refine aLd st 0 rfl rfl rfl (by constructor) ?_
 refine gT rfl ?_
 iterate 3 refine aN rfl rfl (by constructor) ?_
 refine sE ?_
 show AW _ (.cond _ _ _) _ _ _
 refine cC' rfl (fun h1 => ?_) (fun h1 => ?_)
 ·have h1q := h1; try simp only [decide_eq_true_eq, decide_eq_false_iff_not, beq_iff_eq, beq_eq_false_iff_ne, bne_iff_ne, bne_eq_false_iff_eq, ne_eq, Decidable.not_not, Bool.not_eq_true, Bool.not_eq_false, gt_iff_lt, ge_iff_le, Int.not_lt, Int.not_le] at h1q
  show AWl _ _ _ _ _
  iterate 2 refine aN rfl rfl (by constructor) ?_
  refine sE ?_
  refine ⟨_, out2 (r_tmp rfl (by constructor)) (r_tmp rfl (by constructor)) ⟨rfl, rfl⟩, ?_⟩
  refine ⟨?_, st.drop⟩
  have h0 : P.kind = 0 := by simpa using h1
  rw [show reservedM P = (0, -1) from if_pos h0]
 ·have h1q := h1; try simp only [decide_eq_true_eq, decide_eq_false_iff_not, beq_iff_eq, beq_eq_false_iff_ne, bne_iff_ne, bne_eq_false_iff_eq, ne_eq, Decidable.not_not, Bool.not_eq_true, Bool.not_eq_false, gt_iff_lt, ge_iff_le, Int.not_lt, Int.not_le] at h1q
  show AWl _ _ _ _ _
  iterate 3 refine aN rfl rfl (by constructor) ?_
  refine aLd st 0 rfl rfl rfl (by constructor) ?_
  refine aC (all_call) fun v19 H2 ⟨hv, st1⟩ => ?_
  subst hv
  replace st := st.call st1 rfl
  clear st1
  refine aN rfl rfl (by constructor) ?_
  refine sE ?_
  show AW _ (.cond _ _ _) _ _ _
  refine cC' rfl (fun h3 => ?_) (fun h3 => ?_)
  ·have h3q := h3; try simp only [decide_eq_true_eq, decide_eq_false_iff_not, beq_iff_eq, beq_eq_false_iff_ne, bne_iff_ne, bne_eq_false_iff_eq, ne_eq, Decidable.not_not, Bool.not_eq_true, Bool.not_eq_false, gt_iff_lt, ge_iff_le, Int.not_lt, Int.not_le] at h3q
   show AWl _ _ _ _ _
   iterate 3 refine aN rfl rfl (by constructor) ?_
   refine aLd st 0 rfl rfl rfl (by constructor) ?_
   iterate 2 refine aN rfl rfl (by constructor) ?_
   refine sE ?_
   refine ⟨_, out2 (r_tmp rfl (by constructor)) (r_tmp rfl (by constructor)) ⟨rfl, rfl⟩, ?_⟩
   refine ⟨?_, st.drop⟩
   have h0 : ¬ P.kind = 0 := by simpa using h1
   rw [show reservedM P = (P.kind, -1) by unfold reservedM; rw [if_neg h0, if_pos h3]]
  ·have h3q := h3; try simp only [decide_eq_true_eq, decide_eq_false_iff_not, beq_iff_eq, beq_eq_false_iff_ne, bne_iff_ne, bne_eq_false_iff_eq, ne_eq, Decidable.not_not, Bool.not_eq_true, Bool.not_eq_false, gt_iff_lt, ge_iff_le, Int.not_lt, Int.not_le] at h3q
   show AWp _ _ _ _ _
   iterate 3 refine aN rfl rfl (by constructor) ?_
   refine aLd st 0 rfl rfl rfl (by constructor) ?_
   iterate 3 refine aN rfl rfl (by constructor) ?_
   refine aLd st 0 rfl rfl rfl (by constructor) ?_
   iterate 2 refine aN rfl rfl (by constructor) ?_
   refine pE ?_
   refine ⟨_, out2 (r_tmp rfl (by constructor)) (r_tmp rfl (by constructor)) ⟨rfl, rfl⟩, ?_⟩
   refine ⟨?_, st.drop⟩
   have h0 : ¬ P.kind = 0 := by simpa using h1
   rw [show reservedM P = (P.kind, P.holder) by unfold reservedM; rw [if_neg h0, if_neg (by rw [h3]; decide)]]
theorem gen_call {H : Hp} {b : Nat} {x : Value} {P : PT} (hk : H.m b = some ⟨true, 79, [x, .int .u32 P.gen, .int .u8 P.kind, .int .i64 P.holder, .bool P.aptpl]⟩) (hS : Sl H 2 P.regs.length (P.regs.flatMap regE) x) (hn : P.regs.length ≤ 1000) :
  ACalls Try.prog 14 [.pointer (some ⟨b, 0, none⟩)] H (fun v H' => v = .int .u32 P.gen ∧ Stt [] H H' []) := by
 refine acallsW Try.func14 f14_ok (Nat.le_of_ble_eq_true rfl) fun hw => ?_
 have st : Stt [] H H [] := Stt.start hw
 replace st := st.ro hk (by simp)
 unfold f14c
 show AWl _ _ _ _ _
 refine aN rfl rfl (by constructor) ?_
 refine sE ?_
 show AWl _ _ _ _ _
 refine aN rfl rfl (by constructor) ?_
 refine aBinV (.bool false) rfl rfl rfl ?_
 refine sE ?_
 show AW _ (.cond _ _ _) _ _ _
 refine cF' rfl ?_
 show AWl _ _ _ _ _
 iterate 3 refine aN rfl rfl (by constructor) ?_
 refine aLd st 0 rfl rfl rfl (by constructor) ?_
 refine aN rfl rfl (by constructor) ?_
 refine sE ?_
 refine ⟨_, out1 (r_tmp rfl (by constructor)), ?_⟩
 exact ⟨rfl, st.drop⟩
theorem lasts_call {H : Hp} {b : Nat} {x : Value} {P : PT} (hk : H.m b = some ⟨true, 79, [x, .int .u32 P.gen, .int .u8 P.kind, .int .i64 P.holder, .bool P.aptpl]⟩) (hS : Sl H 2 P.regs.length (P.regs.flatMap regE) x) (hn : P.regs.length ≤ 1000) :
  ACalls Try.prog 24 [.pointer (some ⟨b, 0, none⟩)] H (fun v H' => v = .bool P.aptpl ∧ Stt [] H H' []) := by
 refine acallsW Try.func24 f24_ok (Nat.le_of_ble_eq_true rfl) fun hw => ?_
 have st : Stt [] H H [] := Stt.start hw
 replace st := st.ro hk (by simp)
 unfold f24c
 show AWl _ _ _ _ _
 refine aN rfl rfl (by constructor) ?_
 refine sE ?_
 show AWl _ _ _ _ _
 refine aN rfl rfl (by constructor) ?_
 refine aBinV (.bool true) rfl rfl rfl ?_
 refine aN rfl rfl (by constructor) ?_
 refine gT rfl ?_
 refine aN rfl rfl (by constructor) ?_
 refine gT rfl ?_
 refine aN rfl rfl (by constructor) ?_
 refine gT rfl ?_
 refine aN rfl rfl (by constructor) ?_
 refine gT rfl ?_
 refine aLd st 0 rfl rfl rfl (by constructor) ?_
 iterate 2 refine aN rfl rfl (by constructor) ?_
 refine sE ?_
 refine ⟨_, out1 (r_tmp rfl (by constructor)), ?_⟩
 refine ⟨?_, st.drop⟩; first | rfl | simp_all
theorem regs_call {H : Hp} {b : Nat} {x : Value} {P : PT} (hk : H.m b = some ⟨true, 79, [x, .int .u32 P.gen, .int .u8 P.kind, .int .i64 P.holder, .bool P.aptpl]⟩) (hS : Sl H 2 P.regs.length (P.regs.flatMap regE) x) (hn : P.regs.length ≤ 1000) :
  ACalls Try.prog 13 [.pointer (some ⟨b, 0, none⟩)] H (fun v H' => ∃ oc, v = accV oc P.regs.length 2 ∧ Stt [] H H' [⟨oc, true, ⟨true, 30, (P.regs).flatMap regE⟩⟩]) := by
 refine acallsW Try.func13 f13_ok (Nat.le_of_ble_eq_true rfl) fun hw => ?_
 have st : Stt [] H H [] := Stt.start hw
 replace st := st.ro hk (by simp)
 unfold f13c
 show AWl _ _ _ _ _
 refine aN rfl rfl (by constructor) ?_
 refine sE ?_
 show AWl _ _ _ _ _
 refine aN rfl rfl (by constructor) ?_
 refine aBinV (.bool false) rfl rfl rfl ?_
 refine sE ?_
 show AW _ (.cond _ _ _) _ _ _
 refine cF' rfl ?_
 show AWl _ _ _ _ _
 iterate 3 refine aN rfl rfl (by constructor) ?_
 refine aLdQ st 0 rfl rfl rfl (rfl : x = _) ?_
 have st := st.nil 30
 have hnil : (Value.slice none 0 0) = accV none 0 2 := rfl
 refine aApp st 0 (ob := none) (n := 0) rfl rfl rfl (by decide) (rfl) (st.slc hS).src (by exact flat_len' regE_len _) (by omega) (by omega) fun b9 H1 hp9 st => ?_
 refine aMovA rfl ?_
 refine sE ?_
 refine ⟨_, out1 (r_acc rfl), ?_⟩
 exact ⟨b9, congrArg (fun n => accV _ n 2) (by omega), st.pick 0 rfl⟩
end Go.Proofs.Ytihkghfmihdicaa.Abs
