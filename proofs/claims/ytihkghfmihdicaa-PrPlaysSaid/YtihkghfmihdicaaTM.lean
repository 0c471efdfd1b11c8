/- Reservations: tables out of bytes. -/
import Derived.Test.YtihkghfmihdicaaTL
set_option linter.unusedVariables false
set_option linter.unusedSimpArgs false
set_option maxRecDepth 100000
namespace Go.Proofs.Ytihkghfmihdicaa.Abs
open Go Go.RowKit
theorem int_beq0 (n : Nat) : ((n : Int) == 0) = (n == 0) := by
  rw [Bool.eq_iff_iff, beq_iff_eq, beq_iff_eq]; omega
theorem hdr_len {x : Int} (h : 0 ≤ x ∧ x ≤ 255) : IntKind.i64.wrap (5 + IntKind.i64.wrap (9 * IntKind.i64.wrap x)) = 5 + 9 * x := by
  rw [wi x (by omega), wi (9 * x) (by omega), wi (5 + 9 * x) (by omega)]
theorem load_call {H : Hp} {p : List Int} {x : Value} (hx : Sl H 1 p.length (p.map (Value.int .u8)) x) (hb : ByteL p) (hl : p.length ≤ 140737488351232) :
  ACalls Try.prog 23 [x] H (fun v H' => (loadM p = none ∧ v = .tuple #[.pointer none, .int .i64 3] ∧ Stt [] H H' []) ∨ ∃ P b ob, loadM p = some P ∧ v = .tuple #[.pointer (some ⟨b, 0, none⟩), .int .i64 0] ∧ Stt [] H H' [⟨some b, true, ⟨true, 79, [accV ob P.regs.length 2, .int .u32 P.gen, .int .u8 P.kind, .int .i64 P.holder, .bool P.aptpl]⟩⟩, ⟨ob, true, ⟨true, 30, (P.regs).flatMap regE⟩⟩]) := by
 refine acallsW Try.func23 f23_ok (Nat.le_of_ble_eq_true rfl) fun hw => ?_
 have st : Stt [] H H [] := Stt.start hw
 unfold f23c
 show AWl _ _ _ _ _
 iterate 2 refine aN rfl rfl (by constructor) ?_
 refine sE ?_
 show AWl _ _ _ _ _
 refine aC (new_call) fun v12 H1 ⟨b12, hv, st1⟩ => ?_
 subst hv
 replace st := st.call st1 rfl
 clear st1
 have st := st.nil 30
 refine aN rfl rfl (by constructor) ?_
 refine sE ?_
 show AWl _ _ _ _ _
 refine aMovV x rfl ?_
 refine aLen (st.slc hx) rfl ?_
 refine aN rfl rfl (by constructor) ?_
 refine sE ?_
 show AW _ (.cond _ _ _) _ _ _
 refine cC' rfl (fun h2 => ?_) (fun h2 => ?_)
 ·have h2q := h2; try simp only [decide_eq_true_eq, decide_eq_false_iff_not, beq_iff_eq, beq_eq_false_iff_ne, bne_iff_ne, bne_eq_false_iff_eq, ne_eq, Decidable.not_not, Bool.not_eq_true, Bool.not_eq_false, gt_iff_lt, ge_iff_le, Int.not_lt, Int.not_le] at h2q
  have q0 : p.length = 0 := by have := h2q; omega
  show AWl _ _ _ _ _
  iterate 3 refine aN rfl rfl (by constructor) ?_
  refine sE ?_
  refine ⟨_, out2 (r_tmp rfl (by constructor)) (r_tmp rfl (by constructor)) ⟨rfl, rfl⟩, ?_⟩
  exact .inr ⟨PT0, b12, none, lm0 q0, rfl, st.sel [1, 0] (by decide)⟩
 ·have h2q := h2; try simp only [decide_eq_true_eq, decide_eq_false_iff_not, beq_iff_eq, beq_eq_false_iff_ne, bne_iff_ne, bne_eq_false_iff_eq, ne_eq, Decidable.not_not, Bool.not_eq_true, Bool.not_eq_false, gt_iff_lt, ge_iff_le, Int.not_lt, Int.not_le] at h2q
  have q0 : p.length ≠ 0 := by have := h2q; omega
  show AWl _ _ _ _ _
  refine aMovV x rfl ?_
  refine aLen (st.slc hx) rfl ?_
  iterate 2 refine aN rfl rfl (by constructor) ?_
  refine gCase 20 rfl (fun h3 => ?_) (fun h3 => ?_)
  ·have h3q := h3; try simp only [decide_eq_true_eq, decide_eq_false_iff_not, beq_iff_eq, beq_eq_false_iff_ne, bne_iff_ne, bne_eq_false_iff_eq, ne_eq, Decidable.not_not, Bool.not_eq_true, Bool.not_eq_false, gt_iff_lt, ge_iff_le, Int.not_lt, Int.not_le] at h3q
   refine gF rfl (by decide) ?_
   refine gF rfl (by decide) ?_
   refine gF rfl (by decide) ?_
   refine gF rfl (by decide) ?_
   iterate 2 refine aN rfl rfl (by constructor) ?_
   refine gF rfl (by decide) ?_
   refine gF rfl (by decide) ?_
   refine gF rfl (by decide) ?_
   refine gF rfl (by decide) ?_
   iterate 2 refine aN rfl rfl (by constructor) ?_
   refine gF rfl (by decide) ?_
   refine gF rfl (by decide) ?_
   refine gF rfl (by decide) ?_
   refine gF rfl (by decide) ?_
   refine gF rfl (by decide) ?_
   refine gF rfl (by decide) ?_
   refine gF rfl (by decide) ?_
   refine gF rfl (by decide) ?_
   refine gF rfl (by decide) ?_
   refine aN rfl rfl (by constructor) ?_
   refine sE ?_
   show AW _ (.cond _ _ _) _ _ _
   refine cT rfl ?_
   show AWl _ _ _ _ _
   iterate 2 refine aN rfl rfl (by constructor) ?_
   refine sE ?_
   refine ⟨_, out2 (r_tmp rfl (by constructor)) (r_tmp rfl (by constructor)) ⟨rfl, rfl⟩, ?_⟩
   have q1 : headB p := by unfold headB; simp_all <;> omega
   exact .inl ⟨lm1 q0 q1, rfl, st.drop⟩
  ·have h3q := h3; try simp only [decide_eq_true_eq, decide_eq_false_iff_not, beq_iff_eq, beq_eq_false_iff_ne, bne_iff_ne, bne_eq_false_iff_eq, ne_eq, Decidable.not_not, Bool.not_eq_true, Bool.not_eq_false, gt_iff_lt, ge_iff_le, Int.not_lt, Int.not_le] at h3q
   refine gT rfl ?_
   refine aMovV x rfl ?_
   refine gT rfl ?_
   refine aIxB (st.slc hx) rfl rfl (by omega) fun b22 o22 g22 => ?_
   refine gT rfl ?_
   refine aLdG rfl g22 ?_
   refine gT rfl ?_
   iterate 3 refine aN rfl rfl (by constructor) ?_
   refine gCase 26 rfl (fun h4 => ?_) (fun h4 => ?_)
   ·have h4q := h4; try simp only [decide_eq_true_eq, decide_eq_false_iff_not, beq_iff_eq, beq_eq_false_iff_ne, bne_iff_ne, bne_eq_false_iff_eq, ne_eq, Decidable.not_not, Bool.not_eq_true, Bool.not_eq_false, gt_iff_lt, ge_iff_le, Int.not_lt, Int.not_le] at h4q
    refine gF rfl (by decide) ?_
    refine gF rfl (by decide) ?_
    refine gF rfl (by decide) ?_
    refine gF rfl (by decide) ?_
    iterate 2 refine aN rfl rfl (by constructor) ?_
    refine gF rfl (by decide) ?_
    refine gF rfl (by decide) ?_
    refine gF rfl (by decide) ?_
    refine gF rfl (by decide) ?_
    refine gF rfl (by decide) ?_
    refine gF rfl (by decide) ?_
    refine gF rfl (by decide) ?_
    refine gF rfl (by decide) ?_
    refine gF rfl (by decide) ?_
    refine aN rfl rfl (by constructor) ?_
    refine sE ?_
    show AW _ (.cond _ _ _) _ _ _
    refine cT rfl ?_
    show AWl _ _ _ _ _
    iterate 2 refine aN rfl rfl (by constructor) ?_
    refine sE ?_
    refine ⟨_, out2 (r_tmp rfl (by constructor)) (r_tmp rfl (by constructor)) ⟨rfl, rfl⟩, ?_⟩
    have q1 : headB p := by unfold headB; simp_all <;> omega
    exact .inl ⟨lm1 q0 q1, rfl, st.drop⟩
   ·have h4q := h4; try simp only [decide_eq_true_eq, decide_eq_false_iff_not, beq_iff_eq, beq_eq_false_iff_ne, bne_iff_ne, bne_eq_false_iff_eq, ne_eq, Decidable.not_not, Bool.not_eq_true, Bool.not_eq_false, gt_iff_lt, ge_iff_le, Int.not_lt, Int.not_le] at h4q
    refine gT rfl ?_
    refine aMovV x rfl ?_
    refine gT rfl ?_
    refine aIxB (st.slc hx) rfl rfl (by omega) fun b28 o28 g28 => ?_
    refine gT rfl ?_
    refine aLdG rfl g28 ?_
    refine gT rfl ?_
    iterate 3 refine aN rfl rfl (by constructor) ?_
    refine gCase 32 rfl (fun h5 => ?_) (fun h5 => ?_)
    ·have h5q := h5; try simp only [decide_eq_true_eq, decide_eq_false_iff_not, beq_iff_eq, beq_eq_false_iff_ne, bne_iff_ne, bne_eq_false_iff_eq, ne_eq, Decidable.not_not, Bool.not_eq_true, Bool.not_eq_false, gt_iff_lt, ge_iff_le, Int.not_lt, Int.not_le] at h5q
     refine gF rfl (by decide) ?_
     refine gF rfl (by decide) ?_
     refine gF rfl (by decide) ?_
     refine gF rfl (by decide) ?_
     refine gF rfl (by decide) ?_
     refine gF rfl (by decide) ?_
     refine gF rfl (by decide) ?_
     refine gF rfl (by decide) ?_
     refine gF rfl (by decide) ?_
     refine aN rfl rfl (by constructor) ?_
     refine sE ?_
     show AW _ (.cond _ _ _) _ _ _
     refine cT rfl ?_
     show AWl _ _ _ _ _
     iterate 2 refine aN rfl rfl (by constructor) ?_
     refine sE ?_
     refine ⟨_, out2 (r_tmp rfl (by constructor)) (r_tmp rfl (by constructor)) ⟨rfl, rfl⟩, ?_⟩
     have q1 : headB p := by unfold headB; simp_all <;> omega
     exact .inl ⟨lm1 q0 q1, rfl, st.drop⟩
    ·have h5q := h5; try simp only [decide_eq_true_eq, decide_eq_false_iff_not, beq_iff_eq, beq_eq_false_iff_ne, bne_iff_ne, bne_eq_false_iff_eq, ne_eq, Decidable.not_not, Bool.not_eq_true, Bool.not_eq_false, gt_iff_lt, ge_iff_le, Int.not_lt, Int.not_le] at h5q
     refine gT rfl ?_
     refine aMovV x rfl ?_
     refine gT rfl ?_
     refine aLen (st.slc hx) rfl ?_
     refine gT rfl ?_
     refine aMovV x rfl ?_
     refine gT rfl ?_
     refine aIxB (st.slc hx) rfl rfl (by omega) fun b36 o36 g36 => ?_
     refine gT rfl ?_
     refine aLdG rfl g36 ?_
     refine gT rfl ?_
     refine aN rfl rfl (by constructor) ?_
     refine gT rfl ?_
     refine aN rfl rfl (by constructor) ?_
     refine gT rfl ?_
     refine aN rfl rfl (by constructor) ?_
     refine gT rfl ?_
     have h4b := hb.getD 4
     refine aBinV (.bool ((p.length : Int) != 5 + 9 * p.getD 4 0)) rfl rfl (by exact congrArg (fun q => some (Value.bool q)) (by rw [hdr_len (x := p.getD ((4 : Int)).toNat 0) h4b]; rfl)) ?_
     refine aN rfl rfl (by constructor) ?_
     refine sE ?_
     show AW _ (.cond _ _ _) _ _ _
     refine cC' rfl (fun h6 => ?_) (fun h6 => ?_)
     ·have h6q := h6; try simp only [decide_eq_true_eq, decide_eq_false_iff_not, beq_iff_eq, beq_eq_false_iff_ne, bne_iff_ne, bne_eq_false_iff_eq, ne_eq, Decidable.not_not, Bool.not_eq_true, Bool.not_eq_false, gt_iff_lt, ge_iff_le, Int.not_lt, Int.not_le] at h6q
      show AWl _ _ _ _ _
      iterate 2 refine aN rfl rfl (by constructor) ?_
      refine sE ?_
      refine ⟨_, out2 (r_tmp rfl (by constructor)) (r_tmp rfl (by constructor)) ⟨rfl, rfl⟩, ?_⟩
      have q1 : headB p := by unfold headB; simp_all <;> omega
      exact .inl ⟨lm1 q0 q1, rfl, st.drop⟩
     ·have h6q := h6; try simp only [decide_eq_true_eq, decide_eq_false_iff_not, beq_iff_eq, beq_eq_false_iff_ne, bne_iff_ne, bne_eq_false_iff_eq, ne_eq, Decidable.not_not, Bool.not_eq_true, Bool.not_eq_false, gt_iff_lt, ge_iff_le, Int.not_lt, Int.not_le] at h6q
      show AWl _ _ _ _ _
      have q1 : ¬ headB p := by unfold headB; have hq := h6; simp_all; try omega
      obtain ⟨l5, e0, e1, el, ec⟩ := head_no hb q1
      iterate 2 refine aN rfl rfl (by constructor) ?_
      refine aMovV x rfl ?_
      refine aIxB (st.slc hx) rfl rfl (by omega) fun b46 o46 g46 => ?_
      refine aLdG rfl g46 ?_
      iterate 2 refine aN rfl rfl (by constructor) ?_
      refine aSt st 1 rfl rfl rfl rfl (by first | rfl | simp [cellsOf, *]) (by first | decide | (simp [*]; done) | (simp [k8]; done)) (by repeat constructor) fun H7 st => ?_
      iterate 2 refine aN rfl rfl (by constructor) ?_
      refine aSt st 1 rfl rfl rfl rfl (by first | rfl | simp [cellsOf, *]) (by first | decide | (simp [*]; done) | (simp [k8]; done)) (by repeat constructor) fun H8 st => ?_
      refine sE ?_
      show AWl _ _ _ _ _
      refine aN rfl rfl (by constructor) ?_
      refine sE ?_
      show AWl _ _ _ _ _
      refine aN rfl rfl (by constructor) ?_
      refine sE ?_
      show AW _ (.loop _) _ _ _
      refine AW_loopN (fun m t1 H1 => ∃ (j : Nat) (ob : Option Nat), m = cntN p - j ∧ (j ≤ cntN p) ∧ (∀ i, i < j → okAt p i = true) ∧ t1 6 = .int .i64 ((5 + 9 * j : Nat) : Int) ∧ t1 5 = .int .i64 (prevN p j) ∧ Stt [] H H1 [⟨some b12, true, ⟨true, 79, [accV ob (recs p j).length 2, .int .u32 0, .int .u8 (p.getD 2 0), .int .i64 (-1), .bool true]⟩⟩, ⟨ob, true, ⟨true, 30, (recs p j).flatMap regE⟩⟩]) (cntN p - 0) ⟨0, none, rfl, by omega, fun i hi => by omega, rfl, rfl, (st.sel [1, 0] (by decide))⟩ [2, 3, 5, 6, 7, 8, 9, 52, 53, 54, 55, 56, 57, 58, 59, 60, 61, 62, 63, 64, 65, 66, 67, 68, 69, 70, 71, 72, 73, 74, 75, 76, 77, 78, 79, 80, 81, 82, 83, 84, 85, 86, 87, 88, 89, 90, 91, 92, 93] (by decide) ?_
      rintro m t1 H1 hk hI
      obtain ⟨j, ob, rfl, hj, hok, ht6, ht5, st⟩ := hI
      obtain ⟨u, rfl⟩ : ∃ u, t1 = (upd (upd (mix [2, 3, 5, 6, 7, 8, 9, 52, 53, 54, 55, 56, 57, 58, 59, 60, 61, 62, 63, 64, 65, 66, 67, 68, 69, 70, 71, 72, 73, 74, 75, 76, 77, 78, 79, 80, 81, 82, 83, 84, 85, 86, 87, 88, 89, 90, 91, 92, 93] _ u) (some 6) _) (some 5) _) := ⟨t1, by rw [← hk, upd_self ht6, upd_self ht5]⟩
      clear hk ht6 ht5
      show AWl _ _ _ _ _
      refine aN rfl rfl (by constructor) ?_
      refine aMovV x rfl ?_
      refine aLen (st.slc hx) rfl ?_
      refine aN rfl rfl (by constructor) ?_
      refine sE ?_
      show AW _ (.cond _ _ _) _ _ _
      refine cC' rfl (fun h9 => ?_) (fun h9 => ?_)
      ·have h9q := h9; try simp only [decide_eq_true_eq, decide_eq_false_iff_not, beq_iff_eq, beq_eq_false_iff_ne, bne_iff_ne, bne_eq_false_iff_eq, ne_eq, Decidable.not_not, Bool.not_eq_true, Bool.not_eq_false, gt_iff_lt, ge_iff_le, Int.not_lt, Int.not_le] at h9q
       have hlt : j < cntN p := by have := h9q; omega
       show AWl _ _ _ _ _
       refine aMovV x rfl ?_
       refine aN rfl rfl (by constructor) ?_
       refine aIxB (st.slc hx) rfl rfl (by omega) fun b60 o60 g60 => ?_
       refine aLdG rfl g60 ?_
       refine aConvV (n' := (recN p j).1) rfl (by have := hb.getD (5 + 9 * j); rw [wi _ (by rw [show (((5 + 9 * j : Nat) : Int)).toNat = 5 + 9 * j from rfl]; omega)]; rfl) ?_
       refine aN rfl rfl (by constructor) ?_
       refine sE ?_
       show AWl _ _ _ _ _
       refine aMovV x rfl ?_
       refine aN rfl rfl (by constructor) ?_
       refine aBinV (.int .i64 ((5 + 9 * j + 1 : Nat) : Int)) rfl rfl (by show some (Value.int .i64 (IntKind.i64.wrap _)) = _; rw [wi _ (by omega)]; rfl) ?_
       refine aC (get_call (st.slc hx) hb (by omega) (by decide)) fun v67 H10 ⟨hv, st1⟩ => ?_
       subst hv
       replace st := st.call st1 rfl
       clear st1
       iterate 5 refine aN rfl rfl (by constructor) ?_
       refine sE ?_
       show AWl _ _ _ _ _
       iterate 4 refine aN rfl rfl (by constructor) ?_
       refine gCase 73 rfl (fun h11 => ?_) (fun h11 => ?_)
       ·have h11q := h11; try simp only [decide_eq_true_eq, decide_eq_false_iff_not, beq_iff_eq, beq_eq_false_iff_ne, bne_iff_ne, bne_eq_false_iff_eq, ne_eq, Decidable.not_not, Bool.not_eq_true, Bool.not_eq_false, gt_iff_lt, ge_iff_le, Int.not_lt, Int.not_le] at h11q
        refine gF rfl (by decide) ?_
        refine gF rfl (by decide) ?_
        iterate 2 refine aN rfl rfl (by constructor) ?_
        refine gF rfl (by decide) ?_
        refine gF rfl (by decide) ?_
        refine aN rfl rfl (by constructor) ?_
        refine sE ?_
        show AW _ (.cond _ _ _) _ _ _
        refine cT rfl ?_
        show AWl _ _ _ _ _
        iterate 2 refine aN rfl rfl (by constructor) ?_
        refine sE ?_
        refine ⟨_, out2 (r_tmp rfl (by constructor)) (r_tmp rfl (by constructor)) ⟨rfl, rfl⟩, ?_⟩
        have hokj := ok_f1 h11
        exact .inl ⟨lm2 q0 q1 (ok_not hlt hokj), rfl, st.drop⟩
       ·have h11q := h11; try simp only [decide_eq_true_eq, decide_eq_false_iff_not, beq_iff_eq, beq_eq_false_iff_ne, bne_iff_ne, bne_eq_false_iff_eq, ne_eq, Decidable.not_not, Bool.not_eq_true, Bool.not_eq_false, gt_iff_lt, ge_iff_le, Int.not_lt, Int.not_le] at h11q
        refine gT rfl ?_
        refine aN rfl rfl (by constructor) ?_
        refine gT rfl ?_
        iterate 3 refine aN rfl rfl (by constructor) ?_
        refine gCase 77 rfl (fun h12 => ?_) (fun h12 => ?_)
        ·have h12q := h12; try simp only [decide_eq_true_eq, decide_eq_false_iff_not, beq_iff_eq, beq_eq_false_iff_ne, bne_iff_ne, bne_eq_false_iff_eq, ne_eq, Decidable.not_not, Bool.not_eq_true, Bool.not_eq_false, gt_iff_lt, ge_iff_le, Int.not_lt, Int.not_le] at h12q
         refine gF rfl (by decide) ?_
         refine gF rfl (by decide) ?_
         refine aN rfl rfl (by constructor) ?_
         refine sE ?_
         show AW _ (.cond _ _ _) _ _ _
         refine cT rfl ?_
         show AWl _ _ _ _ _
         iterate 2 refine aN rfl rfl (by constructor) ?_
         refine sE ?_
         refine ⟨_, out2 (r_tmp rfl (by constructor)) (r_tmp rfl (by constructor)) ⟨rfl, rfl⟩, ?_⟩
         have hokj := ok_f2 h12
         exact .inl ⟨lm2 q0 q1 (ok_not hlt hokj), rfl, st.drop⟩
        ·have h12q := h12; try simp only [decide_eq_true_eq, decide_eq_false_iff_not, beq_iff_eq, beq_eq_false_iff_ne, bne_iff_ne, bne_eq_false_iff_eq, ne_eq, Decidable.not_not, Bool.not_eq_true, Bool.not_eq_false, gt_iff_lt, ge_iff_le, Int.not_lt, Int.not_le] at h12q
         refine gT rfl ?_
         refine aN rfl rfl (by constructor) ?_
         refine gT rfl ?_
         iterate 2 refine aN rfl rfl (by constructor) ?_
         refine sE ?_
         show AW _ (.cond _ _ _) _ _ _
         refine cC' rfl (fun h13 => ?_) (fun h13 => ?_)
         ·have h13q := h13; try simp only [decide_eq_true_eq, decide_eq_false_iff_not, beq_iff_eq, beq_eq_false_iff_ne, bne_iff_ne, bne_eq_false_iff_eq, ne_eq, Decidable.not_not, Bool.not_eq_true, Bool.not_eq_false, gt_iff_lt, ge_iff_le, Int.not_lt, Int.not_le] at h13q
          show AWl _ _ _ _ _
          iterate 2 refine aN rfl rfl (by constructor) ?_
          refine sE ?_
          refine ⟨_, out2 (r_tmp rfl (by constructor)) (r_tmp rfl (by constructor)) ⟨rfl, rfl⟩, ?_⟩
          have hokj := ok_f3 h13
          exact .inl ⟨lm2 q0 q1 (ok_not hlt hokj), rfl, st.drop⟩
         ·have h13q := h13; try simp only [decide_eq_true_eq, decide_eq_false_iff_not, beq_iff_eq, beq_eq_false_iff_ne, bne_iff_ne, bne_eq_false_iff_eq, ne_eq, Decidable.not_not, Bool.not_eq_true, Bool.not_eq_false, gt_iff_lt, ge_iff_le, Int.not_lt, Int.not_le] at h13q
          show AWl _ _ _ _ _
          have hokj := ok_t h11 h12 h13
          iterate 2 refine aN rfl rfl (by constructor) ?_
          refine sE ?_
          show AWl _ _ _ _ _
          iterate 4 refine aN rfl rfl (by constructor) ?_
          refine aLdQ st 0 rfl rfl rfl rfl ?_
          iterate 2 refine aN rfl rfl (by constructor) ?_
          refine aBld rfl (by repeat constructor) ?_
          refine aLit st rfl (by repeat constructor) fun b90 H14 st => ?_
          refine aApp st 2 (ob := ob) rfl rfl rfl (by decide) (by rw [flat_len' regE_len, recs_len]; try omega) (st.rowAll 0 rfl (by first | rfl | (simp [beB_len, *]; done) | (simp [beB_len, *]; omega))).src (by first | rfl | simp) (by first | (rw [recs_len]; omega) | omega) (by first | (rw [recs_len]; omega) | omega) fun b91 H15 hp91 st => ?_
          have st := st.recell 2 rfl (cs' := (recs p (j + 1)).flatMap regE) (flat_snoc (recs_step p j) rfl)
          rw [show (recs p j).length + 1 = (recs p (j + 1)).length by simp [recs_len]]
          iterate 2 refine aN rfl rfl (by constructor) ?_
          refine aStS (st.rowAcc 2 rfl (by decide) (by first | (rw [flat_len' regE_len]; done) | (rw [flat_len' regE_len]; simp [recs_len]))) st 1 rfl rfl rfl (by first | decide | simp) fun H16 st => ?_
          refine sE ?_
          show AWl _ _ _ _ _
          iterate 3 refine aN rfl rfl (by constructor) ?_
          refine sE ?_
          exact ⟨_, by omega, j + 1, b91, rfl, by omega, fun i hi => by { rcases Nat.lt_succ_iff_lt_or_eq.1 hi with h | h; exact hok i h; subst h; exact hokj }, congrArg (Value.int .i64) (by rw [wi _ (by omega)]; omega), rfl, (st.sel [1, 2] (by decide))⟩
      ·have h9q := h9; try simp only [decide_eq_true_eq, decide_eq_false_iff_not, beq_iff_eq, beq_eq_false_iff_ne, bne_iff_ne, bne_eq_false_iff_eq, ne_eq, Decidable.not_not, Bool.not_eq_true, Bool.not_eq_false, gt_iff_lt, ge_iff_le, Int.not_lt, Int.not_le] at h9q
       have hge : j = cntN p := by have := h9q; omega
       subst hge
       have q2 := ok_all hok
       show AWl _ _ _ _ _
       refine aN rfl rfl (by constructor) ?_
       refine aMovV x rfl ?_
       refine aIxB (st.slc hx) rfl rfl (by omega) fun b96 o96 g96 => ?_
       refine aLdG rfl g96 ?_
       refine aN rfl rfl (by constructor) ?_
       refine aConvV (n' := hold3 p) rfl rfl ?_
       iterate 2 refine aN rfl rfl (by constructor) ?_
       refine aSt st 0 rfl rfl rfl rfl (by first | rfl | simp [cellsOf, *]) (by first | decide | (simp [*]; done) | (simp [k8]; done)) (by repeat constructor) fun H17 st => ?_
       refine sE ?_
       show AWl _ _ _ _ _
       iterate 3 refine aN rfl rfl (by constructor) ?_
       refine aLd st 0 rfl rfl rfl (by constructor) ?_
       iterate 2 refine aN rfl rfl (by constructor) ?_
       refine gCase 107 rfl (fun h18 => ?_) (fun h18 => ?_)
       ·have h18q := h18; try simp only [decide_eq_true_eq, decide_eq_false_iff_not, beq_iff_eq, beq_eq_false_iff_ne, bne_iff_ne, bne_eq_false_iff_eq, ne_eq, Decidable.not_not, Bool.not_eq_true, Bool.not_eq_false, gt_iff_lt, ge_iff_le, Int.not_lt, Int.not_le] at h18q
        refine gF rfl (by decide) ?_
        refine gF rfl (by decide) ?_
        refine gF rfl (by decide) ?_
        refine gF rfl (by decide) ?_
        refine gF rfl (by decide) ?_
        refine aN rfl rfl (by constructor) ?_
        refine sE ?_
        show AW _ (.cond _ _ _) _ _ _
        refine cT rfl ?_
        show AWl _ _ _ _ _
        have q3 : (p.getD 2 0 = 0 ∨ allB (p.getD 2 0) = true) := by simp_all
        iterate 3 refine aN rfl rfl (by constructor) ?_
        refine aLd st 0 rfl rfl rfl (by constructor) ?_
        iterate 2 refine aN rfl rfl (by constructor) ?_
        refine gCase 119 rfl (fun h19 => ?_) (fun h19 => ?_)
        ·have h19q := h19; try simp only [decide_eq_true_eq, decide_eq_false_iff_not, beq_iff_eq, beq_eq_false_iff_ne, bne_iff_ne, bne_eq_false_iff_eq, ne_eq, Decidable.not_not, Bool.not_eq_true, Bool.not_eq_false, gt_iff_lt, ge_iff_le, Int.not_lt, Int.not_le] at h19q
         refine gF rfl (by decide) ?_
         refine gF rfl (by decide) ?_
         refine gF rfl (by decide) ?_
         refine gF rfl (by decide) ?_
         refine gF rfl (by decide) ?_
         refine gF rfl (by decide) ?_
         refine gU rfl ?_
         refine gU rfl ?_
         refine gU rfl ?_
         refine gU rfl ?_
         refine gU rfl ?_
         refine gU rfl ?_
         refine gF rfl (by decide) ?_
         refine aN rfl rfl (by constructor) ?_
         refine sE ?_
         show AW _ (.cond _ _ _) _ _ _
         refine cT rfl ?_
         show AWl _ _ _ _ _
         iterate 2 refine aN rfl rfl (by constructor) ?_
         refine sE ?_
         refine ⟨_, out2 (r_tmp rfl (by constructor)) (r_tmp rfl (by constructor)) ⟨rfl, rfl⟩, ?_⟩
         have hk : (hold3 p ≠ -1 ∨ (allB (p.getD 2 0) = true ∧ cntN p = 0)) := .inl (by simpa using h19)
         exact .inl ⟨lm3 q0 q1 q2 q3 hk, rfl, st.drop⟩
        ·have h19q := h19; try simp only [decide_eq_true_eq, decide_eq_false_iff_not, beq_iff_eq, beq_eq_false_iff_ne, bne_iff_ne, bne_eq_false_iff_eq, ne_eq, Decidable.not_not, Bool.not_eq_true, Bool.not_eq_false, gt_iff_lt, ge_iff_le, Int.not_lt, Int.not_le] at h19q
         refine gT rfl ?_
         refine aN rfl rfl (by constructor) ?_
         refine gT rfl ?_
         refine aN rfl rfl (by constructor) ?_
         refine gT rfl ?_
         refine aN rfl rfl (by constructor) ?_
         refine gT rfl ?_
         refine aLd st 0 rfl rfl rfl (by constructor) ?_
         refine gT rfl ?_
         refine aC (all_call) fun v124 H20 ⟨hv, st1⟩ => ?_
         subst hv
         replace st := st.call st1 rfl
         clear st1
         refine gT rfl ?_
         refine aN rfl rfl (by constructor) ?_
         refine gCase 125 rfl (fun h21 => ?_) (fun h21 => ?_)
         ·have h21q := h21; try simp only [decide_eq_true_eq, decide_eq_false_iff_not, beq_iff_eq, beq_eq_false_iff_ne, bne_iff_ne, bne_eq_false_iff_eq, ne_eq, Decidable.not_not, Bool.not_eq_true, Bool.not_eq_false, gt_iff_lt, ge_iff_le, Int.not_lt, Int.not_le] at h21q
          refine gT rfl ?_
          refine aN rfl rfl (by constructor) ?_
          refine gT rfl ?_
          refine aN rfl rfl (by constructor) ?_
          refine gT rfl ?_
          refine aN rfl rfl (by constructor) ?_
          refine gT rfl ?_
          refine aLdQ st 0 rfl rfl rfl rfl ?_
          refine gT rfl ?_
          refine aLen (st.rowAcc 1 rfl (by decide) (by rw [flat_len' regE_len, recs_len]; try omega)) rfl ?_
          refine gT rfl ?_
          refine aBinV (.bool (cntN p == 0)) rfl rfl (by exact congrArg (fun q => some (Value.bool q)) (by rw [recs_len]; exact int_beq0 _)) ?_
          refine gT rfl ?_
          iterate 2 refine aN rfl rfl (by constructor) ?_
          refine sE ?_
          show AW _ (.cond _ _ _) _ _ _
          refine cC' rfl (fun h22 => ?_) (fun h22 => ?_)
          ·have h22q := h22; try simp only [decide_eq_true_eq, decide_eq_false_iff_not, beq_iff_eq, beq_eq_false_iff_ne, bne_iff_ne, bne_eq_false_iff_eq, ne_eq, Decidable.not_not, Bool.not_eq_true, Bool.not_eq_false, gt_iff_lt, ge_iff_le, Int.not_lt, Int.not_le] at h22q
           show AWl _ _ _ _ _
           iterate 2 refine aN rfl rfl (by constructor) ?_
           refine sE ?_
           refine ⟨_, out2 (r_tmp rfl (by constructor)) (r_tmp rfl (by constructor)) ⟨rfl, rfl⟩, ?_⟩
           have hk : (hold3 p ≠ -1 ∨ (allB (p.getD 2 0) = true ∧ cntN p = 0)) := .inr ⟨h21, by simpa using h22⟩
           exact .inl ⟨lm3 q0 q1 q2 q3 hk, rfl, st.drop⟩
          ·have h22q := h22; try simp only [decide_eq_true_eq, decide_eq_false_iff_not, beq_iff_eq, beq_eq_false_iff_ne, bne_iff_ne, bne_eq_false_iff_eq, ne_eq, Decidable.not_not, Bool.not_eq_true, Bool.not_eq_false, gt_iff_lt, ge_iff_le, Int.not_lt, Int.not_le] at h22q
           show AWl _ _ _ _ _
           iterate 3 refine aN rfl rfl (by constructor) ?_
           refine sE ?_
           refine ⟨_, out2 (r_tmp rfl (by constructor)) (r_tmp rfl (by constructor)) ⟨rfl, rfl⟩, ?_⟩
           have e1 : hold3 p = -1 := by simpa using h19
           have hk : ¬ (hold3 p ≠ -1 ∨ (allB (p.getD 2 0) = true ∧ cntN p = 0)) := fun hc => hc.elim (fun a => a e1) (fun a => by have h1 := h22; rw [a.2] at h1; cases h1)
           exact .inr ⟨loadT p, b12, ob, lm4 q0 q1 q2 q3 hk, rfl, st.sel [0, 1] (by decide)⟩
         ·have h21q := h21; try simp only [decide_eq_true_eq, decide_eq_false_iff_not, beq_iff_eq, beq_eq_false_iff_ne, bne_iff_ne, bne_eq_false_iff_eq, ne_eq, Decidable.not_not, Bool.not_eq_true, Bool.not_eq_false, gt_iff_lt, ge_iff_le, Int.not_lt, Int.not_le] at h21q
          refine gF rfl (by decide) ?_
          refine gF rfl (by decide) ?_
          refine gF rfl (by decide) ?_
          refine gF rfl (by decide) ?_
          refine gF rfl (by decide) ?_
          refine gF rfl (by decide) ?_
          refine gT rfl ?_
          iterate 2 refine aN rfl rfl (by constructor) ?_
          refine sE ?_
          show AW _ (.cond _ _ _) _ _ _
          refine cF' rfl ?_
          show AWl _ _ _ _ _
          iterate 3 refine aN rfl rfl (by constructor) ?_
          refine sE ?_
          refine ⟨_, out2 (r_tmp rfl (by constructor)) (r_tmp rfl (by constructor)) ⟨rfl, rfl⟩, ?_⟩
          have e1 : hold3 p = -1 := by simpa using h19
          have hk : ¬ (hold3 p ≠ -1 ∨ (allB (p.getD 2 0) = true ∧ cntN p = 0)) := fun hc => hc.elim (fun a => a e1) (fun a => by have h1 := a.1.symm.trans h21; cases h1)
          exact .inr ⟨loadT p, b12, ob, lm4 q0 q1 q2 q3 hk, rfl, st.sel [0, 1] (by decide)⟩
       ·have h18q := h18; try simp only [decide_eq_true_eq, decide_eq_false_iff_not, beq_iff_eq, beq_eq_false_iff_ne, bne_iff_ne, bne_eq_false_iff_eq, ne_eq, Decidable.not_not, Bool.not_eq_true, Bool.not_eq_false, gt_iff_lt, ge_iff_le, Int.not_lt, Int.not_le] at h18q
        refine gT rfl ?_
        refine aN rfl rfl (by constructor) ?_
        refine gT rfl ?_
        refine aN rfl rfl (by constructor) ?_
        refine gT rfl ?_
        refine aN rfl rfl (by constructor) ?_
        refine gT rfl ?_
        refine aLd st 0 rfl rfl rfl (by constructor) ?_
        refine gT rfl ?_
        refine aC (all_call) fun v112 H23 ⟨hv, st1⟩ => ?_
        subst hv
        replace st := st.call st1 rfl
        clear st1
        refine aN rfl rfl (by constructor) ?_
        refine sE ?_
        show AW _ (.cond _ _ _) _ _ _
        refine cC' rfl (fun h24 => ?_) (fun h24 => ?_)
        ·have h24q := h24; try simp only [decide_eq_true_eq, decide_eq_false_iff_not, beq_iff_eq, beq_eq_false_iff_ne, bne_iff_ne, bne_eq_false_iff_eq, ne_eq, Decidable.not_not, Bool.not_eq_true, Bool.not_eq_false, gt_iff_lt, ge_iff_le, Int.not_lt, Int.not_le] at h24q
         show AWl _ _ _ _ _
         have q3 : (p.getD 2 0 = 0 ∨ allB (p.getD 2 0) = true) := by simp_all
         iterate 3 refine aN rfl rfl (by constructor) ?_
         refine aLd st 0 rfl rfl rfl (by constructor) ?_
         iterate 2 refine aN rfl rfl (by constructor) ?_
         refine gCase 119 rfl (fun h25 => ?_) (fun h25 => ?_)
         ·have h25q := h25; try simp only [decide_eq_true_eq, decide_eq_false_iff_not, beq_iff_eq, beq_eq_false_iff_ne, bne_iff_ne, bne_eq_false_iff_eq, ne_eq, Decidable.not_not, Bool.not_eq_true, Bool.not_eq_false, gt_iff_lt, ge_iff_le, Int.not_lt, Int.not_le] at h25q
          refine gF rfl (by decide) ?_
          refine gF rfl (by decide) ?_
          refine gF rfl (by decide) ?_
          refine gF rfl (by decide) ?_
          refine gF rfl (by decide) ?_
          refine gF rfl (by decide) ?_
          refine gU rfl ?_
          refine gU rfl ?_
          refine gU rfl ?_
          refine gU rfl ?_
          refine gU rfl ?_
          refine gU rfl ?_
          refine gF rfl (by decide) ?_
          refine aN rfl rfl (by constructor) ?_
          refine sE ?_
          show AW _ (.cond _ _ _) _ _ _
          refine cT rfl ?_
          show AWl _ _ _ _ _
          iterate 2 refine aN rfl rfl (by constructor) ?_
          refine sE ?_
          refine ⟨_, out2 (r_tmp rfl (by constructor)) (r_tmp rfl (by constructor)) ⟨rfl, rfl⟩, ?_⟩
          have hk : (hold3 p ≠ -1 ∨ (allB (p.getD 2 0) = true ∧ cntN p = 0)) := .inl (by simpa using h25)
          exact .inl ⟨lm3 q0 q1 q2 q3 hk, rfl, st.drop⟩
         ·have h25q := h25; try simp only [decide_eq_true_eq, decide_eq_false_iff_not, beq_iff_eq, beq_eq_false_iff_ne, bne_iff_ne, bne_eq_false_iff_eq, ne_eq, Decidable.not_not, Bool.not_eq_true, Bool.not_eq_false, gt_iff_lt, ge_iff_le, Int.not_lt, Int.not_le] at h25q
          refine gT rfl ?_
          refine aN rfl rfl (by constructor) ?_
          refine gT rfl ?_
          refine aN rfl rfl (by constructor) ?_
          refine gT rfl ?_
          refine aN rfl rfl (by constructor) ?_
          refine gT rfl ?_
          refine aLd st 0 rfl rfl rfl (by constructor) ?_
          refine gT rfl ?_
          refine aC (all_call) fun v124 H26 ⟨hv, st1⟩ => ?_
          subst hv
          replace st := st.call st1 rfl
          clear st1
          refine gT rfl ?_
          refine aMovV (.bool true) (congrArg Value.bool h24) ?_
          refine gT rfl ?_
          refine aN rfl rfl (by constructor) ?_
          refine gT rfl ?_
          refine aN rfl rfl (by constructor) ?_
          refine gT rfl ?_
          refine aN rfl rfl (by constructor) ?_
          refine gT rfl ?_
          refine aLdQ st 0 rfl rfl rfl rfl ?_
          refine gT rfl ?_
          refine aLen (st.rowAcc 1 rfl (by decide) (by rw [flat_len' regE_len, recs_len]; try omega)) rfl ?_
          refine gT rfl ?_
          refine aBinV (.bool (cntN p == 0)) rfl rfl (by exact congrArg (fun q => some (Value.bool q)) (by rw [recs_len]; exact int_beq0 _)) ?_
          refine gT rfl ?_
          iterate 2 refine aN rfl rfl (by constructor) ?_
          refine sE ?_
          show AW _ (.cond _ _ _) _ _ _
          refine cC' rfl (fun h27 => ?_) (fun h27 => ?_)
          ·have h27q := h27; try simp only [decide_eq_true_eq, decide_eq_false_iff_not, beq_iff_eq, beq_eq_false_iff_ne, bne_iff_ne, bne_eq_false_iff_eq, ne_eq, Decidable.not_not, Bool.not_eq_true, Bool.not_eq_false, gt_iff_lt, ge_iff_le, Int.not_lt, Int.not_le] at h27q
           show AWl _ _ _ _ _
           iterate 2 refine aN rfl rfl (by constructor) ?_
           refine sE ?_
           refine ⟨_, out2 (r_tmp rfl (by constructor)) (r_tmp rfl (by constructor)) ⟨rfl, rfl⟩, ?_⟩
           have hk : (hold3 p ≠ -1 ∨ (allB (p.getD 2 0) = true ∧ cntN p = 0)) := .inr ⟨h24, by simpa using h27⟩
           exact .inl ⟨lm3 q0 q1 q2 q3 hk, rfl, st.drop⟩
          ·have h27q := h27; try simp only [decide_eq_true_eq, decide_eq_false_iff_not, beq_iff_eq, beq_eq_false_iff_ne, bne_iff_ne, bne_eq_false_iff_eq, ne_eq, Decidable.not_not, Bool.not_eq_true, Bool.not_eq_false, gt_iff_lt, ge_iff_le, Int.not_lt, Int.not_le] at h27q
           show AWl _ _ _ _ _
           iterate 3 refine aN rfl rfl (by constructor) ?_
           refine sE ?_
           refine ⟨_, out2 (r_tmp rfl (by constructor)) (r_tmp rfl (by constructor)) ⟨rfl, rfl⟩, ?_⟩
           have e1 : hold3 p = -1 := by simpa using h25
           have hk : ¬ (hold3 p ≠ -1 ∨ (allB (p.getD 2 0) = true ∧ cntN p = 0)) := fun hc => hc.elim (fun a => a e1) (fun a => by have h1 := h27; rw [a.2] at h1; cases h1)
           exact .inr ⟨loadT p, b12, ob, lm4 q0 q1 q2 q3 hk, rfl, st.sel [0, 1] (by decide)⟩
        ·have h24q := h24; try simp only [decide_eq_true_eq, decide_eq_false_iff_not, beq_iff_eq, beq_eq_false_iff_ne, bne_iff_ne, bne_eq_false_iff_eq, ne_eq, Decidable.not_not, Bool.not_eq_true, Bool.not_eq_false, gt_iff_lt, ge_iff_le, Int.not_lt, Int.not_le] at h24q
         show AWl _ _ _ _ _
         have q3 : ¬ (p.getD 2 0 = 0 ∨ allB (p.getD 2 0) = true) := by simp_all
         iterate 4 refine aN rfl rfl (by constructor) ?_
         refine aLd st 0 rfl rfl rfl (by constructor) ?_
         refine aC (key_call (P := loadT p) (n := hold3 p) (st.get (j := 0) rfl) (st.rowAcc 1 rfl (by decide) (flat_len' regE_len _)) (by show (recs p (cntN p)).length ≤ 1000; rw [recs_len]; omega)) fun v141 H28 ⟨hv, st1⟩ => ?_
         subst hv
         replace st := st.call st1 rfl
         clear st1
         rw [show (loadT p).regs = recs p (cntN p) from rfl]
         iterate 5 refine aN rfl rfl (by constructor) ?_
         refine sE ?_
         show AWl _ _ _ _ _
         iterate 3 refine aN rfl rfl (by constructor) ?_
         refine gCase 146 rfl (fun h29 => ?_) (fun h29 => ?_)
         ·have h29q := h29; try simp only [decide_eq_true_eq, decide_eq_false_iff_not, beq_iff_eq, beq_eq_false_iff_ne, bne_iff_ne, bne_eq_false_iff_eq, ne_eq, Decidable.not_not, Bool.not_eq_true, Bool.not_eq_false, gt_iff_lt, ge_iff_le, Int.not_lt, Int.not_le] at h29q
          have h29n : (keyM (recs p (cntN p)) (hold3 p)).2 = false := Eq.mp (Bool.not_eq_true' _) h29
          refine gF rfl (by decide) ?_
          refine gF rfl (by decide) ?_
          refine gF rfl (by decide) ?_
          refine gF rfl (by decide) ?_
          refine gF rfl (by decide) ?_
          refine gF rfl (by decide) ?_
          refine aN rfl rfl (by constructor) ?_
          refine sE ?_
          show AW _ (.cond _ _ _) _ _ _
          refine cT rfl ?_
          show AWl _ _ _ _ _
          iterate 2 refine aN rfl rfl (by constructor) ?_
          refine sE ?_
          refine ⟨_, out2 (r_tmp rfl (by constructor)) (r_tmp rfl (by constructor)) ⟨rfl, rfl⟩, ?_⟩
          have hk : ¬ ((keyM (recs p (cntN p)) (hold3 p)).2 = true ∧ typeB (p.getD 2 0) = true) := fun hc => by have h1 := hc.1.symm.trans h29n; cases h1
          exact .inl ⟨lm5 q0 q1 q2 q3 hk, rfl, st.drop⟩
         ·have h29q := h29; try simp only [decide_eq_true_eq, decide_eq_false_iff_not, beq_iff_eq, beq_eq_false_iff_ne, bne_iff_ne, bne_eq_false_iff_eq, ne_eq, Decidable.not_not, Bool.not_eq_true, Bool.not_eq_false, gt_iff_lt, ge_iff_le, Int.not_lt, Int.not_le] at h29q
          have h29n : (keyM (recs p (cntN p)) (hold3 p)).2 = true := Eq.mp (Bool.not_eq_false' _) h29
          refine gT rfl ?_
          refine aN rfl rfl (by constructor) ?_
          refine gT rfl ?_
          refine aN rfl rfl (by constructor) ?_
          refine gT rfl ?_
          refine aN rfl rfl (by constructor) ?_
          refine gT rfl ?_
          refine aLd st 0 rfl rfl rfl (by constructor) ?_
          refine gT rfl ?_
          refine aC (types_call) fun v151 H30 ⟨hv, st1⟩ => ?_
          subst hv
          replace st := st.call st1 rfl
          clear st1
          refine gT rfl ?_
          iterate 2 refine aN rfl rfl (by constructor) ?_
          refine sE ?_
          show AW _ (.cond _ _ _) _ _ _
          refine cC' rfl (fun h31 => ?_) (fun h31 => ?_)
          ·have h31q := h31; try simp only [decide_eq_true_eq, decide_eq_false_iff_not, beq_iff_eq, beq_eq_false_iff_ne, bne_iff_ne, bne_eq_false_iff_eq, ne_eq, Decidable.not_not, Bool.not_eq_true, Bool.not_eq_false, gt_iff_lt, ge_iff_le, Int.not_lt, Int.not_le] at h31q
           have h31n : typeB (p.getD 2 0) = false := Eq.mp (Bool.not_eq_true' _) h31
           show AWl _ _ _ _ _
           iterate 2 refine aN rfl rfl (by constructor) ?_
           refine sE ?_
           refine ⟨_, out2 (r_tmp rfl (by constructor)) (r_tmp rfl (by constructor)) ⟨rfl, rfl⟩, ?_⟩
           have hk : ¬ ((keyM (recs p (cntN p)) (hold3 p)).2 = true ∧ typeB (p.getD 2 0) = true) := fun hc => by have h1 := hc.2.symm.trans h31n; cases h1
           exact .inl ⟨lm5 q0 q1 q2 q3 hk, rfl, st.drop⟩
          ·have h31q := h31; try simp only [decide_eq_true_eq, decide_eq_false_iff_not, beq_iff_eq, beq_eq_false_iff_ne, bne_iff_ne, bne_eq_false_iff_eq, ne_eq, Decidable.not_not, Bool.not_eq_true, Bool.not_eq_false, gt_iff_lt, ge_iff_le, Int.not_lt, Int.not_le] at h31q
           have h31n : typeB (p.getD 2 0) = true := Eq.mp (Bool.not_eq_false' _) h31
           show AWl _ _ _ _ _
           iterate 3 refine aN rfl rfl (by constructor) ?_
           refine sE ?_
           refine ⟨_, out2 (r_tmp rfl (by constructor)) (r_tmp rfl (by constructor)) ⟨rfl, rfl⟩, ?_⟩
           have hk : ((keyM (recs p (cntN p)) (hold3 p)).2 = true ∧ typeB (p.getD 2 0) = true) := ⟨h29n, h31n⟩
           exact .inr ⟨loadT p, b12, ob, lm6 q0 q1 q2 q3 hk, rfl, st.sel [0, 1] (by decide)⟩
end Go.Proofs.Ytihkghfmihdicaa.Abs
