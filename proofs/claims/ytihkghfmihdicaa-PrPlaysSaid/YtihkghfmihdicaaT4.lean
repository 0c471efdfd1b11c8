/- Reservations: services. -/
import Derived.Test.YtihkghfmihdicaaT3
set_option linter.unusedVariables false
set_option linter.unusedSimpArgs false
set_option maxRecDepth 100000
namespace Go.Proofs.Ytihkghfmihdicaa.Abs
open Go Go.RowKit
theorem holds_call {H : Hp} {b : Nat} {x : Value} {P : PT} {n : Int} (hk : H.m b = some ⟨true, 79, [x, .int .u32 P.gen, .int .u8 P.kind, .int .i64 P.holder, .bool P.aptpl]⟩) (hS : Sl H 2 P.regs.length (P.regs.flatMap regE) x) (hn : P.regs.length ≤ 1000) :
  ACalls Try.prog 17 [.pointer (some ⟨b, 0, none⟩), .int .i64 n] H (fun v H' => v = .bool (holdsM P n) ∧ Stt [] H H' []) := by
 refine acallsW Try.func17 f17_ok (Nat.le_of_ble_eq_true rfl) fun hw => ?_
 have st : Stt [] H H [] := Stt.start hw
 replace st := st.ro hk (by simp)
 unfold f17c
 show AWl _ _ _ _ _
 refine aN rfl rfl (by constructor) ?_
 refine sE ?_
 show AWl _ _ _ _ _
 refine aN rfl rfl (by constructor) ?_
 refine aBinV (.bool false) rfl rfl rfl ?_
 refine aN rfl rfl (by constructor) ?_
 refine gT rfl ?_
 refine aN rfl rfl (by constructor) ?_
 refine gT rfl ?_
 refine aN rfl rfl (by constructor) ?_
 refine gT rfl ?_
 refine aN rfl rfl (by constructor) ?_
 refine gT rfl ?_
 refine aLd st 0 rfl rfl rfl (by constructor) ?_
 refine gT rfl ?_
 iterate 2 refine aN rfl rfl (by constructor) ?_
 refine sE ?_
 show AW _ (.cond _ _ _) _ _ _
 refine cC' rfl (fun h1 => ?_) (fun h1 => ?_)
 ·have h1q := h1; try simp only [decide_eq_true_eq, decide_eq_false_iff_not, beq_iff_eq, beq_eq_false_iff_ne, bne_iff_ne, bne_eq_false_iff_eq, ne_eq, Decidable.not_not, Bool.not_eq_true, Bool.not_eq_false, gt_iff_lt, ge_iff_le, Int.not_lt, Int.not_le] at h1q
  show AWl _ _ _ _ _
  refine aN rfl rfl (by constructor) ?_
  refine sE ?_
  refine ⟨_, out1 (r_tmp rfl (by constructor)), ?_⟩
  have h0 : P.kind = 0 := by simpa using h1
  exact ⟨by unfold holdsM; rw [if_pos h0], st.drop⟩
 ·have h1q := h1; try simp only [decide_eq_true_eq, decide_eq_false_iff_not, beq_iff_eq, beq_eq_false_iff_ne, bne_iff_ne, bne_eq_false_iff_eq, ne_eq, Decidable.not_not, Bool.not_eq_true, Bool.not_eq_false, gt_iff_lt, ge_iff_le, Int.not_lt, Int.not_le] at h1q
  show AWl _ _ _ _ _
  iterate 3 refine aN rfl rfl (by constructor) ?_
  refine aLd st 0 rfl rfl rfl (by constructor) ?_
  refine aC (all_call) fun v20 H2 ⟨hv, st1⟩ => ?_
  subst hv
  replace st := st.call st1 rfl
  clear st1
  refine sE ?_
  show AW _ (.cond _ _ _) _ _ _
  refine cC' rfl (fun h3 => ?_) (fun h3 => ?_)
  ·have h3q := h3; try simp only [decide_eq_true_eq, decide_eq_false_iff_not, beq_iff_eq, beq_eq_false_iff_ne, bne_iff_ne, bne_eq_false_iff_eq, ne_eq, Decidable.not_not, Bool.not_eq_true, Bool.not_eq_false, gt_iff_lt, ge_iff_le, Int.not_lt, Int.not_le] at h3q
   show AWl _ _ _ _ _
   iterate 2 refine aN rfl rfl (by constructor) ?_
   refine aC (key_call (P := P) (st.frm0.2 _ (hw _ _ hk) ▸ hk) (st.slc hS) hn) fun v24 H4 ⟨hv, st1⟩ => ?_
   subst hv
   replace st := st.call st1 rfl
   clear st1
   iterate 5 refine aN rfl rfl (by constructor) ?_
   refine sE ?_
   show AWl _ _ _ _ _
   iterate 2 refine aN rfl rfl (by constructor) ?_
   refine sE ?_
   refine ⟨_, out1 (r_tmp rfl (by constructor)), ?_⟩
   have h0 : ¬ P.kind = 0 := by simpa using h1
   exact ⟨by unfold holdsM; rw [if_neg h0, if_pos h3], st.drop⟩
  ·have h3q := h3; try simp only [decide_eq_true_eq, decide_eq_false_iff_not, beq_iff_eq, beq_eq_false_iff_ne, bne_iff_ne, bne_eq_false_iff_eq, ne_eq, Decidable.not_not, Bool.not_eq_true, Bool.not_eq_false, gt_iff_lt, ge_iff_le, Int.not_lt, Int.not_le] at h3q
   show AWl _ _ _ _ _
   iterate 3 refine aN rfl rfl (by constructor) ?_
   refine aLd st 0 rfl rfl rfl (by constructor) ?_
   iterate 3 refine aN rfl rfl (by constructor) ?_
   refine sE ?_
   refine ⟨_, out1 (r_tmp rfl (by constructor)), ?_⟩
   have h0 : ¬ P.kind = 0 := by simpa using h1
   exact ⟨by unfold holdsM; rw [if_neg h0, if_neg (by rw [h3]; decide)], st.drop⟩
theorem reserve_call {H : Hp} {b : Nat} {ob : Option Nat} {P : PT} {n : Int} {o : POut} (hk : H.m b = some ⟨true, 79, [accV ob P.regs.length 2, .int .u32 P.gen, .int .u8 P.kind, .int .i64 P.holder, .bool P.aptpl]⟩) (hr : ∀ c, ob = some c → H.m c = some ⟨true, 30, (P.regs).flatMap regE⟩) (hr0 : ob = none → P.regs.flatMap regE = []) (hn : P.regs.length ≤ 400) (hob : ob ≠ some b) :
  ACalls Try.prog 31 [.pointer (some ⟨b, 0, none⟩), .int .i64 n, .agg #[.int .u8 o.sv, .int .u8 o.ty, .int .u64 o.key, .int .u64 o.act, .bool o.ap]] H (fun v H' => ∃ ob' oe, v = .tuple #[.int .u8 (reserveM P n o).st, .int .u16 (reserveM P n o).code, accV oe (reserveM P n o).ev.length 2] ∧ ((ob' = ob ∧ ((reserveM P n o).tab).regs = P.regs ∧ Stt [b] H H' [⟨some b, true, ⟨true, 79, [accV ob' ((reserveM P n o).tab).regs.length 2, .int .u32 ((reserveM P n o).tab).gen, .int .u8 ((reserveM P n o).tab).kind, .int .i64 ((reserveM P n o).tab).holder, .bool ((reserveM P n o).tab).aptpl]⟩⟩, ⟨oe, true, ⟨true, 43, ((reserveM P n o).ev).flatMap evE⟩⟩]) ∨ Stt [b] H H' [⟨some b, true, ⟨true, 79, [accV ob' ((reserveM P n o).tab).regs.length 2, .int .u32 ((reserveM P n o).tab).gen, .int .u8 ((reserveM P n o).tab).kind, .int .i64 ((reserveM P n o).tab).holder, .bool ((reserveM P n o).tab).aptpl]⟩⟩, ⟨ob', true, ⟨true, 30, (((reserveM P n o).tab).regs).flatMap regE⟩⟩, ⟨oe, true, ⟨true, 43, ((reserveM P n o).ev).flatMap evE⟩⟩])) := by
 refine acallsW Try.func31 f31_ok (Nat.le_of_ble_eq_true rfl) fun hw => ?_
 have st : Stt [b] H H [] := Stt.start hw
 replace st := st.mine hk rfl (by simp) (by simp)
 replace st := st.roA hr hr0 (fun c hc p hp => by rw [List.mem_singleton.1 hp]; intro e; exact hob (hc.trans e.symm))
 unfold f31c
 show AWl _ _ _ _ _
 refine aBoxN st rfl rfl (by repeat constructor) rfl fun b5 H1 st => ?_
 iterate 3 refine aN rfl rfl (by constructor) ?_
 refine sE ?_
 show AWl _ _ _ _ _
 refine aN rfl rfl (by constructor) ?_
 refine aLd st 0 rfl rfl rfl (by constructor) ?_
 refine aC (types_call) fun v12 H2 ⟨hv, st1⟩ => ?_
 subst hv
 replace st := st.call st1 rfl
 clear st1
 iterate 2 refine aN rfl rfl (by constructor) ?_
 refine sE ?_
 show AW _ (.cond _ _ _) _ _ _
 refine cC' rfl (fun h3 => ?_) (fun h3 => ?_)
 ·have h3q := h3; try simp only [decide_eq_true_eq, decide_eq_false_iff_not, beq_iff_eq, beq_eq_false_iff_ne, bne_iff_ne, bne_eq_false_iff_eq, ne_eq, Decidable.not_not, Bool.not_eq_true, Bool.not_eq_false, gt_iff_lt, ge_iff_le, Int.not_lt, Int.not_le] at h3q
  have h3n : typeB o.ty = false := Eq.mp (Bool.not_eq_true' _) h3
  show AWl _ _ _ _ _
  iterate 3 refine aN rfl rfl (by constructor) ?_
  refine sE ?_
  refine ⟨_, out3 (r_tmp rfl (by constructor)) (r_tmp rfl (by constructor)) (r_tmp rfl (by constructor)) ⟨rfl, rfl, rfl⟩, ?_⟩
  have st := st.nil 43
  have hM : reserveM P n o = ⟨2, 9216, [], P⟩ := if_pos h3n
  rw [hM]
  exact ⟨ob, none, rfl, .inl ⟨rfl, rfl, st.sel [3, 0] (by decide)⟩⟩
 ·have h3q := h3; try simp only [decide_eq_true_eq, decide_eq_false_iff_not, beq_iff_eq, beq_eq_false_iff_ne, bne_iff_ne, bne_eq_false_iff_eq, ne_eq, Decidable.not_not, Bool.not_eq_true, Bool.not_eq_false, gt_iff_lt, ge_iff_le, Int.not_lt, Int.not_le] at h3q
  have h3n : typeB o.ty = true := Eq.mp (Bool.not_eq_false' _) h3
  show AWl _ _ _ _ _
  iterate 3 refine aN rfl rfl (by constructor) ?_
  refine aLd st 2 rfl rfl rfl (by constructor) ?_
  iterate 2 refine aN rfl rfl (by constructor) ?_
  refine sE ?_
  show AW _ (.cond _ _ _) _ _ _
  refine cC' rfl (fun h4 => ?_) (fun h4 => ?_)
  ·have h4q := h4; try simp only [decide_eq_true_eq, decide_eq_false_iff_not, beq_iff_eq, beq_eq_false_iff_ne, bne_iff_ne, bne_eq_false_iff_eq, ne_eq, Decidable.not_not, Bool.not_eq_true, Bool.not_eq_false, gt_iff_lt, ge_iff_le, Int.not_lt, Int.not_le] at h4q
   show AWl _ _ _ _ _
   iterate 3 refine aN rfl rfl (by constructor) ?_
   refine aLd st 0 rfl rfl rfl (by constructor) ?_
   iterate 3 refine aN rfl rfl (by constructor) ?_
   refine aSt st 2 rfl rfl rfl rfl (by first | rfl | simp [cellsOf, *]) (by first | decide | (simp [*]; done) | (simp [k8]; done)) (by repeat constructor) fun H5 st => ?_
   iterate 2 refine aN rfl rfl (by constructor) ?_
   refine aSt st 2 rfl rfl rfl rfl (by first | rfl | simp [cellsOf, *]) (by first | decide | (simp [*]; done) | (simp [k8]; done)) (by repeat constructor) fun H6 st => ?_
   refine sE ?_
   show AWl _ _ _ _ _
   iterate 3 refine aN rfl rfl (by constructor) ?_
   refine sE ?_
   refine ⟨_, out3 (r_tmp rfl (by constructor)) (r_tmp rfl (by constructor)) (r_tmp rfl (by constructor)) ⟨rfl, rfl, rfl⟩, ?_⟩
   have st := st.nil 43
   have h0 : P.kind = 0 := by simpa using h4
   have hM : reserveM P n o = ⟨0, 0, [], { P with kind := o.ty, holder := n }⟩ := by unfold reserveM; rw [if_neg (by rw [h3n]; decide), if_pos h0]
   rw [hM]
   exact ⟨ob, none, rfl, .inl ⟨rfl, rfl, st.sel [3, 0] (by decide)⟩⟩
  ·have h4q := h4; try simp only [decide_eq_true_eq, decide_eq_false_iff_not, beq_iff_eq, beq_eq_false_iff_ne, bne_iff_ne, bne_eq_false_iff_eq, ne_eq, Decidable.not_not, Bool.not_eq_true, Bool.not_eq_false, gt_iff_lt, ge_iff_le, Int.not_lt, Int.not_le] at h4q
   show AWp _ _ _ _ _
   iterate 2 refine aN rfl rfl (by constructor) ?_
   refine ⟨?_, trivial⟩
   refine aC (holds_call (P := P) (n := n) (st.get (j := 2) rfl) (st.rowAcc 1 rfl (by decide) (flat_len' regE_len _)) (by omega)) fun v32 H7 ⟨hv, st1⟩ => ?_
   subst hv
   replace st := st.call st1 rfl
   clear st1
   refine ⟨trivial, ?_⟩
   refine aN rfl rfl (by constructor) ?_
   refine gCase 33 rfl (fun h8 => ?_) (fun h8 => ?_)
   ·have h8q := h8; try simp only [decide_eq_true_eq, decide_eq_false_iff_not, beq_iff_eq, beq_eq_false_iff_ne, bne_iff_ne, bne_eq_false_iff_eq, ne_eq, Decidable.not_not, Bool.not_eq_true, Bool.not_eq_false, gt_iff_lt, ge_iff_le, Int.not_lt, Int.not_le] at h8q
    refine gT rfl ?_
    refine aN rfl rfl (by constructor) ?_
    refine gT rfl ?_
    refine aN rfl rfl (by constructor) ?_
    refine gT rfl ?_
    refine aN rfl rfl (by constructor) ?_
    refine gT rfl ?_
    refine aLd st 2 rfl rfl rfl (by constructor) ?_
    refine gT rfl ?_
    refine aN rfl rfl (by constructor) ?_
    refine gT rfl ?_
    refine aLd st 0 rfl rfl rfl (by constructor) ?_
    refine gT rfl ?_
    iterate 3 refine aN rfl rfl (by constructor) ?_
    refine pE ?_
    show AW _ (.cond _ _ _) _ _ _
    refine cC' rfl (fun h9 => ?_) (fun h9 => ?_)
    ·have h9q := h9; try simp only [decide_eq_true_eq, decide_eq_false_iff_not, beq_iff_eq, beq_eq_false_iff_ne, bne_iff_ne, bne_eq_false_iff_eq, ne_eq, Decidable.not_not, Bool.not_eq_true, Bool.not_eq_false, gt_iff_lt, ge_iff_le, Int.not_lt, Int.not_le] at h9q
     show AWl _ _ _ _ _
     iterate 3 refine aN rfl rfl (by constructor) ?_
     refine sE ?_
     refine ⟨_, out3 (r_tmp rfl (by constructor)) (r_tmp rfl (by constructor)) (r_tmp rfl (by constructor)) ⟨rfl, rfl, rfl⟩, ?_⟩
     have st := st.nil 43
     have h0 : ¬ P.kind = 0 := by simpa using h4
     have h2 : (holdsM P n = true ∧ P.kind = o.ty) := by simp_all
     have hM : reserveM P n o = ⟨0, 0, [], P⟩ := by unfold reserveM; rw [if_neg (by rw [h3n]; decide), if_neg h0, if_pos h2]
     rw [hM]
     exact ⟨ob, none, rfl, .inl ⟨rfl, rfl, st.sel [3, 0] (by decide)⟩⟩
    ·have h9q := h9; try simp only [decide_eq_true_eq, decide_eq_false_iff_not, beq_iff_eq, beq_eq_false_iff_ne, bne_iff_ne, bne_eq_false_iff_eq, ne_eq, Decidable.not_not, Bool.not_eq_true, Bool.not_eq_false, gt_iff_lt, ge_iff_le, Int.not_lt, Int.not_le] at h9q
     show AWl _ _ _ _ _
     iterate 3 refine aN rfl rfl (by constructor) ?_
     refine sE ?_
     refine ⟨_, out3 (r_tmp rfl (by constructor)) (r_tmp rfl (by constructor)) (r_tmp rfl (by constructor)) ⟨rfl, rfl, rfl⟩, ?_⟩
     have st := st.nil 43
     have h0 : ¬ P.kind = 0 := by simpa using h4
     have h2 : ¬ (holdsM P n = true ∧ P.kind = o.ty) := by simp_all
     have hM : reserveM P n o = ⟨24, 0, [], P⟩ := by unfold reserveM; rw [if_neg (by rw [h3n]; decide), if_neg h0, if_neg h2]
     rw [hM]
     exact ⟨ob, none, rfl, .inl ⟨rfl, rfl, st.sel [3, 0] (by decide)⟩⟩
   ·have h8q := h8; try simp only [decide_eq_true_eq, decide_eq_false_iff_not, beq_iff_eq, beq_eq_false_iff_ne, bne_iff_ne, bne_eq_false_iff_eq, ne_eq, Decidable.not_not, Bool.not_eq_true, Bool.not_eq_false, gt_iff_lt, ge_iff_le, Int.not_lt, Int.not_le] at h8q
    refine gF rfl (by decide) ?_
    refine gF rfl (by decide) ?_
    refine gF rfl (by decide) ?_
    refine gF rfl (by decide) ?_
    refine gF rfl (by decide) ?_
    refine gF rfl (by decide) ?_
    refine gF rfl (by decide) ?_
    iterate 2 refine aN rfl rfl (by constructor) ?_
    refine pE ?_
    show AW _ (.cond _ _ _) _ _ _
    refine cF' rfl ?_
    show AWl _ _ _ _ _
    iterate 3 refine aN rfl rfl (by constructor) ?_
    refine sE ?_
    refine ⟨_, out3 (r_tmp rfl (by constructor)) (r_tmp rfl (by constructor)) (r_tmp rfl (by constructor)) ⟨rfl, rfl, rfl⟩, ?_⟩
    have st := st.nil 43
    have h0 : ¬ P.kind = 0 := by simpa using h4
    have h2 : ¬ (holdsM P n = true ∧ P.kind = o.ty) := by simp_all
    have hM : reserveM P n o = ⟨24, 0, [], P⟩ := by unfold reserveM; rw [if_neg (by rw [h3n]; decide), if_neg h0, if_neg h2]
    rw [hM]
    exact ⟨ob, none, rfl, .inl ⟨rfl, rfl, st.sel [3, 0] (by decide)⟩⟩
theorem release_call {H : Hp} {b : Nat} {ob : Option Nat} {P : PT} {n : Int} {o : POut} (hk : H.m b = some ⟨true, 79, [accV ob P.regs.length 2, .int .u32 P.gen, .int .u8 P.kind, .int .i64 P.holder, .bool P.aptpl]⟩) (hr : ∀ c, ob = some c → H.m c = some ⟨true, 30, (P.regs).flatMap regE⟩) (hr0 : ob = none → P.regs.flatMap regE = []) (hn : P.regs.length ≤ 400) (hob : ob ≠ some b) :
  ACalls Try.prog 32 [.pointer (some ⟨b, 0, none⟩), .int .i64 n, .agg #[.int .u8 o.sv, .int .u8 o.ty, .int .u64 o.key, .int .u64 o.act, .bool o.ap]] H (fun v H' => ∃ ob' oe, v = .tuple #[.int .u8 (releaseM P n o).st, .int .u16 (releaseM P n o).code, accV oe (releaseM P n o).ev.length 2] ∧ ((ob' = ob ∧ ((releaseM P n o).tab).regs = P.regs ∧ Stt [b] H H' [⟨some b, true, ⟨true, 79, [accV ob' ((releaseM P n o).tab).regs.length 2, .int .u32 ((releaseM P n o).tab).gen, .int .u8 ((releaseM P n o).tab).kind, .int .i64 ((releaseM P n o).tab).holder, .bool ((releaseM P n o).tab).aptpl]⟩⟩, ⟨oe, true, ⟨true, 43, ((releaseM P n o).ev).flatMap evE⟩⟩]) ∨ Stt [b] H H' [⟨some b, true, ⟨true, 79, [accV ob' ((releaseM P n o).tab).regs.length 2, .int .u32 ((releaseM P n o).tab).gen, .int .u8 ((releaseM P n o).tab).kind, .int .i64 ((releaseM P n o).tab).holder, .bool ((releaseM P n o).tab).aptpl]⟩⟩, ⟨ob', true, ⟨true, 30, (((releaseM P n o).tab).regs).flatMap regE⟩⟩, ⟨oe, true, ⟨true, 43, ((releaseM P n o).ev).flatMap evE⟩⟩])) := by
 refine acallsW Try.func32 f32_ok (Nat.le_of_ble_eq_true rfl) fun hw => ?_
 have st : Stt [b] H H [] := Stt.start hw
 replace st := st.mine hk rfl (by simp) (by simp)
 replace st := st.roA hr hr0 (fun c hc p hp => by rw [List.mem_singleton.1 hp]; intro e; exact hob (hc.trans e.symm))
 unfold f32c
 show AWl _ _ _ _ _
 refine aBoxN st rfl rfl (by repeat constructor) rfl fun b5 H1 st => ?_
 iterate 3 refine aN rfl rfl (by constructor) ?_
 refine sE ?_
 show AWl _ _ _ _ _
 iterate 2 refine aN rfl rfl (by constructor) ?_
 refine aC (holds_call (P := P) (n := n) (st.get (j := 2) rfl) (st.rowAcc 1 rfl (by decide) (flat_len' regE_len _)) (by omega)) fun v12 H2 ⟨hv, st1⟩ => ?_
 subst hv
 replace st := st.call st1 rfl
 clear st1
 iterate 2 refine aN rfl rfl (by constructor) ?_
 refine sE ?_
 show AW _ (.cond _ _ _) _ _ _
 refine cC' rfl (fun h3 => ?_) (fun h3 => ?_)
 ·have h3q := h3; try simp only [decide_eq_true_eq, decide_eq_false_iff_not, beq_iff_eq, beq_eq_false_iff_ne, bne_iff_ne, bne_eq_false_iff_eq, ne_eq, Decidable.not_not, Bool.not_eq_true, Bool.not_eq_false, gt_iff_lt, ge_iff_le, Int.not_lt, Int.not_le] at h3q
  have h3n : holdsM P n = false := Eq.mp (Bool.not_eq_true' _) h3
  show AWl _ _ _ _ _
  iterate 3 refine aN rfl rfl (by constructor) ?_
  refine sE ?_
  refine ⟨_, out3 (r_tmp rfl (by constructor)) (r_tmp rfl (by constructor)) (r_tmp rfl (by constructor)) ⟨rfl, rfl, rfl⟩, ?_⟩
  have st := st.nil 43
  have hM : releaseM P n o = ⟨0, 0, [], P⟩ := if_pos h3n
  rw [hM]
  exact ⟨ob, none, rfl, .inl ⟨rfl, rfl, st.sel [3, 0] (by decide)⟩⟩
 ·have h3q := h3; try simp only [decide_eq_true_eq, decide_eq_false_iff_not, beq_iff_eq, beq_eq_false_iff_ne, bne_iff_ne, bne_eq_false_iff_eq, ne_eq, Decidable.not_not, Bool.not_eq_true, Bool.not_eq_false, gt_iff_lt, ge_iff_le, Int.not_lt, Int.not_le] at h3q
  have h3n : holdsM P n = true := Eq.mp (Bool.not_eq_false' _) h3
  show AWp _ _ _ _ _
  iterate 3 refine aN rfl rfl (by constructor) ?_
  refine aLd st 2 rfl rfl rfl (by constructor) ?_
  refine aN rfl rfl (by constructor) ?_
  refine aLd st 0 rfl rfl rfl (by constructor) ?_
  iterate 2 refine aN rfl rfl (by constructor) ?_
  refine pE ?_
  show AW _ (.cond _ _ _) _ _ _
  refine cC' rfl (fun h4 => ?_) (fun h4 => ?_)
  ·have h4q := h4; try simp only [decide_eq_true_eq, decide_eq_false_iff_not, beq_iff_eq, beq_eq_false_iff_ne, bne_iff_ne, bne_eq_false_iff_eq, ne_eq, Decidable.not_not, Bool.not_eq_true, Bool.not_eq_false, gt_iff_lt, ge_iff_le, Int.not_lt, Int.not_le] at h4q
   show AWl _ _ _ _ _
   iterate 3 refine aN rfl rfl (by constructor) ?_
   refine sE ?_
   refine ⟨_, out3 (r_tmp rfl (by constructor)) (r_tmp rfl (by constructor)) (r_tmp rfl (by constructor)) ⟨rfl, rfl, rfl⟩, ?_⟩
   have st := st.nil 43
   have h2 : (P.kind ≠ o.ty) := by simpa using h4
   have hM : releaseM P n o = ⟨2, 9216, [], P⟩ := by unfold releaseM; rw [if_neg (by rw [h3n]; decide), if_pos h2]
   rw [hM]
   exact ⟨ob, none, rfl, .inl ⟨rfl, rfl, st.sel [3, 0] (by decide)⟩⟩
  ·have h4q := h4; try simp only [decide_eq_true_eq, decide_eq_false_iff_not, beq_iff_eq, beq_eq_false_iff_ne, bne_iff_ne, bne_eq_false_iff_eq, ne_eq, Decidable.not_not, Bool.not_eq_true, Bool.not_eq_false, gt_iff_lt, ge_iff_le, Int.not_lt, Int.not_le] at h4q
   show AWl _ _ _ _ _
   iterate 2 refine aN rfl rfl (by constructor) ?_
   refine aC (free_call (P := P) (n := n) (st.get (j := 2) rfl) (st.got 1 rfl).1 (st.got 1 rfl).2 (by omega) (st.ne 1 2 rfl rfl (by decide))) fun v24 H5 ⟨e24, hv, st1⟩ => ?_
   subst hv
   replace st := st.callX 2 rfl st1 rfl
   clear st1
   iterate 2 refine aN rfl rfl (by constructor) ?_
   refine aMovA rfl ?_
   refine sE ?_
   refine ⟨_, out3 (r_tmp rfl (by constructor)) (r_tmp rfl (by constructor)) (r_acc rfl) ⟨rfl, rfl, notTup_acc⟩, ?_⟩
   have h2 : ¬ (P.kind ≠ o.ty) := by simpa using h4
   have hM : releaseM P n o = ⟨0, 0, freeE P n, freeP P⟩ := by unfold releaseM; rw [if_neg (by rw [h3n]; decide), if_neg h2]
   rw [hM]
   exact ⟨ob, e24, rfl, .inl ⟨rfl, rfl, st.sel [0, 1] (by decide)⟩⟩
theorem clear_call {H : Hp} {b : Nat} {ob : Option Nat} {P : PT} {n : Int} (hk : H.m b = some ⟨true, 79, [accV ob P.regs.length 2, .int .u32 P.gen, .int .u8 P.kind, .int .i64 P.holder, .bool P.aptpl]⟩) (hr : ∀ c, ob = some c → H.m c = some ⟨true, 30, (P.regs).flatMap regE⟩) (hr0 : ob = none → P.regs.flatMap regE = []) (hn : P.regs.length ≤ 400) (hob : ob ≠ some b) :
  ACalls Try.prog 33 [.pointer (some ⟨b, 0, none⟩), .int .i64 n] H (fun v H' => ∃ ob' oe, v = accV oe (clearE P n).length 2 ∧ ((ob' = ob ∧ (clearP P).regs = P.regs ∧ Stt [b] H H' [⟨some b, true, ⟨true, 79, [accV ob' (clearP P).regs.length 2, .int .u32 (clearP P).gen, .int .u8 (clearP P).kind, .int .i64 (clearP P).holder, .bool (clearP P).aptpl]⟩⟩, ⟨oe, true, ⟨true, 43, (clearE P n).flatMap evE⟩⟩]) ∨ Stt [b] H H' [⟨some b, true, ⟨true, 79, [accV ob' (clearP P).regs.length 2, .int .u32 (clearP P).gen, .int .u8 (clearP P).kind, .int .i64 (clearP P).holder, .bool (clearP P).aptpl]⟩⟩, ⟨ob', true, ⟨true, 30, ((clearP P).regs).flatMap regE⟩⟩, ⟨oe, true, ⟨true, 43, (clearE P n).flatMap evE⟩⟩])) := by
 refine acallsW Try.func33 f33_ok (Nat.le_of_ble_eq_true rfl) fun hw => ?_
 have st : Stt [b] H H [] := Stt.start hw
 replace st := st.mine hk rfl (by simp) (by simp)
 replace st := st.roA hr hr0 (fun c hc p hp => by rw [List.mem_singleton.1 hp]; intro e; exact hob (hc.trans e.symm))
 unfold f33c
 show AWl _ _ _ _ _
 refine aN rfl rfl (by constructor) ?_
 refine sE ?_
 show AWl _ _ _ _ _
 refine aN rfl rfl (by constructor) ?_
 refine sE ?_
 show AWl _ _ _ _ _
 iterate 3 refine aN rfl rfl (by constructor) ?_
 refine aLdQ st 1 rfl rfl rfl rfl ?_
 refine aLen (st.rowAcc 0 rfl (by decide) (by exact flat_len' regE_len _)) rfl ?_
 refine aN rfl rfl (by constructor) ?_
 refine sE ?_
 show AW _ (.loop _) _ _ _
 have st := st.nil 43
 refine AW_loopN (fun m t1 H1 => ∃ (j : Nat) (oc : Option Nat), m = P.regs.length - j ∧ (j ≤ P.regs.length) ∧ t1 13 = .int .i64 (j : Int) ∧ t1 5 = accV oc (((P.regs.take j).filter (fun r : Int × Int => r.1 != n)).map (fun r : Int × Int => (r.1, (10755 : Int)))).length 2 ∧ Stt [b] H H1 [⟨oc, true, ⟨true, 43, ((((P.regs.take j).filter (fun r : Int × Int => r.1 != n)).map (fun r : Int × Int => (r.1, (10755 : Int))))).flatMap evE⟩⟩, ⟨ob, false, ⟨true, 30, (P.regs).flatMap regE⟩⟩, ⟨some b, true, ⟨true, 79, [accV ob P.regs.length 2, .int .u32 P.gen, .int .u8 P.kind, .int .i64 P.holder, .bool P.aptpl]⟩⟩]) (P.regs.length - 0) ⟨0, none, rfl, by omega, rfl, rfl, (st.sel [0, 1, 2] (by decide))⟩ [5, 7, 13, 14, 15, 16, 17, 18, 19, 20, 21, 22, 23, 24, 25, 26, 27] (by decide) ?_
 rintro m t1 H1 hk hI
 obtain ⟨j, oc, rfl, hj, ht13, ht5, st⟩ := hI
 obtain ⟨u, rfl⟩ : ∃ u, t1 = (upd (upd (mix [5, 7, 13, 14, 15, 16, 17, 18, 19, 20, 21, 22, 23, 24, 25, 26, 27] _ u) (some 13) _) (some 5) _) := ⟨t1, by rw [← hk, upd_self ht13, upd_self ht5]⟩
 clear hk ht13 ht5
 show AWl _ _ _ _ _
 refine aN rfl rfl (by constructor) ?_
 refine sE ?_
 show AW _ (.cond _ _ _) _ _ _
 refine cC' rfl (fun h1 => ?_) (fun h1 => ?_)
 ·have hlt : j < P.regs.length := by have := of_decide_eq_true h1; omega
  show AWl _ _ _ _ _
  refine aIxE regE_len (0, 0) (l := P.regs) (st.rowAcc 1 rfl (by decide) (by exact flat_len' regE_len _)) rfl rfl (by omega) fun b15 o15 g15 => ?_
  refine aLdAG rfl g15 ?_
  refine aNewP st rfl rfl (by repeat constructor) fun b7 H2 st => ?_
  refine aSt st 0 rfl rfl rfl rfl (by first | rfl | simp [cellsOf, *]) (by first | decide | (simp [*]; done) | (simp [k8]; done)) (by repeat constructor) fun H3 st => ?_
  refine sE ?_
  show AWl _ _ _ _ _
  refine aN rfl rfl (by constructor) ?_
  refine aLd st 0 rfl rfl rfl (by constructor) ?_
  iterate 2 refine aN rfl rfl (by constructor) ?_
  refine sE ?_
  show AW _ (.cond _ _ _) _ _ _
  refine cC' rfl (fun h4 => ?_) (fun h4 => ?_)
  ·have hp : (fun r : Int × Int => r.1 != n) (P.regs.getD j (0, 0)) = true := h4
   have ho : (((P.regs.take (j + 1)).filter (fun r : Int × Int => r.1 != n)).map (fun r : Int × Int => (r.1, (10755 : Int)))) = (((P.regs.take j).filter (fun r : Int × Int => r.1 != n)).map (fun r : Int × Int => (r.1, (10755 : Int)))) ++ [(fun r : Int × Int => (r.1, (10755 : Int))) (P.regs.getD j (0, 0))] := by first | (rw [filt_t (d := (0, 0)) hlt hp]; done) | (rw [filt_t (d := (0, 0)) hlt hp]; simp)
   have hol : ((((P.regs.take j).filter (fun r : Int × Int => r.1 != n)).map (fun r : Int × Int => (r.1, (10755 : Int))))).length ≤ P.regs.length := by have h1 : ((P.regs.take j).filter (fun r : Int × Int => r.1 != n)).length ≤ P.regs.length := Nat.le_trans (List.length_filter_le _ _) (by rw [List.length_take]; omega); first | omega | (simp only [List.length_append, List.length_map]; omega)
   show AWl _ _ _ _ _
   refine aMovA rfl ?_
   refine aN rfl rfl (by constructor) ?_
   refine aLd st 0 rfl rfl rfl (by constructor) ?_
   refine aBld rfl (by repeat constructor) ?_
   refine aLit st rfl (by repeat constructor) fun b25 H5 st => ?_
   refine aApp st 2 (ob := oc) rfl rfl rfl (by decide) (by exact flat_len' evE_len _) (st.rowAll 0 rfl (by first | rfl | (simp [beB_len, *]; done) | (simp [beB_len, *]; omega))).src (by first | rfl | simp) (by omega) (by omega) fun b26 H6 hp26 st => ?_
   have st := st.recell 2 rfl (cs' := (((P.regs.take (j + 1)).filter (fun r : Int × Int => r.1 != n)).map (fun r : Int × Int => (r.1, (10755 : Int)))).flatMap evE) (flat_snoc ho rfl)
   refine aMovA rfl ?_
   refine sE ?_
   show AWl _ _ _ _ _
   iterate 2 refine aN rfl rfl (by constructor) ?_
   refine sE ?_
   exact ⟨_, by omega, j + 1, b26, rfl, by omega, congrArg (Value.int .i64) (wi _ (by omega)), congrArg (fun n => accV _ n 2) (len_snoc ho), (st.sel [2, 3, 4] (by decide))⟩
  ·have hp : (fun r : Int × Int => r.1 != n) (P.regs.getD j (0, 0)) = false := h4
   have ho : (((P.regs.take (j + 1)).filter (fun r : Int × Int => r.1 != n)).map (fun r : Int × Int => (r.1, (10755 : Int)))) = (((P.regs.take j).filter (fun r : Int × Int => r.1 != n)).map (fun r : Int × Int => (r.1, (10755 : Int)))) := by rw [filt_f (d := (0, 0)) hlt hp]
   have hol : ((((P.regs.take j).filter (fun r : Int × Int => r.1 != n)).map (fun r : Int × Int => (r.1, (10755 : Int))))).length ≤ P.regs.length := by have h1 : ((P.regs.take j).filter (fun r : Int × Int => r.1 != n)).length ≤ P.regs.length := Nat.le_trans (List.length_filter_le _ _) (by rw [List.length_take]; omega); first | omega | (simp only [List.length_append, List.length_map]; omega)
   show AWl _ _ _ _ _
   iterate 2 refine aN rfl rfl (by constructor) ?_
   refine sE ?_
   have st := st.recell 1 rfl (cs' := (((P.regs.take (j + 1)).filter (fun r : Int × Int => r.1 != n)).map (fun r : Int × Int => (r.1, (10755 : Int)))).flatMap evE) (by rw [ho])
   exact ⟨_, by omega, j + 1, oc, rfl, by omega, congrArg (Value.int .i64) (wi _ (by omega)), congrArg (fun n => accV _ n 2) (congrArg List.length ho.symm), (st.sel [1, 2, 3] (by decide))⟩
 ·have hge : j = P.regs.length := by have := of_decide_eq_false h1; omega
  subst hge
  try rw [List.take_length] at st
  try rw [List.take_length]
  show AWl _ _ _ _ _
  iterate 5 refine aN rfl rfl (by constructor) ?_
  refine aSt st 2 rfl rfl rfl rfl (by first | rfl | simp [cellsOf, *]) (by first | decide | (simp [*]; done) | (simp [k8]; done)) (by repeat constructor) fun H7 st => ?_
  iterate 2 refine aN rfl rfl (by constructor) ?_
  refine aSt st 2 rfl rfl rfl rfl (by first | rfl | simp [cellsOf, *]) (by first | decide | (simp [*]; done) | (simp [k8]; done)) (by repeat constructor) fun H8 st => ?_
  iterate 2 refine aN rfl rfl (by constructor) ?_
  refine aSt st 2 rfl rfl rfl rfl (by first | rfl | simp [cellsOf, *]) (by first | decide | (simp [*]; done) | (simp [k8]; done)) (by repeat constructor) fun H9 st => ?_
  refine sE ?_
  show AWl _ _ _ _ _
  iterate 3 refine aN rfl rfl (by constructor) ?_
  refine aLd st 2 rfl rfl rfl (by constructor) ?_
  iterate 3 refine aN rfl rfl (by constructor) ?_
  refine aSt st 2 rfl rfl rfl rfl (by first | rfl | simp [cellsOf, *]) (by first | decide | (simp [*]; done) | (simp [k8]; done)) (by repeat constructor) fun H10 st => ?_
  refine sE ?_
  show AWl _ _ _ _ _
  refine aMovA rfl ?_
  refine aMovA rfl ?_
  refine sE ?_
  refine ⟨_, out1 (r_acc rfl), ?_⟩
  have st := st.nil 30
  exact ⟨none, oc, rfl, .inr (st.sel [3, 0, 1] (by decide))⟩
end Go.Proofs.Ytihkghfmihdicaa.Abs
