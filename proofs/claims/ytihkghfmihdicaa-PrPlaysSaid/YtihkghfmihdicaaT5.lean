/- Reservations: who preempts. -/
import Derived.Test.YtihkghfmihdicaaT4
set_option linter.unusedVariables false
set_option linter.unusedSimpArgs false
set_option maxRecDepth 100000
namespace Go.Proofs.Ytihkghfmihdicaa.Abs
open Go Go.RowKit
set_option maxHeartbeats 2000000 in
theorem preempt_call {H : Hp} {b : Nat} {ob : Option Nat} {P : PT} {n : Int} {o : POut} (hk : H.m b = some ⟨true, 79, [accV ob P.regs.length 2, .int .u32 P.gen, .int .u8 P.kind, .int .i64 P.holder, .bool P.aptpl]⟩) (hr : ∀ c, ob = some c → H.m c = some ⟨true, 30, (P.regs).flatMap regE⟩) (hr0 : ob = none → P.regs.flatMap regE = []) (hn : P.regs.length ≤ 400) (hob : ob ≠ some b) :
  ACalls Try.prog 34 [.pointer (some ⟨b, 0, none⟩), .int .i64 n, .agg #[.int .u8 o.sv, .int .u8 o.ty, .int .u64 o.key, .int .u64 o.act, .bool o.ap]] H (fun v H' => ∃ ob' oe, v = .tuple #[.int .u8 (preemptM P n o).st, .int .u16 (preemptM P n o).code, accV oe (preemptM P n o).ev.length 2] ∧ ((ob' = ob ∧ ((preemptM P n o).tab).regs = P.regs ∧ Stt [b] H H' [⟨some b, true, ⟨true, 79, [accV ob' ((preemptM P n o).tab).regs.length 2, .int .u32 ((preemptM P n o).tab).gen, .int .u8 ((preemptM P n o).tab).kind, .int .i64 ((preemptM P n o).tab).holder, .bool ((preemptM P n o).tab).aptpl]⟩⟩, ⟨oe, true, ⟨true, 43, ((preemptM P n o).ev).flatMap evE⟩⟩]) ∨ Stt [b] H H' [⟨some b, true, ⟨true, 79, [accV ob' ((preemptM P n o).tab).regs.length 2, .int .u32 ((preemptM P n o).tab).gen, .int .u8 ((preemptM P n o).tab).kind, .int .i64 ((preemptM P n o).tab).holder, .bool ((preemptM P n o).tab).aptpl]⟩⟩, ⟨ob', true, ⟨true, 30, (((preemptM P n o).tab).regs).flatMap regE⟩⟩, ⟨oe, true, ⟨true, 43, ((preemptM P n o).ev).flatMap evE⟩⟩])) := by
 refine acallsW Try.func34 f34_ok (Nat.le_of_ble_eq_true rfl) fun hw => ?_
 have st : Stt [b] H H [] := Stt.start hw
 replace st := st.mine hk rfl (by simp) (by simp)
 replace st := st.roA hr hr0 (fun c hc p hp => by rw [List.mem_singleton.1 hp]; intro e; exact hob (hc.trans e.symm))
 unfold f34c
 show AWl _ _ _ _ _
 refine aBoxN st rfl rfl (by repeat constructor) rfl fun b5 H1 st => ?_
 iterate 3 refine aN rfl rfl (by constructor) ?_
 refine sE ?_
 refine AW_cutK (b := .seq (.seq (.list (⟨some 33, _, _⟩ :: _)) _) _) (fun t1 H1 => t1 9 = .bool false ∧ t1 10 = .bool (pallB P o) ∧ Stt [b] H H1 [⟨some b5, true, ⟨true, 39, [.int .u8 o.sv, .int .u8 o.ty, .int .u64 o.key, .int .u64 o.act, .bool o.ap]⟩⟩, ⟨ob, false, ⟨true, 30, (P.regs).flatMap regE⟩⟩, ⟨some b, true, ⟨true, 79, [accV ob P.regs.length 2, .int .u32 P.gen, .int .u8 P.kind, .int .i64 P.holder, .bool P.aptpl]⟩⟩]) [9, 10, 23, 24, 25, 26, 27, 28, 29, 30, 31, 32] (by decide) ?_ fun t1 H1 hk hI => ?_
 ·show AWp _ _ _ _ _
  iterate 3 refine aN rfl rfl (by constructor) ?_
  refine aLd st 2 rfl rfl rfl (by constructor) ?_
  refine ⟨?_, trivial⟩
  refine aC (all_call) fun v27 H2 ⟨hv, st1⟩ => ?_
  subst hv
  replace st := st.call st1 rfl
  clear st1
  refine ⟨trivial, ?_⟩
  refine aN rfl rfl (by constructor) ?_
  refine gCase 28 rfl (fun h3 => ?_) (fun h3 => ?_)
  ·refine gT rfl ?_
   refine aN rfl rfl (by constructor) ?_
   refine gT rfl ?_
   refine aLd st 0 rfl rfl rfl (by constructor) ?_
   refine gT rfl ?_
   iterate 3 refine aN rfl rfl (by constructor) ?_
   refine aMovV (.bool (pallB P o)) (congrArg Value.bool (by unfold pallB; simp [h3])) ?_
   refine pE ?_
   exact ⟨rfl, rfl, (st.sel [0, 1, 2] (by decide))⟩
  ·refine gF rfl (by decide) ?_
   refine gF rfl (by decide) ?_
   refine gF rfl (by decide) ?_
   iterate 2 refine aN rfl rfl (by constructor) ?_
   refine aMovV (.bool (pallB P o)) (congrArg Value.bool (by unfold pallB; simp [h3])) ?_
   refine pE ?_
   exact ⟨rfl, rfl, (st.sel [0, 1, 2] (by decide))⟩
 ·obtain ⟨ht9, ht10, st⟩ := hI
  obtain ⟨u, rfl⟩ : ∃ u, t1 = (upd (upd (mix [9, 10, 23, 24, 25, 26, 27, 28, 29, 30, 31, 32] _ u) (some 9) _) (some 10) _) := ⟨t1, by rw [← hk, upd_self ht9, upd_self ht10]⟩
  clear hk ht9 ht10
  refine AW_cutK (b := .seq (.block 2 _) _) (fun t1 H1 => t1 9 = .bool (heldB P o) ∧ Stt [b] H H1 [⟨some b5, true, ⟨true, 39, [.int .u8 o.sv, .int .u8 o.ty, .int .u64 o.key, .int .u64 o.act, .bool o.ap]⟩⟩, ⟨ob, false, ⟨true, 30, (P.regs).flatMap regE⟩⟩, ⟨some b, true, ⟨true, 79, [accV ob P.regs.length 2, .int .u32 P.gen, .int .u8 P.kind, .int .i64 P.holder, .bool P.aptpl]⟩⟩]) [9, 12, 33, 34, 35, 36, 37, 38, 39, 40, 41, 42, 43, 44, 45, 46, 47, 48, 49, 50, 51, 52, 53, 54, 55, 56, 57, 58, 59, 60, 61, 62, 63, 64, 65, 66, 67, 68, 69, 70, 71, 72, 73, 74] (by decide) ?_ fun t1 H1 hk hI => ?_
  ·show AWl _ _ _ _ _
   iterate 3 refine aN rfl rfl (by constructor) ?_
   refine aLdQ st 2 rfl rfl rfl rfl ?_
   refine aLen (st.rowAcc 1 rfl (by decide) (by exact flat_len' regE_len _)) rfl ?_
   refine aN rfl rfl (by constructor) ?_
   refine sE ?_
   show AW _ (.loop _) _ _ _
   refine AW_loopN (fun m t1 H1 => ∃ (j : Nat), m = P.regs.length - j ∧ (j ≤ P.regs.length) ∧ t1 38 = .int .i64 (j : Int) ∧ t1 9 = .bool ((P.regs.take j).any (fun r : Int × Int => P.kind != 0 && !allB P.kind && r.1 == P.holder && r.2 == o.act)) ∧ Stt [b] H H1 [⟨some b5, true, ⟨true, 39, [.int .u8 o.sv, .int .u8 o.ty, .int .u64 o.key, .int .u64 o.act, .bool o.ap]⟩⟩, ⟨ob, false, ⟨true, 30, (P.regs).flatMap regE⟩⟩, ⟨some b, true, ⟨true, 79, [accV ob P.regs.length 2, .int .u32 P.gen, .int .u8 P.kind, .int .i64 P.holder, .bool P.aptpl]⟩⟩]) (P.regs.length - 0) ⟨0, rfl, by omega, rfl, rfl, (st.sel [0, 1, 2] (by decide))⟩ [9, 12, 38, 39, 40, 41, 42, 43, 44, 45, 46, 47, 48, 49, 50, 51, 52, 53, 54, 55, 56, 57, 58, 59, 60, 61, 62, 63, 64, 65, 66, 67, 68, 69, 70, 71, 72, 73, 74] (by decide) ?_
   rintro m t1 H1 hk hI
   obtain ⟨j, rfl, hj, ht38, ht9, st⟩ := hI
   obtain ⟨u, rfl⟩ : ∃ u, t1 = (upd (upd (mix [9, 12, 38, 39, 40, 41, 42, 43, 44, 45, 46, 47, 48, 49, 50, 51, 52, 53, 54, 55, 56, 57, 58, 59, 60, 61, 62, 63, 64, 65, 66, 67, 68, 69, 70, 71, 72, 73, 74] _ u) (some 38) _) (some 9) _) := ⟨t1, by rw [← hk, upd_self ht38, upd_self ht9]⟩
   clear hk ht38 ht9
   show AWl _ _ _ _ _
   refine aN rfl rfl (by constructor) ?_
   refine sE ?_
   show AW _ (.cond _ _ _) _ _ _
   refine cC' rfl (fun h4 => ?_) (fun h4 => ?_)
   ·have hlt : j < P.regs.length := by have := of_decide_eq_true h4; omega
    show AWl _ _ _ _ _
    refine aIxE regE_len (0, 0) (l := P.regs) (st.rowAcc 1 rfl (by decide) (by exact flat_len' regE_len _)) rfl rfl (by omega) fun b40 o40 g40 => ?_
    refine aLdAG rfl g40 ?_
    refine aNewP st rfl rfl (by repeat constructor) fun b12 H5 st => ?_
    refine aSt st 0 rfl rfl rfl rfl (by first | rfl | simp [cellsOf, *]) (by first | decide | (simp [*]; done) | (simp [k8]; done)) (by repeat constructor) fun H6 st => ?_
    refine sE ?_
    show AWp _ _ _ _ _
    iterate 2 refine aN rfl rfl (by constructor) ?_
    refine gCase 43 rfl (fun h7 => ?_) (fun h7 => ?_)
    ·refine gF rfl (by decide) ?_
     refine gF rfl (by decide) ?_
     refine gF rfl (by decide) ?_
     refine gF rfl (by decide) ?_
     refine gF rfl (by decide) ?_
     refine gF rfl (by decide) ?_
     refine gU rfl ?_
     refine gU rfl ?_
     refine gU rfl ?_
     refine gU rfl ?_
     refine ⟨gU rfl ?_, trivial⟩
     refine ⟨⟨⟨some true, .bool true, rfl⟩, trivial⟩, ?_⟩
     refine gU rfl ?_
     refine gF rfl (by decide) ?_
     refine gF rfl (by decide) ?_
     refine gU rfl ?_
     refine gU rfl ?_
     refine gU rfl ?_
     refine gU rfl ?_
     refine gU rfl ?_
     refine gU rfl ?_
     refine gU rfl ?_
     refine gF rfl (by decide) ?_
     refine gF rfl (by decide) ?_
     refine gU rfl ?_
     refine gU rfl ?_
     refine gU rfl ?_
     refine gU rfl ?_
     refine gU rfl ?_
     refine gF rfl (by decide) ?_
     refine aN rfl rfl (by constructor) ?_
     refine ⟨?_, trivial⟩
     refine aN rfl rfl (by constructor) ?_
     refine ⟨trivial, ?_⟩
     refine pE ?_
     show AWl _ _ _ _ _
     iterate 2 refine aN rfl rfl (by constructor) ?_
     refine sE ?_
     exact ⟨_, by omega, j + 1, rfl, by omega, congrArg (Value.int .i64) (wi _ (by omega)), congrArg Value.bool (by rw [any_step (d := (0, 0)) hlt]; show _ = (_ || (P.kind != 0 && !allB P.kind && (P.regs.getD j (0, 0)).1 == P.holder && (P.regs.getD j (0, 0)).2 == o.act)); rw [h7] <;> rfl), (st.sel [1, 2, 3] (by decide))⟩
    ·refine gT rfl ?_
     refine aN rfl rfl (by constructor) ?_
     refine gT rfl ?_
     refine aN rfl rfl (by constructor) ?_
     refine gT rfl ?_
     refine aN rfl rfl (by constructor) ?_
     refine gT rfl ?_
     refine aLd st 3 rfl rfl rfl (by constructor) ?_
     refine gT rfl ?_
     refine aN rfl rfl (by constructor) ?_
     refine gT rfl ?_
     refine aN rfl rfl (by constructor) ?_
     refine gCase 49 rfl (fun h8 => ?_) (fun h8 => ?_)
     ·refine gT rfl ?_
      refine aN rfl rfl (by constructor) ?_
      refine gT rfl ?_
      refine aN rfl rfl (by constructor) ?_
      refine gT rfl ?_
      refine aN rfl rfl (by constructor) ?_
      refine gT rfl ?_
      refine aLd st 3 rfl rfl rfl (by constructor) ?_
      refine ⟨?_, trivial⟩
      refine gT rfl ?_
      refine aC (all_call) fun v54 H9 ⟨hv, st1⟩ => ?_
      subst hv
      replace st := st.call st1 rfl
      clear st1
      refine ⟨⟨⟨some false, .bool false, (h_Ld st 3 rfl rfl rfl (by constructor))⟩, trivial⟩, ?_⟩
      refine gT rfl ?_
      refine aN rfl rfl (by constructor) ?_
      refine gT rfl ?_
      refine aN rfl rfl (by constructor) ?_
      refine gT rfl ?_
      refine aN rfl rfl (by constructor) ?_
      refine gCase 57 rfl (fun h10 => ?_) (fun h10 => ?_)
      ·have h10n : allB P.kind = false := Eq.mp (Bool.not_eq_true' _) h10
       refine gT rfl ?_
       refine aN rfl rfl (by constructor) ?_
       refine gT rfl ?_
       refine aLd st 0 rfl rfl rfl (by constructor) ?_
       refine gT rfl ?_
       refine aN rfl rfl (by constructor) ?_
       refine gT rfl ?_
       refine aN rfl rfl (by constructor) ?_
       refine gT rfl ?_
       refine aN rfl rfl (by constructor) ?_
       refine gT rfl ?_
       refine aLd st 3 rfl rfl rfl (by constructor) ?_
       refine gT rfl ?_
       refine aN rfl rfl (by constructor) ?_
       refine gT rfl ?_
       refine aN rfl rfl (by constructor) ?_
       refine gT rfl ?_
       refine aN rfl rfl (by constructor) ?_
       refine gCase 66 rfl (fun h11 => ?_) (fun h11 => ?_)
       ·refine gT rfl ?_
        refine aN rfl rfl (by constructor) ?_
        refine gT rfl ?_
        refine aLd st 0 rfl rfl rfl (by constructor) ?_
        refine gT rfl ?_
        refine aN rfl rfl (by constructor) ?_
        refine gT rfl ?_
        refine aLd st 1 rfl rfl rfl (by constructor) ?_
        refine gT rfl ?_
        refine aN rfl rfl (by constructor) ?_
        refine gT rfl ?_
        iterate 2 refine aN rfl rfl (by constructor) ?_
        refine ⟨?_, trivial⟩
        refine aN rfl rfl (by constructor) ?_
        refine ⟨trivial, ?_⟩
        refine pE ?_
        show AWl _ _ _ _ _
        iterate 2 refine aN rfl rfl (by constructor) ?_
        refine sE ?_
        exact ⟨_, by omega, j + 1, rfl, by omega, congrArg (Value.int .i64) (wi _ (by omega)), congrArg Value.bool (by rw [any_step (d := (0, 0)) hlt]; show _ = (_ || (P.kind != 0 && !allB P.kind && (P.regs.getD j (0, 0)).1 == P.holder && (P.regs.getD j (0, 0)).2 == o.act)); rw [h7, h8, h10, (show ((P.regs.getD j (0, 0)).1 == P.holder) = _ from h11)] <;> rfl), (st.sel [1, 2, 3] (by decide))⟩
       ·refine gF rfl (by decide) ?_
        refine gF rfl (by decide) ?_
        refine gF rfl (by decide) ?_
        refine gF rfl (by decide) ?_
        refine gF rfl (by decide) ?_
        refine gT rfl ?_
        iterate 2 refine aN rfl rfl (by constructor) ?_
        refine ⟨?_, trivial⟩
        refine aN rfl rfl (by constructor) ?_
        refine ⟨trivial, ?_⟩
        refine pE ?_
        show AWl _ _ _ _ _
        iterate 2 refine aN rfl rfl (by constructor) ?_
        refine sE ?_
        exact ⟨_, by omega, j + 1, rfl, by omega, congrArg (Value.int .i64) (wi _ (by omega)), congrArg Value.bool (by rw [any_step (d := (0, 0)) hlt]; show _ = (_ || (P.kind != 0 && !allB P.kind && (P.regs.getD j (0, 0)).1 == P.holder && (P.regs.getD j (0, 0)).2 == o.act)); rw [h7, h8, h10, (show ((P.regs.getD j (0, 0)).1 == P.holder) = _ from h11)] <;> rfl), (st.sel [1, 2, 3] (by decide))⟩
      ·have h10n : allB P.kind = true := Eq.mp (Bool.not_eq_false' _) h10
       refine gF rfl (by decide) ?_
       refine gF rfl (by decide) ?_
       refine gF rfl (by decide) ?_
       refine gF rfl (by decide) ?_
       refine gF rfl (by decide) ?_
       refine gF rfl (by decide) ?_
       refine gF rfl (by decide) ?_
       refine gT rfl ?_
       refine aN rfl rfl (by constructor) ?_
       refine gT rfl ?_
       refine aN rfl rfl (by constructor) ?_
       refine gF rfl (by decide) ?_
       refine gF rfl (by decide) ?_
       refine gF rfl (by decide) ?_
       refine gF rfl (by decide) ?_
       refine gF rfl (by decide) ?_
       refine gT rfl ?_
       iterate 2 refine aN rfl rfl (by constructor) ?_
       refine ⟨?_, trivial⟩
       refine aN rfl rfl (by constructor) ?_
       refine ⟨trivial, ?_⟩
       refine pE ?_
       show AWl _ _ _ _ _
       iterate 2 refine aN rfl rfl (by constructor) ?_
       refine sE ?_
       exact ⟨_, by omega, j + 1, rfl, by omega, congrArg (Value.int .i64) (wi _ (by omega)), congrArg Value.bool (by rw [any_step (d := (0, 0)) hlt]; show _ = (_ || (P.kind != 0 && !allB P.kind && (P.regs.getD j (0, 0)).1 == P.holder && (P.regs.getD j (0, 0)).2 == o.act)); rw [h7, h8, h10] <;> rfl), (st.sel [1, 2, 3] (by decide))⟩
     ·refine gF rfl (by decide) ?_
      refine gF rfl (by decide) ?_
      refine gF rfl (by decide) ?_
      refine gF rfl (by decide) ?_
      refine ⟨gF rfl (by decide) ?_, trivial⟩
      refine ⟨⟨⟨some false, .bool false, (h_Ld st 3 rfl rfl rfl (by constructor))⟩, trivial⟩, ?_⟩
      refine gF rfl (by decide) ?_
      refine gT rfl ?_
      refine aN rfl rfl (by constructor) ?_
      refine gT rfl ?_
      refine aN rfl rfl (by constructor) ?_
      refine gF rfl (by decide) ?_
      refine gF rfl (by decide) ?_
      refine gF rfl (by decide) ?_
      refine gF rfl (by decide) ?_
      refine gF rfl (by decide) ?_
      refine gF rfl (by decide) ?_
      refine gF rfl (by decide) ?_
      refine gT rfl ?_
      refine aN rfl rfl (by constructor) ?_
      refine gT rfl ?_
      refine aN rfl rfl (by constructor) ?_
      refine gF rfl (by decide) ?_
      refine gF rfl (by decide) ?_
      refine gF rfl (by decide) ?_
      refine gF rfl (by decide) ?_
      refine gF rfl (by decide) ?_
      refine gT rfl ?_
      iterate 2 refine aN rfl rfl (by constructor) ?_
      refine ⟨?_, trivial⟩
      refine aN rfl rfl (by constructor) ?_
      refine ⟨trivial, ?_⟩
      refine pE ?_
      show AWl _ _ _ _ _
      iterate 2 refine aN rfl rfl (by constructor) ?_
      refine sE ?_
      exact ⟨_, by omega, j + 1, rfl, by omega, congrArg (Value.int .i64) (wi _ (by omega)), congrArg Value.bool (by rw [any_step (d := (0, 0)) hlt]; show _ = (_ || (P.kind != 0 && !allB P.kind && (P.regs.getD j (0, 0)).1 == P.holder && (P.regs.getD j (0, 0)).2 == o.act)); rw [h7, h8] <;> rfl), (st.sel [1, 2, 3] (by decide))⟩
   ·have hge : j = P.regs.length := by have := of_decide_eq_false h4; omega
    subst hge
    try rw [List.take_length]
    try rw [List.take_length] at st
    exact ⟨rfl, (st.sel [0, 1, 2] (by decide))⟩
  ·obtain ⟨ht9, st⟩ := hI
   obtain ⟨u, rfl⟩ : ∃ u, t1 = (upd (mix [9, 12, 33, 34, 35, 36, 37, 38, 39, 40, 41, 42, 43, 44, 45, 46, 47, 48, 49, 50, 51, 52, 53, 54, 55, 56, 57, 58, 59, 60, 61, 62, 63, 64, 65, 66, 67, 68, 69, 70, 71, 72, 73, 74] _ u) (some 9) _) := ⟨t1, by rw [← hk, upd_self ht9]⟩
   clear hk ht9
   refine AW_cutK (b := .seq (.list (⟨some 13, _, _⟩ :: _)) _) (fun t1 H1 => (¬ (o.act = 0 ∧ pallB P o = false)) ∧ (¬ ((heldB P o || pallB P o) = true ∧ typeB o.ty = false)) ∧ Stt [b] H H1 [⟨some b5, true, ⟨true, 39, [.int .u8 o.sv, .int .u8 o.ty, .int .u64 o.key, .int .u64 o.act, .bool o.ap]⟩⟩, ⟨ob, false, ⟨true, 30, (P.regs).flatMap regE⟩⟩, ⟨some b, true, ⟨true, 79, [accV ob P.regs.length 2, .int .u32 P.gen, .int .u8 P.kind, .int .i64 P.holder, .bool P.aptpl]⟩⟩]) [6, 7, 8, 75, 76, 77, 78, 79, 80, 81, 82, 83, 84, 85, 86, 87, 88, 89, 90, 91, 92, 93] (by decide) ?_ fun t1 H1 hk hI => ?_
   ·show AWl _ _ _ _ _
    refine aN rfl rfl (by constructor) ?_
    refine aLd st 0 rfl rfl rfl (by constructor) ?_
    iterate 2 refine aN rfl rfl (by constructor) ?_
    refine gCase 79 rfl (fun h12 => ?_) (fun h12 => ?_)
    ·refine gT rfl ?_
     refine aN rfl rfl (by constructor) ?_
     refine gT rfl ?_
     iterate 3 refine aN rfl rfl (by constructor) ?_
     refine sE ?_
     show AW _ (.cond _ _ _) _ _ _
     refine cC' rfl (fun h13 => ?_) (fun h13 => ?_)
     ·have h13n : pallB P o = false := Eq.mp (Bool.not_eq_true' _) h13
      show AWl _ _ _ _ _
      iterate 3 refine aN rfl rfl (by constructor) ?_
      refine sE ?_
      refine ⟨_, out3 (r_tmp rfl (by constructor)) (r_tmp rfl (by constructor)) (r_tmp rfl (by constructor)) ⟨rfl, rfl, rfl⟩, ?_⟩
      have hc1 : o.act = 0 ∧ pallB P o = false := by simp_all
      have st := st.nil 43
      have hM : preemptM P n o = ⟨2, 9728, [], P⟩ := by unfold preemptM; rw [if_pos hc1]
      rw [hM]
      exact ⟨ob, none, rfl, .inl ⟨rfl, rfl, st.sel [3, 0] (by decide)⟩⟩
     ·have h13n : pallB P o = true := Eq.mp (Bool.not_eq_false' _) h13
      show AWl _ _ _ _ _
      iterate 2 refine aN rfl rfl (by constructor) ?_
      refine gCase 85 rfl (fun h14 => ?_) (fun h14 => ?_)
      ·refine gF rfl (by decide) ?_
       iterate 2 refine aN rfl rfl (by constructor) ?_
       refine gT rfl ?_
       refine aN rfl rfl (by constructor) ?_
       refine gT rfl ?_
       refine aLd st 0 rfl rfl rfl (by constructor) ?_
       refine gT rfl ?_
       refine aC (types_call) fun v91 H15 ⟨hv, st1⟩ => ?_
       subst hv
       replace st := st.call st1 rfl
       clear st1
       refine gT rfl ?_
       iterate 3 refine aN rfl rfl (by constructor) ?_
       refine sE ?_
       show AW _ (.cond _ _ _) _ _ _
       refine cC' rfl (fun h16 => ?_) (fun h16 => ?_)
       ·have h16n : typeB o.ty = false := Eq.mp (Bool.not_eq_true' _) h16
        show AWl _ _ _ _ _
        iterate 3 refine aN rfl rfl (by constructor) ?_
        refine sE ?_
        refine ⟨_, out3 (r_tmp rfl (by constructor)) (r_tmp rfl (by constructor)) (r_tmp rfl (by constructor)) ⟨rfl, rfl, rfl⟩, ?_⟩
        have hc1 : ¬ (o.act = 0 ∧ pallB P o = false) := by simp_all
        have hc2 : (heldB P o || pallB P o) = true ∧ typeB o.ty = false := by simp_all
        have st := st.nil 43
        have hM : preemptM P n o = ⟨2, 9216, [], P⟩ := by unfold preemptM; rw [if_neg hc1, if_pos hc2]
        rw [hM]
        exact ⟨ob, none, rfl, .inl ⟨rfl, rfl, st.sel [3, 0] (by decide)⟩⟩
       ·have h16n : typeB o.ty = true := Eq.mp (Bool.not_eq_false' _) h16
        exact ⟨by simp_all, by simp_all, (st.sel [0, 1, 2] (by decide))⟩
      ·refine gT rfl ?_
       refine aMovV (.bool true) (congrArg Value.bool h13n) ?_
       iterate 2 refine aN rfl rfl (by constructor) ?_
       refine gT rfl ?_
       refine aN rfl rfl (by constructor) ?_
       refine gT rfl ?_
       refine aLd st 0 rfl rfl rfl (by constructor) ?_
       refine gT rfl ?_
       refine aC (types_call) fun v91 H17 ⟨hv, st1⟩ => ?_
       subst hv
       replace st := st.call st1 rfl
       clear st1
       refine gT rfl ?_
       iterate 3 refine aN rfl rfl (by constructor) ?_
       refine sE ?_
       show AW _ (.cond _ _ _) _ _ _
       refine cC' rfl (fun h18 => ?_) (fun h18 => ?_)
       ·have h18n : typeB o.ty = false := Eq.mp (Bool.not_eq_true' _) h18
        show AWl _ _ _ _ _
        iterate 3 refine aN rfl rfl (by constructor) ?_
        refine sE ?_
        refine ⟨_, out3 (r_tmp rfl (by constructor)) (r_tmp rfl (by constructor)) (r_tmp rfl (by constructor)) ⟨rfl, rfl, rfl⟩, ?_⟩
        have hc1 : ¬ (o.act = 0 ∧ pallB P o = false) := by simp_all
        have hc2 : (heldB P o || pallB P o) = true ∧ typeB o.ty = false := by simp_all
        have st := st.nil 43
        have hM : preemptM P n o = ⟨2, 9216, [], P⟩ := by unfold preemptM; rw [if_neg hc1, if_pos hc2]
        rw [hM]
        exact ⟨ob, none, rfl, .inl ⟨rfl, rfl, st.sel [3, 0] (by decide)⟩⟩
       ·have h18n : typeB o.ty = true := Eq.mp (Bool.not_eq_false' _) h18
        exact ⟨by simp_all, by simp_all, (st.sel [0, 1, 2] (by decide))⟩
    ·refine gF rfl (by decide) ?_
     refine gF rfl (by decide) ?_
     iterate 2 refine aN rfl rfl (by constructor) ?_
     refine sE ?_
     show AW _ (.cond _ _ _) _ _ _
     refine cF' rfl ?_
     show AWl _ _ _ _ _
     iterate 2 refine aN rfl rfl (by constructor) ?_
     refine gCase 85 rfl (fun h19 => ?_) (fun h19 => ?_)
     ·refine gF rfl (by decide) ?_
      iterate 2 refine aN rfl rfl (by constructor) ?_
      refine gT rfl ?_
      refine aN rfl rfl (by constructor) ?_
      refine gT rfl ?_
      refine aLd st 0 rfl rfl rfl (by constructor) ?_
      refine gT rfl ?_
      refine aC (types_call) fun v91 H20 ⟨hv, st1⟩ => ?_
      subst hv
      replace st := st.call st1 rfl
      clear st1
      refine gT rfl ?_
      iterate 3 refine aN rfl rfl (by constructor) ?_
      refine sE ?_
      show AW _ (.cond _ _ _) _ _ _
      refine cC' rfl (fun h21 => ?_) (fun h21 => ?_)
      ·have h21n : typeB o.ty = false := Eq.mp (Bool.not_eq_true' _) h21
       show AWl _ _ _ _ _
       iterate 3 refine aN rfl rfl (by constructor) ?_
       refine sE ?_
       refine ⟨_, out3 (r_tmp rfl (by constructor)) (r_tmp rfl (by constructor)) (r_tmp rfl (by constructor)) ⟨rfl, rfl, rfl⟩, ?_⟩
       have hc1 : ¬ (o.act = 0 ∧ pallB P o = false) := by simp_all
       have hc2 : (heldB P o || pallB P o) = true ∧ typeB o.ty = false := by simp_all
       have st := st.nil 43
       have hM : preemptM P n o = ⟨2, 9216, [], P⟩ := by unfold preemptM; rw [if_neg hc1, if_pos hc2]
       rw [hM]
       exact ⟨ob, none, rfl, .inl ⟨rfl, rfl, st.sel [3, 0] (by decide)⟩⟩
      ·have h21n : typeB o.ty = true := Eq.mp (Bool.not_eq_false' _) h21
       exact ⟨by simp_all, by simp_all, (st.sel [0, 1, 2] (by decide))⟩
     ·refine gT rfl ?_
      iterate 3 refine aN rfl rfl (by constructor) ?_
      refine gCase 88 rfl (fun h22 => ?_) (fun h22 => ?_)
      ·refine gT rfl ?_
       refine aN rfl rfl (by constructor) ?_
       refine gT rfl ?_
       refine aLd st 0 rfl rfl rfl (by constructor) ?_
       refine gT rfl ?_
       refine aC (types_call) fun v91 H23 ⟨hv, st1⟩ => ?_
       subst hv
       replace st := st.call st1 rfl
       clear st1
       refine gT rfl ?_
       iterate 3 refine aN rfl rfl (by constructor) ?_
       refine sE ?_
       show AW _ (.cond _ _ _) _ _ _
       refine cC' rfl (fun h24 => ?_) (fun h24 => ?_)
       ·have h24n : typeB o.ty = false := Eq.mp (Bool.not_eq_true' _) h24
        show AWl _ _ _ _ _
        iterate 3 refine aN rfl rfl (by constructor) ?_
        refine sE ?_
        refine ⟨_, out3 (r_tmp rfl (by constructor)) (r_tmp rfl (by constructor)) (r_tmp rfl (by constructor)) ⟨rfl, rfl, rfl⟩, ?_⟩
        have hc1 : ¬ (o.act = 0 ∧ pallB P o = false) := by simp_all
        have hc2 : (heldB P o || pallB P o) = true ∧ typeB o.ty = false := by simp_all
        have st := st.nil 43
        have hM : preemptM P n o = ⟨2, 9216, [], P⟩ := by unfold preemptM; rw [if_neg hc1, if_pos hc2]
        rw [hM]
        exact ⟨ob, none, rfl, .inl ⟨rfl, rfl, st.sel [3, 0] (by decide)⟩⟩
       ·have h24n : typeB o.ty = true := Eq.mp (Bool.not_eq_false' _) h24
        exact ⟨by simp_all, by simp_all, (st.sel [0, 1, 2] (by decide))⟩
      ·refine gF rfl (by decide) ?_
       refine gF rfl (by decide) ?_
       refine gF rfl (by decide) ?_
       refine gF rfl (by decide) ?_
       iterate 2 refine aN rfl rfl (by constructor) ?_
       refine sE ?_
       show AW _ (.cond _ _ _) _ _ _
       refine cF' rfl ?_
       exact ⟨by simp_all, by simp_all, (st.sel [0, 1, 2] (by decide))⟩
   ·obtain ⟨hc1, hc2, st⟩ := hI
    obtain ⟨u, rfl⟩ : ∃ u, t1 = (mix [6, 7, 8, 75, 76, 77, 78, 79, 80, 81, 82, 83, 84, 85, 86, 87, 88, 89, 90, 91, 92, 93] _ u) := ⟨t1, by rw [← hk]⟩
    clear hk
    show AWl _ _ _ _ _
    refine aN rfl rfl (by constructor) ?_
    refine sE ?_
    show AWl _ _ _ _ _
    refine aN rfl rfl (by constructor) ?_
    refine sE ?_
    refine AW_cutK (b := .seq (.list (⟨some 17, _, _⟩ :: _)) _) (fun t1 H1 => ∃ (oc : Option Nat) (oe : Option Nat), t1 14 = accV oc (leftM P n o).length 2 ∧ t1 13 = accV oe (goneE P n o).length 2 ∧ Stt [b] H H1 [⟨oc, true, ⟨true, 30, ((leftM P n o)).flatMap regE⟩⟩, ⟨oe, true, ⟨true, 43, ((goneE P n o)).flatMap evE⟩⟩, ⟨some b5, true, ⟨true, 39, [.int .u8 o.sv, .int .u8 o.ty, .int .u64 o.key, .int .u64 o.act, .bool o.ap]⟩⟩, ⟨ob, false, ⟨true, 30, (P.regs).flatMap regE⟩⟩, ⟨some b, true, ⟨true, 79, [accV ob P.regs.length 2, .int .u32 P.gen, .int .u8 P.kind, .int .i64 P.holder, .bool P.aptpl]⟩⟩]) [13, 14, 16, 94, 95, 96, 97, 98, 99, 100, 101, 102, 103, 104, 105, 106, 107, 108, 109, 110, 111, 112, 113, 114, 115, 116, 117, 118, 119, 120, 121, 122, 123, 124, 125, 126, 127] (by decide) ?_ fun t1 H1 hk hI => ?_
    ·show AWl _ _ _ _ _
     iterate 3 refine aN rfl rfl (by constructor) ?_
     refine aLdQ st 2 rfl rfl rfl rfl ?_
     refine aLen (st.rowAcc 1 rfl (by decide) (by exact flat_len' regE_len _)) rfl ?_
     refine aN rfl rfl (by constructor) ?_
     refine sE ?_
     show AW _ (.loop _) _ _ _
     have st := st.nil 43
     have st := st.nil 30
     refine AW_loopN (fun m t1 H1 => ∃ (j : Nat) (oc : Option Nat) (oe : Option Nat), m = P.regs.length - j ∧ (j ≤ P.regs.length) ∧ t1 99 = .int .i64 (j : Int) ∧ t1 14 = accV oc ((P.regs.take j).filter (stays P n o)).length 2 ∧ t1 13 = accV oe (((P.regs.take j).filter (fun r : Int × Int => !stays P n o r)).map (fun r : Int × Int => (r.1, (10757 : Int)))).length 2 ∧ Stt [b] H H1 [⟨oc, true, ⟨true, 30, (((P.regs.take j).filter (stays P n o))).flatMap regE⟩⟩, ⟨oe, true, ⟨true, 43, ((((P.regs.take j).filter (fun r : Int × Int => !stays P n o r)).map (fun r : Int × Int => (r.1, (10757 : Int))))).flatMap evE⟩⟩, ⟨some b5, true, ⟨true, 39, [.int .u8 o.sv, .int .u8 o.ty, .int .u64 o.key, .int .u64 o.act, .bool o.ap]⟩⟩, ⟨ob, false, ⟨true, 30, (P.regs).flatMap regE⟩⟩, ⟨some b, true, ⟨true, 79, [accV ob P.regs.length 2, .int .u32 P.gen, .int .u8 P.kind, .int .i64 P.holder, .bool P.aptpl]⟩⟩]) (P.regs.length - 0) ⟨0, none, none, rfl, by omega, rfl, rfl, rfl, (st.sel [0, 1, 2, 3, 4] (by decide))⟩ [13, 14, 16, 99, 100, 101, 102, 103, 104, 105, 106, 107, 108, 109, 110, 111, 112, 113, 114, 115, 116, 117, 118, 119, 120, 121, 122, 123, 124, 125, 126, 127] (by decide) ?_
     rintro m t1 H1 hk hI
     obtain ⟨j, oc, oe, rfl, hj, ht99, ht14, ht13, st⟩ := hI
     obtain ⟨u, rfl⟩ : ∃ u, t1 = (upd (upd (upd (mix [13, 14, 16, 99, 100, 101, 102, 103, 104, 105, 106, 107, 108, 109, 110, 111, 112, 113, 114, 115, 116, 117, 118, 119, 120, 121, 122, 123, 124, 125, 126, 127] _ u) (some 99) _) (some 14) _) (some 13) _) := ⟨t1, by rw [← hk, upd_self ht99, upd_self ht14, upd_self ht13]⟩
     clear hk ht99 ht14 ht13
     show AWl _ _ _ _ _
     refine aN rfl rfl (by constructor) ?_
     refine sE ?_
     show AW _ (.cond _ _ _) _ _ _
     refine cC' rfl (fun h25 => ?_) (fun h25 => ?_)
     ·have hlt : j < P.regs.length := by have := of_decide_eq_true h25; omega
      show AWl _ _ _ _ _
      refine aIxE regE_len (0, 0) (l := P.regs) (st.rowAcc 3 rfl (by decide) (by exact flat_len' regE_len _)) rfl rfl (by omega) fun b101 o101 g101 => ?_
      refine aLdAG rfl g101 ?_
      refine aNewP st rfl rfl (by repeat constructor) fun b16 H26 st => ?_
      refine aSt st 0 rfl rfl rfl rfl (by first | rfl | simp [cellsOf, *]) (by first | decide | (simp [*]; done) | (simp [k8]; done)) (by repeat constructor) fun H27 st => ?_
      refine sE ?_
      show AWl _ _ _ _ _
      refine aN rfl rfl (by constructor) ?_
      refine aLd st 0 rfl rfl rfl (by constructor) ?_
      iterate 3 refine aN rfl rfl (by constructor) ?_
      refine sE ?_
      show AW _ (.cond _ _ _) _ _ _
      refine cC' rfl (fun h28 => ?_) (fun h28 => ?_)
      ·show AW _ (.cond _ _ _) _ _ _
       refine cT rfl ?_
       show AWl _ _ _ _ _
       have hstay : stays P n o (P.regs.getD j (0, 0)) = true := by unfold stays; simp_all
       have hol1 : ((P.regs.take j).filter (stays P n o)).length ≤ P.regs.length := Nat.le_trans (List.length_filter_le _ _) (by rw [List.length_take]; omega)
       have hol2 : (((P.regs.take j).filter (fun r : Int × Int => !stays P n o r)).map (fun r : Int × Int => (r.1, (10757 : Int)))).length ≤ P.regs.length := by rw [List.length_map]; exact Nat.le_trans (List.length_filter_le _ _) (by rw [List.length_take]; omega)
       have hoL : ((P.regs.take (j + 1)).filter (stays P n o)) = ((P.regs.take j).filter (stays P n o)) ++ [P.regs.getD j (0, 0)] := filt_t (d := (0, 0)) hlt hstay
       have hoG : (((P.regs.take (j + 1)).filter (fun r : Int × Int => !stays P n o r)).map (fun r : Int × Int => (r.1, (10757 : Int)))) = (((P.regs.take j).filter (fun r : Int × Int => !stays P n o r)).map (fun r : Int × Int => (r.1, (10757 : Int)))) := by rw [filt_f (d := (0, 0)) hlt (show (fun r : Int × Int => !stays P n o r) (P.regs.getD j (0, 0)) = false by show (!stays P n o (P.regs.getD j (0, 0))) = false; rw [hstay]; rfl)]
       refine aMovA rfl ?_
       refine aLdA st 0 rfl rfl (by first | decide | simp [*]) (by repeat constructor) ?_
       refine aLit st rfl (by repeat constructor) fun b125 H29 st => ?_
       refine aApp st 2 (ob := oc) rfl rfl rfl (by decide) (by exact flat_len' regE_len _) (st.rowAll 0 rfl (by first | rfl | (simp [beB_len, *]; done) | (simp [beB_len, *]; omega))).src (by first | rfl | simp) (by omega) (by omega) fun b126 H30 hp126 st => ?_
       have st := st.recell 2 rfl (cs' := ((P.regs.take (j + 1)).filter (stays P n o)).flatMap regE) (flat_snoc hoL rfl)
       refine aMovA rfl ?_
       refine sE ?_
       show AWl _ _ _ _ _
       iterate 2 refine aN rfl rfl (by constructor) ?_
       refine sE ?_
       have st := st.recell 3 rfl (cs' := (((P.regs.take (j + 1)).filter (fun r : Int × Int => !stays P n o r)).map (fun r : Int × Int => (r.1, (10757 : Int)))).flatMap evE) (by rw [hoG])
       exact ⟨_, by omega, j + 1, b126, oe, rfl, by omega, congrArg (Value.int .i64) (wi _ (by omega)), congrArg (fun n => accV _ n 2) (len_snoc hoL), congrArg (fun n => accV _ n 2) (congrArg List.length hoG.symm), (st.sel [2, 3, 4, 5, 6] (by decide))⟩
      ·show AWl _ _ _ _ _
       refine aN rfl rfl (by constructor) ?_
       refine aLd st 0 rfl rfl rfl (by constructor) ?_
       refine aN rfl rfl (by constructor) ?_
       refine aLd st 3 rfl rfl rfl (by constructor) ?_
       iterate 2 refine aN rfl rfl (by constructor) ?_
       refine gCase 119 rfl (fun h31 => ?_) (fun h31 => ?_)
       ·refine gT rfl ?_
        refine aN rfl rfl (by constructor) ?_
        refine gT rfl ?_
        iterate 3 refine aN rfl rfl (by constructor) ?_
        refine sE ?_
        show AW _ (.cond _ _ _) _ _ _
        refine cC' rfl (fun h32 => ?_) (fun h32 => ?_)
        ·have h32n : pallB P o = false := Eq.mp (Bool.not_eq_true' _) h32
         show AWl _ _ _ _ _
         have hstay : stays P n o (P.regs.getD j (0, 0)) = true := by unfold stays; simp_all
         have hol1 : ((P.regs.take j).filter (stays P n o)).length ≤ P.regs.length := Nat.le_trans (List.length_filter_le _ _) (by rw [List.length_take]; omega)
         have hol2 : (((P.regs.take j).filter (fun r : Int × Int => !stays P n o r)).map (fun r : Int × Int => (r.1, (10757 : Int)))).length ≤ P.regs.length := by rw [List.length_map]; exact Nat.le_trans (List.length_filter_le _ _) (by rw [List.length_take]; omega)
         have hoL : ((P.regs.take (j + 1)).filter (stays P n o)) = ((P.regs.take j).filter (stays P n o)) ++ [P.regs.getD j (0, 0)] := filt_t (d := (0, 0)) hlt hstay
         have hoG : (((P.regs.take (j + 1)).filter (fun r : Int × Int => !stays P n o r)).map (fun r : Int × Int => (r.1, (10757 : Int)))) = (((P.regs.take j).filter (fun r : Int × Int => !stays P n o r)).map (fun r : Int × Int => (r.1, (10757 : Int)))) := by rw [filt_f (d := (0, 0)) hlt (show (fun r : Int × Int => !stays P n o r) (P.regs.getD j (0, 0)) = false by show (!stays P n o (P.regs.getD j (0, 0))) = false; rw [hstay]; rfl)]
         refine aMovA rfl ?_
         refine aLdA st 0 rfl rfl (by first | decide | simp [*]) (by repeat constructor) ?_
         refine aLit st rfl (by repeat constructor) fun b125 H33 st => ?_
         refine aApp st 2 (ob := oc) rfl rfl rfl (by decide) (by exact flat_len' regE_len _) (st.rowAll 0 rfl (by first | rfl | (simp [beB_len, *]; done) | (simp [beB_len, *]; omega))).src (by first | rfl | simp) (by omega) (by omega) fun b126 H34 hp126 st => ?_
         have st := st.recell 2 rfl (cs' := ((P.regs.take (j + 1)).filter (stays P n o)).flatMap regE) (flat_snoc hoL rfl)
         refine aMovA rfl ?_
         refine sE ?_
         show AWl _ _ _ _ _
         iterate 2 refine aN rfl rfl (by constructor) ?_
         refine sE ?_
         have st := st.recell 3 rfl (cs' := (((P.regs.take (j + 1)).filter (fun r : Int × Int => !stays P n o r)).map (fun r : Int × Int => (r.1, (10757 : Int)))).flatMap evE) (by rw [hoG])
         exact ⟨_, by omega, j + 1, b126, oe, rfl, by omega, congrArg (Value.int .i64) (wi _ (by omega)), congrArg (fun n => accV _ n 2) (len_snoc hoL), congrArg (fun n => accV _ n 2) (congrArg List.length hoG.symm), (st.sel [2, 3, 4, 5, 6] (by decide))⟩
        ·have h32n : pallB P o = true := Eq.mp (Bool.not_eq_false' _) h32
         show AWl _ _ _ _ _
         have hstay : stays P n o (P.regs.getD j (0, 0)) = false := by unfold stays; simp_all
         have hol1 : ((P.regs.take j).filter (stays P n o)).length ≤ P.regs.length := Nat.le_trans (List.length_filter_le _ _) (by rw [List.length_take]; omega)
         have hol2 : (((P.regs.take j).filter (fun r : Int × Int => !stays P n o r)).map (fun r : Int × Int => (r.1, (10757 : Int)))).length ≤ P.regs.length := by rw [List.length_map]; exact Nat.le_trans (List.length_filter_le _ _) (by rw [List.length_take]; omega)
         have hoL : ((P.regs.take (j + 1)).filter (stays P n o)) = ((P.regs.take j).filter (stays P n o)) := filt_f (d := (0, 0)) hlt hstay
         have hoG : (((P.regs.take (j + 1)).filter (fun r : Int × Int => !stays P n o r)).map (fun r : Int × Int => (r.1, (10757 : Int)))) = (((P.regs.take j).filter (fun r : Int × Int => !stays P n o r)).map (fun r : Int × Int => (r.1, (10757 : Int)))) ++ [(fun r : Int × Int => (r.1, (10757 : Int))) (P.regs.getD j (0, 0))] := by rw [filt_t (d := (0, 0)) hlt (show (fun r : Int × Int => !stays P n o r) (P.regs.getD j (0, 0)) = true by show (!stays P n o (P.regs.getD j (0, 0))) = true; rw [hstay]; rfl)]; simp
         refine aMovA rfl ?_
         refine aN rfl rfl (by constructor) ?_
         refine aLd st 0 rfl rfl rfl (by constructor) ?_
         refine aBld rfl (by repeat constructor) ?_
         refine aLit st rfl (by repeat constructor) fun b107 H35 st => ?_
         refine aApp st 3 (ob := oe) rfl rfl rfl (by decide) (by exact flat_len' evE_len _) (st.rowAll 0 rfl (by first | rfl | (simp [beB_len, *]; done) | (simp [beB_len, *]; omega))).src (by first | rfl | simp) (by omega) (by omega) fun b108 H36 hp108 st => ?_
         have st := st.recell 3 rfl (cs' := (((P.regs.take (j + 1)).filter (fun r : Int × Int => !stays P n o r)).map (fun r : Int × Int => (r.1, (10757 : Int)))).flatMap evE) (flat_snoc hoG rfl)
         refine aMovA rfl ?_
         refine sE ?_
         show AWl _ _ _ _ _
         iterate 2 refine aN rfl rfl (by constructor) ?_
         refine sE ?_
         have st := st.recell 2 rfl (cs' := ((P.regs.take (j + 1)).filter (stays P n o)).flatMap regE) (by rw [hoL])
         exact ⟨_, by omega, j + 1, oc, b108, rfl, by omega, congrArg (Value.int .i64) (wi _ (by omega)), congrArg (fun n => accV _ n 2) (congrArg List.length hoL.symm), congrArg (fun n => accV _ n 2) (len_snoc hoG), (st.sel [2, 3, 4, 5, 6] (by decide))⟩
       ·refine gF rfl (by decide) ?_
        refine gF rfl (by decide) ?_
        iterate 2 refine aN rfl rfl (by constructor) ?_
        refine sE ?_
        show AW _ (.cond _ _ _) _ _ _
        refine cF' rfl ?_
        show AWl _ _ _ _ _
        have hstay : stays P n o (P.regs.getD j (0, 0)) = false := by unfold stays; simp_all
        have hol1 : ((P.regs.take j).filter (stays P n o)).length ≤ P.regs.length := Nat.le_trans (List.length_filter_le _ _) (by rw [List.length_take]; omega)
        have hol2 : (((P.regs.take j).filter (fun r : Int × Int => !stays P n o r)).map (fun r : Int × Int => (r.1, (10757 : Int)))).length ≤ P.regs.length := by rw [List.length_map]; exact Nat.le_trans (List.length_filter_le _ _) (by rw [List.length_take]; omega)
        have hoL : ((P.regs.take (j + 1)).filter (stays P n o)) = ((P.regs.take j).filter (stays P n o)) := filt_f (d := (0, 0)) hlt hstay
        have hoG : (((P.regs.take (j + 1)).filter (fun r : Int × Int => !stays P n o r)).map (fun r : Int × Int => (r.1, (10757 : Int)))) = (((P.regs.take j).filter (fun r : Int × Int => !stays P n o r)).map (fun r : Int × Int => (r.1, (10757 : Int)))) ++ [(fun r : Int × Int => (r.1, (10757 : Int))) (P.regs.getD j (0, 0))] := by rw [filt_t (d := (0, 0)) hlt (show (fun r : Int × Int => !stays P n o r) (P.regs.getD j (0, 0)) = true by show (!stays P n o (P.regs.getD j (0, 0))) = true; rw [hstay]; rfl)]; simp
        refine aMovA rfl ?_
        refine aN rfl rfl (by constructor) ?_
        refine aLd st 0 rfl rfl rfl (by constructor) ?_
        refine aBld rfl (by repeat constructor) ?_
        refine aLit st rfl (by repeat constructor) fun b107 H37 st => ?_
        refine aApp st 3 (ob := oe) rfl rfl rfl (by decide) (by exact flat_len' evE_len _) (st.rowAll 0 rfl (by first | rfl | (simp [beB_len, *]; done) | (simp [beB_len, *]; omega))).src (by first | rfl | simp) (by omega) (by omega) fun b108 H38 hp108 st => ?_
        have st := st.recell 3 rfl (cs' := (((P.regs.take (j + 1)).filter (fun r : Int × Int => !stays P n o r)).map (fun r : Int × Int => (r.1, (10757 : Int)))).flatMap evE) (flat_snoc hoG rfl)
        refine aMovA rfl ?_
        refine sE ?_
        show AWl _ _ _ _ _
        iterate 2 refine aN rfl rfl (by constructor) ?_
        refine sE ?_
        have st := st.recell 2 rfl (cs' := ((P.regs.take (j + 1)).filter (stays P n o)).flatMap regE) (by rw [hoL])
        exact ⟨_, by omega, j + 1, oc, b108, rfl, by omega, congrArg (Value.int .i64) (wi _ (by omega)), congrArg (fun n => accV _ n 2) (congrArg List.length hoL.symm), congrArg (fun n => accV _ n 2) (len_snoc hoG), (st.sel [2, 3, 4, 5, 6] (by decide))⟩
     ·have hge : j = P.regs.length := by have := of_decide_eq_false h25; omega
      subst hge
      try rw [List.take_length]
      try rw [List.take_length] at st
      exact ⟨oc, oe, rfl, rfl, (st.sel [0, 1, 2, 3, 4] (by decide))⟩
    ·obtain ⟨oc, oe, ht14, ht13, st⟩ := hI
     obtain ⟨u, rfl⟩ : ∃ u, t1 = (upd (upd (mix [13, 14, 16, 94, 95, 96, 97, 98, 99, 100, 101, 102, 103, 104, 105, 106, 107, 108, 109, 110, 111, 112, 113, 114, 115, 116, 117, 118, 119, 120, 121, 122, 123, 124, 125, 126, 127] _ u) (some 14) _) (some 13) _) := ⟨t1, by rw [← hk, upd_self ht14, upd_self ht13]⟩
     clear hk ht14 ht13
     show AWl _ _ _ _ _
     refine aN rfl rfl (by constructor) ?_
     refine sE ?_
     refine AW_cutK (b := .seq (.seq (.list (⟨some 146, _, _⟩ :: _)) _) _) (fun t1 H1 => t1 17 = .bool (P.regs.any (fun r : Int × Int => r.2 == o.act)) ∧ Stt [b] H H1 [⟨oc, true, ⟨true, 30, ((leftM P n o)).flatMap regE⟩⟩, ⟨oe, true, ⟨true, 43, ((goneE P n o)).flatMap evE⟩⟩, ⟨some b5, true, ⟨true, 39, [.int .u8 o.sv, .int .u8 o.ty, .int .u64 o.key, .int .u64 o.act, .bool o.ap]⟩⟩, ⟨ob, false, ⟨true, 30, (P.regs).flatMap regE⟩⟩, ⟨some b, true, ⟨true, 79, [accV ob P.regs.length 2, .int .u32 P.gen, .int .u8 P.kind, .int .i64 P.holder, .bool P.aptpl]⟩⟩]) [17, 19, 128, 129, 130, 131, 132, 133, 134, 135, 136, 137, 138, 139, 140, 141, 142, 143, 144, 145] (by decide) ?_ fun t1 H1 hk hI => ?_
     ·show AWl _ _ _ _ _
      iterate 3 refine aN rfl rfl (by constructor) ?_
      refine aLdQ st 4 rfl rfl rfl rfl ?_
      refine aLen (st.rowAcc 3 rfl (by decide) (by exact flat_len' regE_len _)) rfl ?_
      refine aN rfl rfl (by constructor) ?_
      refine sE ?_
      show AW _ (.loop _) _ _ _
      refine AW_loopN (fun m t1 H1 => ∃ (j : Nat), m = P.regs.length - j ∧ (j ≤ P.regs.length) ∧ t1 133 = .int .i64 (j : Int) ∧ t1 17 = .bool ((P.regs.take j).any (fun r : Int × Int => r.2 == o.act)) ∧ Stt [b] H H1 [⟨oc, true, ⟨true, 30, ((leftM P n o)).flatMap regE⟩⟩, ⟨oe, true, ⟨true, 43, ((goneE P n o)).flatMap evE⟩⟩, ⟨some b5, true, ⟨true, 39, [.int .u8 o.sv, .int .u8 o.ty, .int .u64 o.key, .int .u64 o.act, .bool o.ap]⟩⟩, ⟨ob, false, ⟨true, 30, (P.regs).flatMap regE⟩⟩, ⟨some b, true, ⟨true, 79, [accV ob P.regs.length 2, .int .u32 P.gen, .int .u8 P.kind, .int .i64 P.holder, .bool P.aptpl]⟩⟩]) (P.regs.length - 0) ⟨0, rfl, by omega, rfl, rfl, (st.sel [0, 1, 2, 3, 4] (by decide))⟩ [17, 19, 133, 134, 135, 136, 137, 138, 139, 140, 141, 142, 143, 144, 145] (by decide) ?_
      rintro m t1 H1 hk hI
      obtain ⟨j, rfl, hj, ht133, ht17, st⟩ := hI
      obtain ⟨u, rfl⟩ : ∃ u, t1 = (upd (upd (mix [17, 19, 133, 134, 135, 136, 137, 138, 139, 140, 141, 142, 143, 144, 145] _ u) (some 133) _) (some 17) _) := ⟨t1, by rw [← hk, upd_self ht133, upd_self ht17]⟩
      clear hk ht133 ht17
      show AWl _ _ _ _ _
      refine aN rfl rfl (by constructor) ?_
      refine sE ?_
      show AW _ (.cond _ _ _) _ _ _
      refine cC' rfl (fun h39 => ?_) (fun h39 => ?_)
      ·have hlt : j < P.regs.length := by have := of_decide_eq_true h39; omega
       show AWl _ _ _ _ _
       refine aIxE regE_len (0, 0) (l := P.regs) (st.rowAcc 3 rfl (by decide) (by exact flat_len' regE_len _)) rfl rfl (by omega) fun b135 o135 g135 => ?_
       refine aLdAG rfl g135 ?_
       refine aNewP st rfl rfl (by repeat constructor) fun b19 H40 st => ?_
       refine aSt st 0 rfl rfl rfl rfl (by first | rfl | simp [cellsOf, *]) (by first | decide | (simp [*]; done) | (simp [k8]; done)) (by repeat constructor) fun H41 st => ?_
       refine sE ?_
       show AWl _ _ _ _ _
       iterate 2 refine aN rfl rfl (by constructor) ?_
       refine gCase 138 rfl (fun h42 => ?_) (fun h42 => ?_)
       ·refine gF rfl (by decide) ?_
        refine gF rfl (by decide) ?_
        refine gF rfl (by decide) ?_
        refine gF rfl (by decide) ?_
        refine gF rfl (by decide) ?_
        iterate 2 refine aN rfl rfl (by constructor) ?_
        refine sE ?_
        show AWl _ _ _ _ _
        iterate 2 refine aN rfl rfl (by constructor) ?_
        refine sE ?_
        exact ⟨_, by omega, j + 1, rfl, by omega, congrArg (Value.int .i64) (wi _ (by omega)), congrArg Value.bool (by rw [any_step (d := (0, 0)) hlt]; show _ = (_ || ((P.regs.getD j (0, 0)).2 == o.act)); rw [h42] <;> rfl), (st.sel [1, 2, 3, 4, 5] (by decide))⟩
       ·refine gT rfl ?_
        refine aN rfl rfl (by constructor) ?_
        refine gT rfl ?_
        refine aLd st 0 rfl rfl rfl (by constructor) ?_
        refine gT rfl ?_
        refine aN rfl rfl (by constructor) ?_
        refine gT rfl ?_
        refine aLd st 3 rfl rfl rfl (by constructor) ?_
        refine gT rfl ?_
        iterate 3 refine aN rfl rfl (by constructor) ?_
        refine sE ?_
        show AWl _ _ _ _ _
        iterate 2 refine aN rfl rfl (by constructor) ?_
        refine sE ?_
        exact ⟨_, by omega, j + 1, rfl, by omega, congrArg (Value.int .i64) (wi _ (by omega)), congrArg Value.bool (by rw [any_step (d := (0, 0)) hlt]; show _ = (_ || ((P.regs.getD j (0, 0)).2 == o.act)); rw [h42] <;> rfl), (st.sel [1, 2, 3, 4, 5] (by decide))⟩
      ·have hge : j = P.regs.length := by have := of_decide_eq_false h39; omega
       subst hge
       try rw [List.take_length]
       try rw [List.take_length] at st
       exact ⟨rfl, (st.sel [0, 1, 2, 3, 4] (by decide))⟩
     ·obtain ⟨ht17, st⟩ := hI
      obtain ⟨u, rfl⟩ : ∃ u, t1 = (upd (mix [17, 19, 128, 129, 130, 131, 132, 133, 134, 135, 136, 137, 138, 139, 140, 141, 142, 143, 144, 145] _ u) (some 17) _) := ⟨t1, by rw [← hk, upd_self ht17]⟩
      clear hk ht17
      show AWl _ _ _ _ _
      iterate 3 refine aN rfl rfl (by constructor) ?_
      refine gCase 148 rfl (fun h43 => ?_) (fun h43 => ?_)
      ·have h43n : (P.regs.any (fun r : Int × Int => r.2 == o.act)) = false := Eq.mp (Bool.not_eq_true' _) h43
       refine gT rfl ?_
       refine aN rfl rfl (by constructor) ?_
       refine gT rfl ?_
       iterate 2 refine aN rfl rfl (by constructor) ?_
       refine sE ?_
       show AW _ (.cond _ _ _) _ _ _
       refine cC' rfl (fun h44 => ?_) (fun h44 => ?_)
       ·have h44n : pallB P o = false := Eq.mp (Bool.not_eq_true' _) h44
        show AWl _ _ _ _ _
        iterate 3 refine aN rfl rfl (by constructor) ?_
        refine sE ?_
        refine ⟨_, out3 (r_tmp rfl (by constructor)) (r_tmp rfl (by constructor)) (r_tmp rfl (by constructor)) ⟨rfl, rfl, rfl⟩, ?_⟩
        have hc3 : (P.regs.any (fun r : Int × Int => r.2 == o.act)) = false ∧ pallB P o = false := ⟨h43n, h44n⟩
        have st := st.nil 43
        have hM : preemptM P n o = ⟨24, 0, [], P⟩ := by unfold preemptM; rw [if_neg hc1, if_neg hc2, if_pos hc3]
        rw [hM]
        exact ⟨ob, none, rfl, .inl ⟨rfl, rfl, st.sel [5, 0] (by decide)⟩⟩
       ·have h44n : pallB P o = true := Eq.mp (Bool.not_eq_false' _) h44
        show AWl _ _ _ _ _
        have hc3 : ¬ ((P.regs.any (fun r : Int × Int => r.2 == o.act)) = false ∧ pallB P o = false) := fun hc => by rw [h44n] at hc; exact absurd hc.2 (by decide)
        iterate 3 refine aN rfl rfl (by constructor) ?_
        refine aLd st 4 rfl rfl rfl (by constructor) ?_
        refine aN rfl rfl (by constructor) ?_
        refine sE ?_
        show AWl _ _ _ _ _
        refine aN rfl rfl (by constructor) ?_
        refine aMovA rfl ?_
        iterate 2 refine aN rfl rfl (by constructor) ?_
        refine aStS (st.rowAcc 0 rfl (by decide) (by exact flat_len' regE_len _)) st 4 rfl rfl rfl (by first | decide | simp) fun H45 st => ?_
        refine sE ?_
        refine AW_cutK (b := .seq (.list (⟨some 198, _, _⟩ :: _)) _) (fun t1 H1 => ∃ (oe : Option Nat), t1 13 = accV oe ((goneE P n o) ++ (relE P n o)).length 2 ∧ Stt [b] H H1 [⟨oe, true, ⟨true, 43, ((goneE P n o) ++ (relE P n o)).flatMap evE⟩⟩, ⟨oc, true, ⟨true, 30, ((leftM P n o)).flatMap regE⟩⟩, ⟨some b, true, ⟨true, 79, [accV oc (leftM P n o).length 2, .int .u32 P.gen, .int .u8 (if (heldB P o || pallB P o) = true then o.ty else P.kind), .int .i64 (if (heldB P o || pallB P o) = true then n else P.holder), .bool P.aptpl]⟩⟩]) [13, 22, 160, 161, 162, 163, 164, 165, 166, 167, 168, 169, 170, 171, 172, 173, 174, 175, 176, 177, 178, 179, 180, 181, 182, 183, 184, 185, 186, 187, 188, 189, 190, 191, 192, 193, 194, 195, 196, 197] (by decide) ?_ fun t1 H1 hk hI => ?_
        ·show AWl _ _ _ _ _
         iterate 2 refine aN rfl rfl (by constructor) ?_
         refine gCase 161 rfl (fun h46 => ?_) (fun h46 => ?_)
         ·refine gF rfl (by decide) ?_
          refine aN rfl rfl (by constructor) ?_
          refine sE ?_
          show AW _ (.cond _ _ _) _ _ _
          refine cT rfl ?_
          show AWl _ _ _ _ _
          have hlm : (leftM P n o).length ≤ P.regs.length := List.length_filter_le _ _
          have hgm : (goneE P n o).length ≤ P.regs.length := by unfold goneE; rw [List.length_map]; exact List.length_filter_le _ _
          iterate 3 refine aN rfl rfl (by constructor) ?_
          refine aLd st 2 rfl rfl rfl (by constructor) ?_
          iterate 3 refine aN rfl rfl (by constructor) ?_
          refine aSt st 4 rfl rfl rfl rfl (by first | rfl | simp [cellsOf, *]) (by first | decide | (simp [*]; done) | (simp [k8]; done)) (by repeat constructor) fun H47 st => ?_
          iterate 2 refine aN rfl rfl (by constructor) ?_
          refine aSt st 4 rfl rfl rfl rfl (by first | rfl | simp [cellsOf, *]) (by first | decide | (simp [*]; done) | (simp [k8]; done)) (by repeat constructor) fun H48 st => ?_
          refine sE ?_
          show AWl _ _ _ _ _
          iterate 3 refine aN rfl rfl (by constructor) ?_
          refine gCase 175 rfl (fun h49 => ?_) (fun h49 => ?_)
          ·refine gT rfl ?_
           refine aN rfl rfl (by constructor) ?_
           refine gT rfl ?_
           refine aN rfl rfl (by constructor) ?_
           refine gT rfl ?_
           refine aLd st 2 rfl rfl rfl (by constructor) ?_
           refine gT rfl ?_
           iterate 2 refine aN rfl rfl (by constructor) ?_
           refine sE ?_
           show AW _ (.cond _ _ _) _ _ _
           refine cC' rfl (fun h50 => ?_) (fun h50 => ?_)
           ·have hrl : P.kind ≥ 5 ∧ P.kind ≠ o.ty := by simp_all
            show AWl _ _ _ _ _
            refine aMovA rfl ?_
            refine aLen (st.rowAcc 0 rfl (by decide) (by exact flat_len' regE_len _)) rfl ?_
            refine aN rfl rfl (by constructor) ?_
            refine sE ?_
            show AW _ (.loop _) _ _ _
            refine AW_loopN (fun m t1 H1 => ∃ (j : Nat) (og : Option Nat), m = (leftM P n o).length - j ∧ (j ≤ (leftM P n o).length) ∧ t1 183 = .int .i64 (j : Int) ∧ t1 13 = accV og ((goneE P n o) ++ (((leftM P n o).take j).filter (fun r : Int × Int => r.1 != n)).map (fun r : Int × Int => (r.1, (10756 : Int)))).length 2 ∧ Stt [b] H H1 [⟨og, true, ⟨true, 43, (((goneE P n o) ++ (((leftM P n o).take j).filter (fun r : Int × Int => r.1 != n)).map (fun r : Int × Int => (r.1, (10756 : Int))))).flatMap evE⟩⟩, ⟨oc, true, ⟨true, 30, ((leftM P n o)).flatMap regE⟩⟩, ⟨some b, true, ⟨true, 79, [accV oc (leftM P n o).length 2, .int .u32 P.gen, .int .u8 o.ty, .int .i64 n, .bool P.aptpl]⟩⟩]) ((leftM P n o).length - 0) ⟨0, oe, rfl, by omega, rfl, congrArg (fun n => accV _ n 2) (by simp), (by have st2 := (st.sel [1, 0, 4] (by decide)); simpa using st2)⟩ [13, 22, 183, 184, 185, 186, 187, 188, 189, 190, 191, 192, 193, 194, 195, 196, 197] (by decide) ?_
            rintro m t1 H1 hk hI
            obtain ⟨j, og, rfl, hj, ht183, ht13, st⟩ := hI
            obtain ⟨u, rfl⟩ : ∃ u, t1 = (upd (upd (mix [13, 22, 183, 184, 185, 186, 187, 188, 189, 190, 191, 192, 193, 194, 195, 196, 197] _ u) (some 183) _) (some 13) _) := ⟨t1, by rw [← hk, upd_self ht183, upd_self ht13]⟩
            clear hk ht183 ht13
            show AWl _ _ _ _ _
            refine aN rfl rfl (by constructor) ?_
            refine sE ?_
            show AW _ (.cond _ _ _) _ _ _
            refine cC' rfl (fun h51 => ?_) (fun h51 => ?_)
            ·have hlt : j < (leftM P n o).length := by have := of_decide_eq_true h51; omega
             show AWl _ _ _ _ _
             refine aIxE regE_len (0, 0) (l := (leftM P n o)) (st.rowAcc 1 rfl (by decide) (by exact flat_len' regE_len _)) rfl rfl (by omega) fun b185 o185 g185 => ?_
             refine aLdAG rfl g185 ?_
             refine aNewP st rfl rfl (by repeat constructor) fun b22 H52 st => ?_
             refine aSt st 0 rfl rfl rfl rfl (by first | rfl | simp [cellsOf, *]) (by first | decide | (simp [*]; done) | (simp [k8]; done)) (by repeat constructor) fun H53 st => ?_
             refine sE ?_
             show AWl _ _ _ _ _
             refine aN rfl rfl (by constructor) ?_
             refine aLd st 0 rfl rfl rfl (by constructor) ?_
             iterate 2 refine aN rfl rfl (by constructor) ?_
             refine sE ?_
             show AW _ (.cond _ _ _) _ _ _
             refine cC' rfl (fun h54 => ?_) (fun h54 => ?_)
             ·have hp : (fun r : Int × Int => r.1 != n) ((leftM P n o).getD j (0, 0)) = true := h54
              have ho : ((goneE P n o) ++ (((leftM P n o).take (j + 1)).filter (fun r : Int × Int => r.1 != n)).map (fun r : Int × Int => (r.1, (10756 : Int)))) = ((goneE P n o) ++ (((leftM P n o).take j).filter (fun r : Int × Int => r.1 != n)).map (fun r : Int × Int => (r.1, (10756 : Int)))) ++ [(fun r : Int × Int => (r.1, (10756 : Int))) ((leftM P n o).getD j (0, 0))] := by first | (rw [filt_t (d := (0, 0)) hlt hp]; done) | (rw [filt_t (d := (0, 0)) hlt hp]; simp)
              have hol : (((goneE P n o) ++ (((leftM P n o).take j).filter (fun r : Int × Int => r.1 != n)).map (fun r : Int × Int => (r.1, (10756 : Int))))).length ≤ (leftM P n o).length + ((goneE P n o)).length := by have h1 : (((leftM P n o).take j).filter (fun r : Int × Int => r.1 != n)).length ≤ (leftM P n o).length := Nat.le_trans (List.length_filter_le _ _) (by rw [List.length_take]; omega); first | omega | (simp only [List.length_append, List.length_map]; omega)
              show AWl _ _ _ _ _
              refine aMovA rfl ?_
              refine aN rfl rfl (by constructor) ?_
              refine aLd st 0 rfl rfl rfl (by constructor) ?_
              refine aBld rfl (by repeat constructor) ?_
              refine aLit st rfl (by repeat constructor) fun b195 H55 st => ?_
              refine aApp st 2 (ob := og) rfl rfl rfl (by decide) (by exact flat_len' evE_len _) (st.rowAll 0 rfl (by first | rfl | (simp [beB_len, *]; done) | (simp [beB_len, *]; omega))).src (by first | rfl | simp) (by omega) (by omega) fun b196 H56 hp196 st => ?_
              have st := st.recell 2 rfl (cs' := ((goneE P n o) ++ (((leftM P n o).take (j + 1)).filter (fun r : Int × Int => r.1 != n)).map (fun r : Int × Int => (r.1, (10756 : Int)))).flatMap evE) (flat_snoc ho rfl)
              refine aMovA rfl ?_
              refine sE ?_
              show AWl _ _ _ _ _
              iterate 2 refine aN rfl rfl (by constructor) ?_
              refine sE ?_
              exact ⟨_, by omega, j + 1, b196, rfl, by omega, congrArg (Value.int .i64) (wi _ (by omega)), congrArg (fun n => accV _ n 2) (len_snoc ho), (st.sel [2, 3, 4] (by decide))⟩
             ·have hp : (fun r : Int × Int => r.1 != n) ((leftM P n o).getD j (0, 0)) = false := h54
              have ho : ((goneE P n o) ++ (((leftM P n o).take (j + 1)).filter (fun r : Int × Int => r.1 != n)).map (fun r : Int × Int => (r.1, (10756 : Int)))) = ((goneE P n o) ++ (((leftM P n o).take j).filter (fun r : Int × Int => r.1 != n)).map (fun r : Int × Int => (r.1, (10756 : Int)))) := by rw [filt_f (d := (0, 0)) hlt hp]
              have hol : (((goneE P n o) ++ (((leftM P n o).take j).filter (fun r : Int × Int => r.1 != n)).map (fun r : Int × Int => (r.1, (10756 : Int))))).length ≤ (leftM P n o).length + ((goneE P n o)).length := by have h1 : (((leftM P n o).take j).filter (fun r : Int × Int => r.1 != n)).length ≤ (leftM P n o).length := Nat.le_trans (List.length_filter_le _ _) (by rw [List.length_take]; omega); first | omega | (simp only [List.length_append, List.length_map]; omega)
              show AWl _ _ _ _ _
              iterate 2 refine aN rfl rfl (by constructor) ?_
              refine sE ?_
              have st := st.recell 1 rfl (cs' := ((goneE P n o) ++ (((leftM P n o).take (j + 1)).filter (fun r : Int × Int => r.1 != n)).map (fun r : Int × Int => (r.1, (10756 : Int)))).flatMap evE) (by rw [ho])
              exact ⟨_, by omega, j + 1, og, rfl, by omega, congrArg (Value.int .i64) (wi _ (by omega)), congrArg (fun n => accV _ n 2) (congrArg List.length ho.symm), (st.sel [1, 2, 3] (by decide))⟩
            ·have hge : j = (leftM P n o).length := by have := of_decide_eq_false h51; omega
             subst hge
             try rw [List.take_length] at st
             try rw [List.take_length]
             have hTK : (heldB P o || pallB P o) = true := by simp_all
             have hK : (if (heldB P o || pallB P o) = true then o.ty else P.kind) = o.ty := if_pos hTK
             have hD : (if (heldB P o || pallB P o) = true then n else P.holder) = n := if_pos hTK
             have hR : relE P n o = (((leftM P n o)).filter (fun r : Int × Int => r.1 != n)).map (fun r : Int × Int => (r.1, (10756 : Int))) := if_pos ⟨hTK, hrl⟩
             have st2 := st.sel [0, 1, 2] (by decide)
             exact ⟨og, (by rw [hR] <;> rfl), by rw [hR, hK, hD]; exact st2⟩
           ·have hTK : (heldB P o || pallB P o) = true := by simp_all
            have hK : (if (heldB P o || pallB P o) = true then o.ty else P.kind) = o.ty := if_pos hTK
            have hD : (if (heldB P o || pallB P o) = true then n else P.holder) = n := if_pos hTK
            have hrl : ¬ (P.kind ≥ 5 ∧ P.kind ≠ o.ty) := fun hc => by have h1 := h50; exact hc.2 (by simpa using h1)
            have hR : relE P n o = [] := if_neg (fun hc => hrl hc.2)
            have st2 := st.sel [1, 0, 4] (by decide)
            exact ⟨oe, (by rw [hR, List.append_nil] <;> rfl), by rw [hR, hK, hD, List.append_nil]; exact st2⟩
          ·refine gF rfl (by decide) ?_
           refine gF rfl (by decide) ?_
           refine gF rfl (by decide) ?_
           refine gF rfl (by decide) ?_
           refine aN rfl rfl (by constructor) ?_
           refine sE ?_
           show AW _ (.cond _ _ _) _ _ _
           refine cF' rfl ?_
           have hTK : (heldB P o || pallB P o) = true := by simp_all
           have hK : (if (heldB P o || pallB P o) = true then o.ty else P.kind) = o.ty := if_pos hTK
           have hD : (if (heldB P o || pallB P o) = true then n else P.holder) = n := if_pos hTK
           have hrl : ¬ (P.kind ≥ 5 ∧ P.kind ≠ o.ty) := fun hc => of_decide_eq_false h49 hc.1
           have hR : relE P n o = [] := if_neg (fun hc => hrl hc.2)
           have st2 := st.sel [1, 0, 4] (by decide)
           exact ⟨oe, (by rw [hR, List.append_nil] <;> rfl), by rw [hR, hK, hD, List.append_nil]; exact st2⟩
         ·refine gT rfl ?_
          refine aMovV (.bool true) (congrArg Value.bool h44n) ?_
          refine aN rfl rfl (by constructor) ?_
          refine sE ?_
          show AW _ (.cond _ _ _) _ _ _
          refine cT rfl ?_
          show AWl _ _ _ _ _
          have hlm : (leftM P n o).length ≤ P.regs.length := List.length_filter_le _ _
          have hgm : (goneE P n o).length ≤ P.regs.length := by unfold goneE; rw [List.length_map]; exact List.length_filter_le _ _
          iterate 3 refine aN rfl rfl (by constructor) ?_
          refine aLd st 2 rfl rfl rfl (by constructor) ?_
          iterate 3 refine aN rfl rfl (by constructor) ?_
          refine aSt st 4 rfl rfl rfl rfl (by first | rfl | simp [cellsOf, *]) (by first | decide | (simp [*]; done) | (simp [k8]; done)) (by repeat constructor) fun H57 st => ?_
          iterate 2 refine aN rfl rfl (by constructor) ?_
          refine aSt st 4 rfl rfl rfl rfl (by first | rfl | simp [cellsOf, *]) (by first | decide | (simp [*]; done) | (simp [k8]; done)) (by repeat constructor) fun H58 st => ?_
          refine sE ?_
          show AWl _ _ _ _ _
          iterate 3 refine aN rfl rfl (by constructor) ?_
          refine gCase 175 rfl (fun h59 => ?_) (fun h59 => ?_)
          ·refine gT rfl ?_
           refine aN rfl rfl (by constructor) ?_
           refine gT rfl ?_
           refine aN rfl rfl (by constructor) ?_
           refine gT rfl ?_
           refine aLd st 2 rfl rfl rfl (by constructor) ?_
           refine gT rfl ?_
           iterate 2 refine aN rfl rfl (by constructor) ?_
           refine sE ?_
           show AW _ (.cond _ _ _) _ _ _
           refine cC' rfl (fun h60 => ?_) (fun h60 => ?_)
           ·have hrl : P.kind ≥ 5 ∧ P.kind ≠ o.ty := by simp_all
            show AWl _ _ _ _ _
            refine aMovA rfl ?_
            refine aLen (st.rowAcc 0 rfl (by decide) (by exact flat_len' regE_len _)) rfl ?_
            refine aN rfl rfl (by constructor) ?_
            refine sE ?_
            show AW _ (.loop _) _ _ _
            refine AW_loopN (fun m t1 H1 => ∃ (j : Nat) (og : Option Nat), m = (leftM P n o).length - j ∧ (j ≤ (leftM P n o).length) ∧ t1 183 = .int .i64 (j : Int) ∧ t1 13 = accV og ((goneE P n o) ++ (((leftM P n o).take j).filter (fun r : Int × Int => r.1 != n)).map (fun r : Int × Int => (r.1, (10756 : Int)))).length 2 ∧ Stt [b] H H1 [⟨og, true, ⟨true, 43, (((goneE P n o) ++ (((leftM P n o).take j).filter (fun r : Int × Int => r.1 != n)).map (fun r : Int × Int => (r.1, (10756 : Int))))).flatMap evE⟩⟩, ⟨oc, true, ⟨true, 30, ((leftM P n o)).flatMap regE⟩⟩, ⟨some b, true, ⟨true, 79, [accV oc (leftM P n o).length 2, .int .u32 P.gen, .int .u8 o.ty, .int .i64 n, .bool P.aptpl]⟩⟩]) ((leftM P n o).length - 0) ⟨0, oe, rfl, by omega, rfl, congrArg (fun n => accV _ n 2) (by simp), (by have st2 := (st.sel [1, 0, 4] (by decide)); simpa using st2)⟩ [13, 22, 183, 184, 185, 186, 187, 188, 189, 190, 191, 192, 193, 194, 195, 196, 197] (by decide) ?_
            rintro m t1 H1 hk hI
            obtain ⟨j, og, rfl, hj, ht183, ht13, st⟩ := hI
            obtain ⟨u, rfl⟩ : ∃ u, t1 = (upd (upd (mix [13, 22, 183, 184, 185, 186, 187, 188, 189, 190, 191, 192, 193, 194, 195, 196, 197] _ u) (some 183) _) (some 13) _) := ⟨t1, by rw [← hk, upd_self ht183, upd_self ht13]⟩
            clear hk ht183 ht13
            show AWl _ _ _ _ _
            refine aN rfl rfl (by constructor) ?_
            refine sE ?_
            show AW _ (.cond _ _ _) _ _ _
            refine cC' rfl (fun h61 => ?_) (fun h61 => ?_)
            ·have hlt : j < (leftM P n o).length := by have := of_decide_eq_true h61; omega
             show AWl _ _ _ _ _
             refine aIxE regE_len (0, 0) (l := (leftM P n o)) (st.rowAcc 1 rfl (by decide) (by exact flat_len' regE_len _)) rfl rfl (by omega) fun b185 o185 g185 => ?_
             refine aLdAG rfl g185 ?_
             refine aNewP st rfl rfl (by repeat constructor) fun b22 H62 st => ?_
             refine aSt st 0 rfl rfl rfl rfl (by first | rfl | simp [cellsOf, *]) (by first | decide | (simp [*]; done) | (simp [k8]; done)) (by repeat constructor) fun H63 st => ?_
             refine sE ?_
             show AWl _ _ _ _ _
             refine aN rfl rfl (by constructor) ?_
             refine aLd st 0 rfl rfl rfl (by constructor) ?_
             iterate 2 refine aN rfl rfl (by constructor) ?_
             refine sE ?_
             show AW _ (.cond _ _ _) _ _ _
             refine cC' rfl (fun h64 => ?_) (fun h64 => ?_)
             ·have hp : (fun r : Int × Int => r.1 != n) ((leftM P n o).getD j (0, 0)) = true := h64
              have ho : ((goneE P n o) ++ (((leftM P n o).take (j + 1)).filter (fun r : Int × Int => r.1 != n)).map (fun r : Int × Int => (r.1, (10756 : Int)))) = ((goneE P n o) ++ (((leftM P n o).take j).filter (fun r : Int × Int => r.1 != n)).map (fun r : Int × Int => (r.1, (10756 : Int)))) ++ [(fun r : Int × Int => (r.1, (10756 : Int))) ((leftM P n o).getD j (0, 0))] := by first | (rw [filt_t (d := (0, 0)) hlt hp]; done) | (rw [filt_t (d := (0, 0)) hlt hp]; simp)
              have hol : (((goneE P n o) ++ (((leftM P n o).take j).filter (fun r : Int × Int => r.1 != n)).map (fun r : Int × Int => (r.1, (10756 : Int))))).length ≤ (leftM P n o).length + ((goneE P n o)).length := by have h1 : (((leftM P n o).take j).filter (fun r : Int × Int => r.1 != n)).length ≤ (leftM P n o).length := Nat.le_trans (List.length_filter_le _ _) (by rw [List.length_take]; omega); first | omega | (simp only [List.length_append, List.length_map]; omega)
              show AWl _ _ _ _ _
              refine aMovA rfl ?_
              refine aN rfl rfl (by constructor) ?_
              refine aLd st 0 rfl rfl rfl (by constructor) ?_
              refine aBld rfl (by repeat constructor) ?_
              refine aLit st rfl (by repeat constructor) fun b195 H65 st => ?_
              refine aApp st 2 (ob := og) rfl rfl rfl (by decide) (by exact flat_len' evE_len _) (st.rowAll 0 rfl (by first | rfl | (simp [beB_len, *]; done) | (simp [beB_len, *]; omega))).src (by first | rfl | simp) (by omega) (by omega) fun b196 H66 hp196 st => ?_
              have st := st.recell 2 rfl (cs' := ((goneE P n o) ++ (((leftM P n o).take (j + 1)).filter (fun r : Int × Int => r.1 != n)).map (fun r : Int × Int => (r.1, (10756 : Int)))).flatMap evE) (flat_snoc ho rfl)
              refine aMovA rfl ?_
              refine sE ?_
              show AWl _ _ _ _ _
              iterate 2 refine aN rfl rfl (by constructor) ?_
              refine sE ?_
              exact ⟨_, by omega, j + 1, b196, rfl, by omega, congrArg (Value.int .i64) (wi _ (by omega)), congrArg (fun n => accV _ n 2) (len_snoc ho), (st.sel [2, 3, 4] (by decide))⟩
             ·have hp : (fun r : Int × Int => r.1 != n) ((leftM P n o).getD j (0, 0)) = false := h64
              have ho : ((goneE P n o) ++ (((leftM P n o).take (j + 1)).filter (fun r : Int × Int => r.1 != n)).map (fun r : Int × Int => (r.1, (10756 : Int)))) = ((goneE P n o) ++ (((leftM P n o).take j).filter (fun r : Int × Int => r.1 != n)).map (fun r : Int × Int => (r.1, (10756 : Int)))) := by rw [filt_f (d := (0, 0)) hlt hp]
              have hol : (((goneE P n o) ++ (((leftM P n o).take j).filter (fun r : Int × Int => r.1 != n)).map (fun r : Int × Int => (r.1, (10756 : Int))))).length ≤ (leftM P n o).length + ((goneE P n o)).length := by have h1 : (((leftM P n o).take j).filter (fun r : Int × Int => r.1 != n)).length ≤ (leftM P n o).length := Nat.le_trans (List.length_filter_le _ _) (by rw [List.length_take]; omega); first | omega | (simp only [List.length_append, List.length_map]; omega)
              show AWl _ _ _ _ _
              iterate 2 refine aN rfl rfl (by constructor) ?_
              refine sE ?_
              have st := st.recell 1 rfl (cs' := ((goneE P n o) ++ (((leftM P n o).take (j + 1)).filter (fun r : Int × Int => r.1 != n)).map (fun r : Int × Int => (r.1, (10756 : Int)))).flatMap evE) (by rw [ho])
              exact ⟨_, by omega, j + 1, og, rfl, by omega, congrArg (Value.int .i64) (wi _ (by omega)), congrArg (fun n => accV _ n 2) (congrArg List.length ho.symm), (st.sel [1, 2, 3] (by decide))⟩
            ·have hge : j = (leftM P n o).length := by have := of_decide_eq_false h61; omega
             subst hge
             try rw [List.take_length] at st
             try rw [List.take_length]
             have hTK : (heldB P o || pallB P o) = true := by simp_all
             have hK : (if (heldB P o || pallB P o) = true then o.ty else P.kind) = o.ty := if_pos hTK
             have hD : (if (heldB P o || pallB P o) = true then n else P.holder) = n := if_pos hTK
             have hR : relE P n o = (((leftM P n o)).filter (fun r : Int × Int => r.1 != n)).map (fun r : Int × Int => (r.1, (10756 : Int))) := if_pos ⟨hTK, hrl⟩
             have st2 := st.sel [0, 1, 2] (by decide)
             exact ⟨og, (by rw [hR] <;> rfl), by rw [hR, hK, hD]; exact st2⟩
           ·have hTK : (heldB P o || pallB P o) = true := by simp_all
            have hK : (if (heldB P o || pallB P o) = true then o.ty else P.kind) = o.ty := if_pos hTK
            have hD : (if (heldB P o || pallB P o) = true then n else P.holder) = n := if_pos hTK
            have hrl : ¬ (P.kind ≥ 5 ∧ P.kind ≠ o.ty) := fun hc => by have h1 := h60; exact hc.2 (by simpa using h1)
            have hR : relE P n o = [] := if_neg (fun hc => hrl hc.2)
            have st2 := st.sel [1, 0, 4] (by decide)
            exact ⟨oe, (by rw [hR, List.append_nil] <;> rfl), by rw [hR, hK, hD, List.append_nil]; exact st2⟩
          ·refine gF rfl (by decide) ?_
           refine gF rfl (by decide) ?_
           refine gF rfl (by decide) ?_
           refine gF rfl (by decide) ?_
           refine aN rfl rfl (by constructor) ?_
           refine sE ?_
           show AW _ (.cond _ _ _) _ _ _
           refine cF' rfl ?_
           have hTK : (heldB P o || pallB P o) = true := by simp_all
           have hK : (if (heldB P o || pallB P o) = true then o.ty else P.kind) = o.ty := if_pos hTK
           have hD : (if (heldB P o || pallB P o) = true then n else P.holder) = n := if_pos hTK
           have hrl : ¬ (P.kind ≥ 5 ∧ P.kind ≠ o.ty) := fun hc => of_decide_eq_false h59 hc.1
           have hR : relE P n o = [] := if_neg (fun hc => hrl hc.2)
           have st2 := st.sel [1, 0, 4] (by decide)
           exact ⟨oe, (by rw [hR, List.append_nil] <;> rfl), by rw [hR, hK, hD, List.append_nil]; exact st2⟩
        ·obtain ⟨oe, ht13, st⟩ := hI
         obtain ⟨u, rfl⟩ : ∃ u, t1 = (upd (mix [13, 22, 160, 161, 162, 163, 164, 165, 166, 167, 168, 169, 170, 171, 172, 173, 174, 175, 176, 177, 178, 179, 180, 181, 182, 183, 184, 185, 186, 187, 188, 189, 190, 191, 192, 193, 194, 195, 196, 197] _ u) (some 13) _) := ⟨t1, by rw [← hk, upd_self ht13]⟩
         clear hk ht13
         show AWl _ _ _ _ _
         iterate 3 refine aN rfl rfl (by constructor) ?_
         refine aLd st 2 rfl rfl rfl (by constructor) ?_
         iterate 3 refine aN rfl rfl (by constructor) ?_
         refine aSt st 2 rfl rfl rfl rfl (by first | rfl | simp [cellsOf, *]) (by first | decide | (simp [*]; done) | (simp [k8]; done)) (by repeat constructor) fun H67 st => ?_
         refine sE ?_
         show AWl _ _ _ _ _
         refine aMovA rfl ?_
         iterate 2 refine aN rfl rfl (by constructor) ?_
         refine aMovA rfl ?_
         refine sE ?_
         refine ⟨_, out3 (r_tmp rfl (by constructor)) (r_tmp rfl (by constructor)) (r_acc rfl) ⟨rfl, rfl, notTup_acc⟩, ?_⟩
         have hM : preemptM P n o = ⟨0, 0, (goneE P n o) ++ (relE P n o), { P with regs := (leftM P n o), kind := (if (heldB P o || pallB P o) = true then o.ty else P.kind), holder := (if (heldB P o || pallB P o) = true then n else P.holder), gen := inc32 P.gen }⟩ := by unfold preemptM; rw [if_neg hc1, if_neg hc2, if_neg hc3]
         rw [hM]
         exact ⟨oc, oe, rfl, .inr (st.sel [2, 1, 0] (by decide))⟩
      ·have h43n : (P.regs.any (fun r : Int × Int => r.2 == o.act)) = true := Eq.mp (Bool.not_eq_false' _) h43
       refine gF rfl (by decide) ?_
       refine gF rfl (by decide) ?_
       refine aN rfl rfl (by constructor) ?_
       refine sE ?_
       show AW _ (.cond _ _ _) _ _ _
       refine cF' rfl ?_
       show AWl _ _ _ _ _
       have hc3 : ¬ ((P.regs.any (fun r : Int × Int => r.2 == o.act)) = false ∧ pallB P o = false) := fun hc => by rw [h43n] at hc; exact absurd hc.1 (by decide)
       iterate 3 refine aN rfl rfl (by constructor) ?_
       refine aLd st 4 rfl rfl rfl (by constructor) ?_
       refine aN rfl rfl (by constructor) ?_
       refine sE ?_
       show AWl _ _ _ _ _
       refine aN rfl rfl (by constructor) ?_
       refine aMovA rfl ?_
       iterate 2 refine aN rfl rfl (by constructor) ?_
       refine aStS (st.rowAcc 0 rfl (by decide) (by exact flat_len' regE_len _)) st 4 rfl rfl rfl (by first | decide | simp) fun H68 st => ?_
       refine sE ?_
       refine AW_cutK (b := .seq (.list (⟨some 198, _, _⟩ :: _)) _) (fun t1 H1 => ∃ (oe : Option Nat), t1 13 = accV oe ((goneE P n o) ++ (relE P n o)).length 2 ∧ Stt [b] H H1 [⟨oe, true, ⟨true, 43, ((goneE P n o) ++ (relE P n o)).flatMap evE⟩⟩, ⟨oc, true, ⟨true, 30, ((leftM P n o)).flatMap regE⟩⟩, ⟨some b, true, ⟨true, 79, [accV oc (leftM P n o).length 2, .int .u32 P.gen, .int .u8 (if (heldB P o || pallB P o) = true then o.ty else P.kind), .int .i64 (if (heldB P o || pallB P o) = true then n else P.holder), .bool P.aptpl]⟩⟩]) [13, 22, 160, 161, 162, 163, 164, 165, 166, 167, 168, 169, 170, 171, 172, 173, 174, 175, 176, 177, 178, 179, 180, 181, 182, 183, 184, 185, 186, 187, 188, 189, 190, 191, 192, 193, 194, 195, 196, 197] (by decide) ?_ fun t1 H1 hk hI => ?_
       ·show AWl _ _ _ _ _
        iterate 2 refine aN rfl rfl (by constructor) ?_
        refine gCase 161 rfl (fun h69 => ?_) (fun h69 => ?_)
        ·refine gF rfl (by decide) ?_
         refine aN rfl rfl (by constructor) ?_
         refine sE ?_
         show AW _ (.cond _ _ _) _ _ _
         refine cT rfl ?_
         show AWl _ _ _ _ _
         have hlm : (leftM P n o).length ≤ P.regs.length := List.length_filter_le _ _
         have hgm : (goneE P n o).length ≤ P.regs.length := by unfold goneE; rw [List.length_map]; exact List.length_filter_le _ _
         iterate 3 refine aN rfl rfl (by constructor) ?_
         refine aLd st 2 rfl rfl rfl (by constructor) ?_
         iterate 3 refine aN rfl rfl (by constructor) ?_
         refine aSt st 4 rfl rfl rfl rfl (by first | rfl | simp [cellsOf, *]) (by first | decide | (simp [*]; done) | (simp [k8]; done)) (by repeat constructor) fun H70 st => ?_
         iterate 2 refine aN rfl rfl (by constructor) ?_
         refine aSt st 4 rfl rfl rfl rfl (by first | rfl | simp [cellsOf, *]) (by first | decide | (simp [*]; done) | (simp [k8]; done)) (by repeat constructor) fun H71 st => ?_
         refine sE ?_
         show AWl _ _ _ _ _
         iterate 3 refine aN rfl rfl (by constructor) ?_
         refine gCase 175 rfl (fun h72 => ?_) (fun h72 => ?_)
         ·refine gT rfl ?_
          refine aN rfl rfl (by constructor) ?_
          refine gT rfl ?_
          refine aN rfl rfl (by constructor) ?_
          refine gT rfl ?_
          refine aLd st 2 rfl rfl rfl (by constructor) ?_
          refine gT rfl ?_
          iterate 2 refine aN rfl rfl (by constructor) ?_
          refine sE ?_
          show AW _ (.cond _ _ _) _ _ _
          refine cC' rfl (fun h73 => ?_) (fun h73 => ?_)
          ·have hrl : P.kind ≥ 5 ∧ P.kind ≠ o.ty := by simp_all
           show AWl _ _ _ _ _
           refine aMovA rfl ?_
           refine aLen (st.rowAcc 0 rfl (by decide) (by exact flat_len' regE_len _)) rfl ?_
           refine aN rfl rfl (by constructor) ?_
           refine sE ?_
           show AW _ (.loop _) _ _ _
           refine AW_loopN (fun m t1 H1 => ∃ (j : Nat) (og : Option Nat), m = (leftM P n o).length - j ∧ (j ≤ (leftM P n o).length) ∧ t1 183 = .int .i64 (j : Int) ∧ t1 13 = accV og ((goneE P n o) ++ (((leftM P n o).take j).filter (fun r : Int × Int => r.1 != n)).map (fun r : Int × Int => (r.1, (10756 : Int)))).length 2 ∧ Stt [b] H H1 [⟨og, true, ⟨true, 43, (((goneE P n o) ++ (((leftM P n o).take j).filter (fun r : Int × Int => r.1 != n)).map (fun r : Int × Int => (r.1, (10756 : Int))))).flatMap evE⟩⟩, ⟨oc, true, ⟨true, 30, ((leftM P n o)).flatMap regE⟩⟩, ⟨some b, true, ⟨true, 79, [accV oc (leftM P n o).length 2, .int .u32 P.gen, .int .u8 o.ty, .int .i64 n, .bool P.aptpl]⟩⟩]) ((leftM P n o).length - 0) ⟨0, oe, rfl, by omega, rfl, congrArg (fun n => accV _ n 2) (by simp), (by have st2 := (st.sel [1, 0, 4] (by decide)); simpa using st2)⟩ [13, 22, 183, 184, 185, 186, 187, 188, 189, 190, 191, 192, 193, 194, 195, 196, 197] (by decide) ?_
           rintro m t1 H1 hk hI
           obtain ⟨j, og, rfl, hj, ht183, ht13, st⟩ := hI
           obtain ⟨u, rfl⟩ : ∃ u, t1 = (upd (upd (mix [13, 22, 183, 184, 185, 186, 187, 188, 189, 190, 191, 192, 193, 194, 195, 196, 197] _ u) (some 183) _) (some 13) _) := ⟨t1, by rw [← hk, upd_self ht183, upd_self ht13]⟩
           clear hk ht183 ht13
           show AWl _ _ _ _ _
           refine aN rfl rfl (by constructor) ?_
           refine sE ?_
           show AW _ (.cond _ _ _) _ _ _
           refine cC' rfl (fun h74 => ?_) (fun h74 => ?_)
           ·have hlt : j < (leftM P n o).length := by have := of_decide_eq_true h74; omega
            show AWl _ _ _ _ _
            refine aIxE regE_len (0, 0) (l := (leftM P n o)) (st.rowAcc 1 rfl (by decide) (by exact flat_len' regE_len _)) rfl rfl (by omega) fun b185 o185 g185 => ?_
            refine aLdAG rfl g185 ?_
            refine aNewP st rfl rfl (by repeat constructor) fun b22 H75 st => ?_
            refine aSt st 0 rfl rfl rfl rfl (by first | rfl | simp [cellsOf, *]) (by first | decide | (simp [*]; done) | (simp [k8]; done)) (by repeat constructor) fun H76 st => ?_
            refine sE ?_
            show AWl _ _ _ _ _
            refine aN rfl rfl (by constructor) ?_
            refine aLd st 0 rfl rfl rfl (by constructor) ?_
            iterate 2 refine aN rfl rfl (by constructor) ?_
            refine sE ?_
            show AW _ (.cond _ _ _) _ _ _
            refine cC' rfl (fun h77 => ?_) (fun h77 => ?_)
            ·have hp : (fun r : Int × Int => r.1 != n) ((leftM P n o).getD j (0, 0)) = true := h77
             have ho : ((goneE P n o) ++ (((leftM P n o).take (j + 1)).filter (fun r : Int × Int => r.1 != n)).map (fun r : Int × Int => (r.1, (10756 : Int)))) = ((goneE P n o) ++ (((leftM P n o).take j).filter (fun r : Int × Int => r.1 != n)).map (fun r : Int × Int => (r.1, (10756 : Int)))) ++ [(fun r : Int × Int => (r.1, (10756 : Int))) ((leftM P n o).getD j (0, 0))] := by first | (rw [filt_t (d := (0, 0)) hlt hp]; done) | (rw [filt_t (d := (0, 0)) hlt hp]; simp)
             have hol : (((goneE P n o) ++ (((leftM P n o).take j).filter (fun r : Int × Int => r.1 != n)).map (fun r : Int × Int => (r.1, (10756 : Int))))).length ≤ (leftM P n o).length + ((goneE P n o)).length := by have h1 : (((leftM P n o).take j).filter (fun r : Int × Int => r.1 != n)).length ≤ (leftM P n o).length := Nat.le_trans (List.length_filter_le _ _) (by rw [List.length_take]; omega); first | omega | (simp only [List.length_append, List.length_map]; omega)
             show AWl _ _ _ _ _
             refine aMovA rfl ?_
             refine aN rfl rfl (by constructor) ?_
             refine aLd st 0 rfl rfl rfl (by constructor) ?_
             refine aBld rfl (by repeat constructor) ?_
             refine aLit st rfl (by repeat constructor) fun b195 H78 st => ?_
             refine aApp st 2 (ob := og) rfl rfl rfl (by decide) (by exact flat_len' evE_len _) (st.rowAll 0 rfl (by first | rfl | (simp [beB_len, *]; done) | (simp [beB_len, *]; omega))).src (by first | rfl | simp) (by omega) (by omega) fun b196 H79 hp196 st => ?_
             have st := st.recell 2 rfl (cs' := ((goneE P n o) ++ (((leftM P n o).take (j + 1)).filter (fun r : Int × Int => r.1 != n)).map (fun r : Int × Int => (r.1, (10756 : Int)))).flatMap evE) (flat_snoc ho rfl)
             refine aMovA rfl ?_
             refine sE ?_
             show AWl _ _ _ _ _
             iterate 2 refine aN rfl rfl (by constructor) ?_
             refine sE ?_
             exact ⟨_, by omega, j + 1, b196, rfl, by omega, congrArg (Value.int .i64) (wi _ (by omega)), congrArg (fun n => accV _ n 2) (len_snoc ho), (st.sel [2, 3, 4] (by decide))⟩
            ·have hp : (fun r : Int × Int => r.1 != n) ((leftM P n o).getD j (0, 0)) = false := h77
             have ho : ((goneE P n o) ++ (((leftM P n o).take (j + 1)).filter (fun r : Int × Int => r.1 != n)).map (fun r : Int × Int => (r.1, (10756 : Int)))) = ((goneE P n o) ++ (((leftM P n o).take j).filter (fun r : Int × Int => r.1 != n)).map (fun r : Int × Int => (r.1, (10756 : Int)))) := by rw [filt_f (d := (0, 0)) hlt hp]
             have hol : (((goneE P n o) ++ (((leftM P n o).take j).filter (fun r : Int × Int => r.1 != n)).map (fun r : Int × Int => (r.1, (10756 : Int))))).length ≤ (leftM P n o).length + ((goneE P n o)).length := by have h1 : (((leftM P n o).take j).filter (fun r : Int × Int => r.1 != n)).length ≤ (leftM P n o).length := Nat.le_trans (List.length_filter_le _ _) (by rw [List.length_take]; omega); first | omega | (simp only [List.length_append, List.length_map]; omega)
             show AWl _ _ _ _ _
             iterate 2 refine aN rfl rfl (by constructor) ?_
             refine sE ?_
             have st := st.recell 1 rfl (cs' := ((goneE P n o) ++ (((leftM P n o).take (j + 1)).filter (fun r : Int × Int => r.1 != n)).map (fun r : Int × Int => (r.1, (10756 : Int)))).flatMap evE) (by rw [ho])
             exact ⟨_, by omega, j + 1, og, rfl, by omega, congrArg (Value.int .i64) (wi _ (by omega)), congrArg (fun n => accV _ n 2) (congrArg List.length ho.symm), (st.sel [1, 2, 3] (by decide))⟩
           ·have hge : j = (leftM P n o).length := by have := of_decide_eq_false h74; omega
            subst hge
            try rw [List.take_length] at st
            try rw [List.take_length]
            have hTK : (heldB P o || pallB P o) = true := by simp_all
            have hK : (if (heldB P o || pallB P o) = true then o.ty else P.kind) = o.ty := if_pos hTK
            have hD : (if (heldB P o || pallB P o) = true then n else P.holder) = n := if_pos hTK
            have hR : relE P n o = (((leftM P n o)).filter (fun r : Int × Int => r.1 != n)).map (fun r : Int × Int => (r.1, (10756 : Int))) := if_pos ⟨hTK, hrl⟩
            have st2 := st.sel [0, 1, 2] (by decide)
            exact ⟨og, (by rw [hR] <;> rfl), by rw [hR, hK, hD]; exact st2⟩
          ·have hTK : (heldB P o || pallB P o) = true := by simp_all
           have hK : (if (heldB P o || pallB P o) = true then o.ty else P.kind) = o.ty := if_pos hTK
           have hD : (if (heldB P o || pallB P o) = true then n else P.holder) = n := if_pos hTK
           have hrl : ¬ (P.kind ≥ 5 ∧ P.kind ≠ o.ty) := fun hc => by have h1 := h73; exact hc.2 (by simpa using h1)
           have hR : relE P n o = [] := if_neg (fun hc => hrl hc.2)
           have st2 := st.sel [1, 0, 4] (by decide)
           exact ⟨oe, (by rw [hR, List.append_nil] <;> rfl), by rw [hR, hK, hD, List.append_nil]; exact st2⟩
         ·refine gF rfl (by decide) ?_
          refine gF rfl (by decide) ?_
          refine gF rfl (by decide) ?_
          refine gF rfl (by decide) ?_
          refine aN rfl rfl (by constructor) ?_
          refine sE ?_
          show AW _ (.cond _ _ _) _ _ _
          refine cF' rfl ?_
          have hTK : (heldB P o || pallB P o) = true := by simp_all
          have hK : (if (heldB P o || pallB P o) = true then o.ty else P.kind) = o.ty := if_pos hTK
          have hD : (if (heldB P o || pallB P o) = true then n else P.holder) = n := if_pos hTK
          have hrl : ¬ (P.kind ≥ 5 ∧ P.kind ≠ o.ty) := fun hc => of_decide_eq_false h72 hc.1
          have hR : relE P n o = [] := if_neg (fun hc => hrl hc.2)
          have st2 := st.sel [1, 0, 4] (by decide)
          exact ⟨oe, (by rw [hR, List.append_nil] <;> rfl), by rw [hR, hK, hD, List.append_nil]; exact st2⟩
        ·refine gT rfl ?_
         iterate 2 refine aN rfl rfl (by constructor) ?_
         refine sE ?_
         show AW _ (.cond _ _ _) _ _ _
         refine cC' rfl (fun h80 => ?_) (fun h80 => ?_)
         ·show AWl _ _ _ _ _
          have hlm : (leftM P n o).length ≤ P.regs.length := List.length_filter_le _ _
          have hgm : (goneE P n o).length ≤ P.regs.length := by unfold goneE; rw [List.length_map]; exact List.length_filter_le _ _
          iterate 3 refine aN rfl rfl (by constructor) ?_
          refine aLd st 2 rfl rfl rfl (by constructor) ?_
          iterate 3 refine aN rfl rfl (by constructor) ?_
          refine aSt st 4 rfl rfl rfl rfl (by first | rfl | simp [cellsOf, *]) (by first | decide | (simp [*]; done) | (simp [k8]; done)) (by repeat constructor) fun H81 st => ?_
          iterate 2 refine aN rfl rfl (by constructor) ?_
          refine aSt st 4 rfl rfl rfl rfl (by first | rfl | simp [cellsOf, *]) (by first | decide | (simp [*]; done) | (simp [k8]; done)) (by repeat constructor) fun H82 st => ?_
          refine sE ?_
          show AWl _ _ _ _ _
          iterate 3 refine aN rfl rfl (by constructor) ?_
          refine gCase 175 rfl (fun h83 => ?_) (fun h83 => ?_)
          ·refine gT rfl ?_
           refine aN rfl rfl (by constructor) ?_
           refine gT rfl ?_
           refine aN rfl rfl (by constructor) ?_
           refine gT rfl ?_
           refine aLd st 2 rfl rfl rfl (by constructor) ?_
           refine gT rfl ?_
           iterate 2 refine aN rfl rfl (by constructor) ?_
           refine sE ?_
           show AW _ (.cond _ _ _) _ _ _
           refine cC' rfl (fun h84 => ?_) (fun h84 => ?_)
           ·have hrl : P.kind ≥ 5 ∧ P.kind ≠ o.ty := by simp_all
            show AWl _ _ _ _ _
            refine aMovA rfl ?_
            refine aLen (st.rowAcc 0 rfl (by decide) (by exact flat_len' regE_len _)) rfl ?_
            refine aN rfl rfl (by constructor) ?_
            refine sE ?_
            show AW _ (.loop _) _ _ _
            refine AW_loopN (fun m t1 H1 => ∃ (j : Nat) (og : Option Nat), m = (leftM P n o).length - j ∧ (j ≤ (leftM P n o).length) ∧ t1 183 = .int .i64 (j : Int) ∧ t1 13 = accV og ((goneE P n o) ++ (((leftM P n o).take j).filter (fun r : Int × Int => r.1 != n)).map (fun r : Int × Int => (r.1, (10756 : Int)))).length 2 ∧ Stt [b] H H1 [⟨og, true, ⟨true, 43, (((goneE P n o) ++ (((leftM P n o).take j).filter (fun r : Int × Int => r.1 != n)).map (fun r : Int × Int => (r.1, (10756 : Int))))).flatMap evE⟩⟩, ⟨oc, true, ⟨true, 30, ((leftM P n o)).flatMap regE⟩⟩, ⟨some b, true, ⟨true, 79, [accV oc (leftM P n o).length 2, .int .u32 P.gen, .int .u8 o.ty, .int .i64 n, .bool P.aptpl]⟩⟩]) ((leftM P n o).length - 0) ⟨0, oe, rfl, by omega, rfl, congrArg (fun n => accV _ n 2) (by simp), (by have st2 := (st.sel [1, 0, 4] (by decide)); simpa using st2)⟩ [13, 22, 183, 184, 185, 186, 187, 188, 189, 190, 191, 192, 193, 194, 195, 196, 197] (by decide) ?_
            rintro m t1 H1 hk hI
            obtain ⟨j, og, rfl, hj, ht183, ht13, st⟩ := hI
            obtain ⟨u, rfl⟩ : ∃ u, t1 = (upd (upd (mix [13, 22, 183, 184, 185, 186, 187, 188, 189, 190, 191, 192, 193, 194, 195, 196, 197] _ u) (some 183) _) (some 13) _) := ⟨t1, by rw [← hk, upd_self ht183, upd_self ht13]⟩
            clear hk ht183 ht13
            show AWl _ _ _ _ _
            refine aN rfl rfl (by constructor) ?_
            refine sE ?_
            show AW _ (.cond _ _ _) _ _ _
            refine cC' rfl (fun h85 => ?_) (fun h85 => ?_)
            ·have hlt : j < (leftM P n o).length := by have := of_decide_eq_true h85; omega
             show AWl _ _ _ _ _
             refine aIxE regE_len (0, 0) (l := (leftM P n o)) (st.rowAcc 1 rfl (by decide) (by exact flat_len' regE_len _)) rfl rfl (by omega) fun b185 o185 g185 => ?_
             refine aLdAG rfl g185 ?_
             refine aNewP st rfl rfl (by repeat constructor) fun b22 H86 st => ?_
             refine aSt st 0 rfl rfl rfl rfl (by first | rfl | simp [cellsOf, *]) (by first | decide | (simp [*]; done) | (simp [k8]; done)) (by repeat constructor) fun H87 st => ?_
             refine sE ?_
             show AWl _ _ _ _ _
             refine aN rfl rfl (by constructor) ?_
             refine aLd st 0 rfl rfl rfl (by constructor) ?_
             iterate 2 refine aN rfl rfl (by constructor) ?_
             refine sE ?_
             show AW _ (.cond _ _ _) _ _ _
             refine cC' rfl (fun h88 => ?_) (fun h88 => ?_)
             ·have hp : (fun r : Int × Int => r.1 != n) ((leftM P n o).getD j (0, 0)) = true := h88
              have ho : ((goneE P n o) ++ (((leftM P n o).take (j + 1)).filter (fun r : Int × Int => r.1 != n)).map (fun r : Int × Int => (r.1, (10756 : Int)))) = ((goneE P n o) ++ (((leftM P n o).take j).filter (fun r : Int × Int => r.1 != n)).map (fun r : Int × Int => (r.1, (10756 : Int)))) ++ [(fun r : Int × Int => (r.1, (10756 : Int))) ((leftM P n o).getD j (0, 0))] := by first | (rw [filt_t (d := (0, 0)) hlt hp]; done) | (rw [filt_t (d := (0, 0)) hlt hp]; simp)
              have hol : (((goneE P n o) ++ (((leftM P n o).take j).filter (fun r : Int × Int => r.1 != n)).map (fun r : Int × Int => (r.1, (10756 : Int))))).length ≤ (leftM P n o).length + ((goneE P n o)).length := by have h1 : (((leftM P n o).take j).filter (fun r : Int × Int => r.1 != n)).length ≤ (leftM P n o).length := Nat.le_trans (List.length_filter_le _ _) (by rw [List.length_take]; omega); first | omega | (simp only [List.length_append, List.length_map]; omega)
              show AWl _ _ _ _ _
              refine aMovA rfl ?_
              refine aN rfl rfl (by constructor) ?_
              refine aLd st 0 rfl rfl rfl (by constructor) ?_
              refine aBld rfl (by repeat constructor) ?_
              refine aLit st rfl (by repeat constructor) fun b195 H89 st => ?_
              refine aApp st 2 (ob := og) rfl rfl rfl (by decide) (by exact flat_len' evE_len _) (st.rowAll 0 rfl (by first | rfl | (simp [beB_len, *]; done) | (simp [beB_len, *]; omega))).src (by first | rfl | simp) (by omega) (by omega) fun b196 H90 hp196 st => ?_
              have st := st.recell 2 rfl (cs' := ((goneE P n o) ++ (((leftM P n o).take (j + 1)).filter (fun r : Int × Int => r.1 != n)).map (fun r : Int × Int => (r.1, (10756 : Int)))).flatMap evE) (flat_snoc ho rfl)
              refine aMovA rfl ?_
              refine sE ?_
              show AWl _ _ _ _ _
              iterate 2 refine aN rfl rfl (by constructor) ?_
              refine sE ?_
              exact ⟨_, by omega, j + 1, b196, rfl, by omega, congrArg (Value.int .i64) (wi _ (by omega)), congrArg (fun n => accV _ n 2) (len_snoc ho), (st.sel [2, 3, 4] (by decide))⟩
             ·have hp : (fun r : Int × Int => r.1 != n) ((leftM P n o).getD j (0, 0)) = false := h88
              have ho : ((goneE P n o) ++ (((leftM P n o).take (j + 1)).filter (fun r : Int × Int => r.1 != n)).map (fun r : Int × Int => (r.1, (10756 : Int)))) = ((goneE P n o) ++ (((leftM P n o).take j).filter (fun r : Int × Int => r.1 != n)).map (fun r : Int × Int => (r.1, (10756 : Int)))) := by rw [filt_f (d := (0, 0)) hlt hp]
              have hol : (((goneE P n o) ++ (((leftM P n o).take j).filter (fun r : Int × Int => r.1 != n)).map (fun r : Int × Int => (r.1, (10756 : Int))))).length ≤ (leftM P n o).length + ((goneE P n o)).length := by have h1 : (((leftM P n o).take j).filter (fun r : Int × Int => r.1 != n)).length ≤ (leftM P n o).length := Nat.le_trans (List.length_filter_le _ _) (by rw [List.length_take]; omega); first | omega | (simp only [List.length_append, List.length_map]; omega)
              show AWl _ _ _ _ _
              iterate 2 refine aN rfl rfl (by constructor) ?_
              refine sE ?_
              have st := st.recell 1 rfl (cs' := ((goneE P n o) ++ (((leftM P n o).take (j + 1)).filter (fun r : Int × Int => r.1 != n)).map (fun r : Int × Int => (r.1, (10756 : Int)))).flatMap evE) (by rw [ho])
              exact ⟨_, by omega, j + 1, og, rfl, by omega, congrArg (Value.int .i64) (wi _ (by omega)), congrArg (fun n => accV _ n 2) (congrArg List.length ho.symm), (st.sel [1, 2, 3] (by decide))⟩
            ·have hge : j = (leftM P n o).length := by have := of_decide_eq_false h85; omega
             subst hge
             try rw [List.take_length] at st
             try rw [List.take_length]
             have hTK : (heldB P o || pallB P o) = true := by simp_all
             have hK : (if (heldB P o || pallB P o) = true then o.ty else P.kind) = o.ty := if_pos hTK
             have hD : (if (heldB P o || pallB P o) = true then n else P.holder) = n := if_pos hTK
             have hR : relE P n o = (((leftM P n o)).filter (fun r : Int × Int => r.1 != n)).map (fun r : Int × Int => (r.1, (10756 : Int))) := if_pos ⟨hTK, hrl⟩
             have st2 := st.sel [0, 1, 2] (by decide)
             exact ⟨og, (by rw [hR] <;> rfl), by rw [hR, hK, hD]; exact st2⟩
           ·have hTK : (heldB P o || pallB P o) = true := by simp_all
            have hK : (if (heldB P o || pallB P o) = true then o.ty else P.kind) = o.ty := if_pos hTK
            have hD : (if (heldB P o || pallB P o) = true then n else P.holder) = n := if_pos hTK
            have hrl : ¬ (P.kind ≥ 5 ∧ P.kind ≠ o.ty) := fun hc => by have h1 := h84; exact hc.2 (by simpa using h1)
            have hR : relE P n o = [] := if_neg (fun hc => hrl hc.2)
            have st2 := st.sel [1, 0, 4] (by decide)
            exact ⟨oe, (by rw [hR, List.append_nil] <;> rfl), by rw [hR, hK, hD, List.append_nil]; exact st2⟩
          ·refine gF rfl (by decide) ?_
           refine gF rfl (by decide) ?_
           refine gF rfl (by decide) ?_
           refine gF rfl (by decide) ?_
           refine aN rfl rfl (by constructor) ?_
           refine sE ?_
           show AW _ (.cond _ _ _) _ _ _
           refine cF' rfl ?_
           have hTK : (heldB P o || pallB P o) = true := by simp_all
           have hK : (if (heldB P o || pallB P o) = true then o.ty else P.kind) = o.ty := if_pos hTK
           have hD : (if (heldB P o || pallB P o) = true then n else P.holder) = n := if_pos hTK
           have hrl : ¬ (P.kind ≥ 5 ∧ P.kind ≠ o.ty) := fun hc => of_decide_eq_false h83 hc.1
           have hR : relE P n o = [] := if_neg (fun hc => hrl hc.2)
           have st2 := st.sel [1, 0, 4] (by decide)
           exact ⟨oe, (by rw [hR, List.append_nil] <;> rfl), by rw [hR, hK, hD, List.append_nil]; exact st2⟩
         ·have hTK : (heldB P o || pallB P o) = false := by simp_all
          have hK : (if (heldB P o || pallB P o) = true then o.ty else P.kind) = P.kind := if_neg (by rw [hTK]; decide)
          have hD : (if (heldB P o || pallB P o) = true then n else P.holder) = P.holder := if_neg (by rw [hTK]; decide)
          have hR : relE P n o = [] := if_neg (fun hc => by rw [hTK] at hc; exact absurd hc.1 (by decide))
          have st2 := st.sel [1, 0, 4] (by decide)
          exact ⟨oe, (by rw [hR, List.append_nil] <;> rfl), by rw [hR, hK, hD, List.append_nil]; exact st2⟩
       ·obtain ⟨oe, ht13, st⟩ := hI
        obtain ⟨u, rfl⟩ : ∃ u, t1 = (upd (mix [13, 22, 160, 161, 162, 163, 164, 165, 166, 167, 168, 169, 170, 171, 172, 173, 174, 175, 176, 177, 178, 179, 180, 181, 182, 183, 184, 185, 186, 187, 188, 189, 190, 191, 192, 193, 194, 195, 196, 197] _ u) (some 13) _) := ⟨t1, by rw [← hk, upd_self ht13]⟩
        clear hk ht13
        show AWl _ _ _ _ _
        iterate 3 refine aN rfl rfl (by constructor) ?_
        refine aLd st 2 rfl rfl rfl (by constructor) ?_
        iterate 3 refine aN rfl rfl (by constructor) ?_
        refine aSt st 2 rfl rfl rfl rfl (by first | rfl | simp [cellsOf, *]) (by first | decide | (simp [*]; done) | (simp [k8]; done)) (by repeat constructor) fun H91 st => ?_
        refine sE ?_
        show AWl _ _ _ _ _
        refine aMovA rfl ?_
        iterate 2 refine aN rfl rfl (by constructor) ?_
        refine aMovA rfl ?_
        refine sE ?_
        refine ⟨_, out3 (r_tmp rfl (by constructor)) (r_tmp rfl (by constructor)) (r_acc rfl) ⟨rfl, rfl, notTup_acc⟩, ?_⟩
        have hM : preemptM P n o = ⟨0, 0, (goneE P n o) ++ (relE P n o), { P with regs := (leftM P n o), kind := (if (heldB P o || pallB P o) = true then o.ty else P.kind), holder := (if (heldB P o || pallB P o) = true then n else P.holder), gen := inc32 P.gen }⟩ := by unfold preemptM; rw [if_neg hc1, if_neg hc2, if_neg hc3]
        rw [hM]
        exact ⟨oc, oe, rfl, .inr (st.sel [2, 1, 0] (by decide))⟩
end Go.Proofs.Ytihkghfmihdicaa.Abs
