/- Reservations: a key is set. -/
import Derived.Test.YtihkghfmihdicaaT1
set_option linter.unusedVariables false
set_option linter.unusedSimpArgs false
set_option maxRecDepth 100000
namespace Go.Proofs.Ytihkghfmihdicaa.Abs
open Go Go.RowKit
theorem set_call {H : Hp} {b : Nat} {ob : Option Nat} {P : PT} {n k : Int} (hk : H.m b = some ⟨true, 79, [accV ob P.regs.length 2, .int .u32 P.gen, .int .u8 P.kind, .int .i64 P.holder, .bool P.aptpl]⟩) (hr : ∀ c, ob = some c → H.m c = some ⟨true, 30, (P.regs).flatMap regE⟩) (hr0 : ob = none → P.regs.flatMap regE = []) (hn : P.regs.length ≤ 1000) (hob : ob ≠ some b) :
  ACalls Try.prog 48 [.pointer (some ⟨b, 0, none⟩), .int .i64 n, .int .u64 k] H (fun v H' => ∃ ob', Stt [b] H H' [⟨some b, true, ⟨true, 79, [accV ob' ({ P with regs := setM P.regs n k } : PT).regs.length 2, .int .u32 ({ P with regs := setM P.regs n k } : PT).gen, .int .u8 ({ P with regs := setM P.regs n k } : PT).kind, .int .i64 ({ P with regs := setM P.regs n k } : PT).holder, .bool ({ P with regs := setM P.regs n k } : PT).aptpl]⟩⟩, ⟨ob', true, ⟨true, 30, (setM P.regs n k).flatMap regE⟩⟩]) := by
 refine acallsW Try.func48 f48_ok (Nat.le_of_ble_eq_true rfl) fun hw => ?_
 have st : Stt [b] H H [] := Stt.start hw
 replace st := st.mine hk rfl (by simp) (by simp)
 replace st := st.roA hr hr0 (fun c hc p hp => by rw [List.mem_singleton.1 hp]; intro e; exact hob (hc.trans e.symm))
 unfold f48c
 show AWl _ _ _ _ _
 refine aN rfl rfl (by constructor) ?_
 refine sE ?_
 show AWl _ _ _ _ _
 iterate 3 refine aN rfl rfl (by constructor) ?_
 refine aLdQ st 1 rfl rfl rfl rfl ?_
 refine aLen (st.rowAcc 0 rfl (by decide) (by exact flat_len' regE_len _)) rfl ?_
 refine aN rfl rfl (by constructor) ?_
 refine sE ?_
 show AW _ (.loop _) _ _ _
 have st := st.nil 30
 refine AW_loopN (fun m t1 H1 => ∃ (j : Nat) (oc : Option Nat), m = P.regs.length - j ∧ (j ≤ P.regs.length) ∧ t1 16 = .int .i64 (j : Int) ∧ t1 6 = accV oc ((P.regs.take j).filter (fun r : Int × Int => decide (r.1 < n))).length 2 ∧ Stt [b] H H1 [⟨oc, true, ⟨true, 30, (((P.regs.take j).filter (fun r : Int × Int => decide (r.1 < n)))).flatMap regE⟩⟩, ⟨ob, false, ⟨true, 30, (P.regs).flatMap regE⟩⟩, ⟨some b, true, ⟨true, 79, [accV ob P.regs.length 2, .int .u32 P.gen, .int .u8 P.kind, .int .i64 P.holder, .bool P.aptpl]⟩⟩]) (P.regs.length - 0) ⟨0, none, rfl, by omega, rfl, rfl, (st.sel [0, 1, 2] (by decide))⟩ [6, 8, 16, 17, 18, 19, 20, 21, 22, 23, 24, 25, 26, 27, 28] (by decide) ?_
 rintro m t1 H1 hk hI
 obtain ⟨j, oc, rfl, hj, ht16, ht6, st⟩ := hI
 obtain ⟨u, rfl⟩ : ∃ u, t1 = (upd (upd (mix [6, 8, 16, 17, 18, 19, 20, 21, 22, 23, 24, 25, 26, 27, 28] _ u) (some 16) _) (some 6) _) := ⟨t1, by rw [← hk, upd_self ht16, upd_self ht6]⟩
 clear hk ht16 ht6
 show AWl _ _ _ _ _
 refine aN rfl rfl (by constructor) ?_
 refine sE ?_
 show AW _ (.cond _ _ _) _ _ _
 refine cC' rfl (fun h1 => ?_) (fun h1 => ?_)
 ·have hlt : j < P.regs.length := by have := of_decide_eq_true h1; omega
  show AWl _ _ _ _ _
  refine aIxE regE_len (0, 0) (l := P.regs) (st.rowAcc 1 rfl (by decide) (by exact flat_len' regE_len _)) rfl rfl (by omega) fun b18 o18 g18 => ?_
  refine aLdAG rfl g18 ?_
  refine aNewP st rfl rfl (by repeat constructor) fun b8 H2 st => ?_
  refine aSt st 0 rfl rfl rfl rfl (by first | rfl | simp [cellsOf, *]) (by first | decide | (simp [*]; done) | (simp [k8]; done)) (by repeat constructor) fun H3 st => ?_
  refine sE ?_
  show AWl _ _ _ _ _
  refine aN rfl rfl (by constructor) ?_
  refine aLd st 0 rfl rfl rfl (by constructor) ?_
  iterate 2 refine aN rfl rfl (by constructor) ?_
  refine sE ?_
  show AW _ (.cond _ _ _) _ _ _
  refine cC' rfl (fun h4 => ?_) (fun h4 => ?_)
  ·have hp : (fun r : Int × Int => decide (r.1 < n)) (P.regs.getD j (0, 0)) = true := h4
   have ho : ((P.regs.take (j + 1)).filter (fun r : Int × Int => decide (r.1 < n))) = ((P.regs.take j).filter (fun r : Int × Int => decide (r.1 < n))) ++ [(P.regs.getD j (0, 0))] := by first | (rw [filt_t (d := (0, 0)) hlt hp]; done) | (rw [filt_t (d := (0, 0)) hlt hp]; simp)
   have hol : (((P.regs.take j).filter (fun r : Int × Int => decide (r.1 < n)))).length ≤ P.regs.length := by have h1 : ((P.regs.take j).filter (fun r : Int × Int => decide (r.1 < n))).length ≤ P.regs.length := Nat.le_trans (List.length_filter_le _ _) (by rw [List.length_take]; omega); first | omega | (simp only [List.length_append, List.length_map]; omega)
   show AWl _ _ _ _ _
   refine aMovA rfl ?_
   refine aLdA st 0 rfl rfl (by first | decide | simp [*]) (by repeat constructor) ?_
   refine aLit st rfl (by repeat constructor) fun b26 H5 st => ?_
   refine aApp st 2 (ob := oc) rfl rfl rfl (by decide) (by exact flat_len' regE_len _) (st.rowAll 0 rfl (by first | rfl | (simp [beB_len, *]; done) | (simp [beB_len, *]; omega))).src (by first | rfl | simp) (by omega) (by omega) fun b27 H6 hp27 st => ?_
   have st := st.recell 2 rfl (cs' := ((P.regs.take (j + 1)).filter (fun r : Int × Int => decide (r.1 < n))).flatMap regE) (flat_snoc ho rfl)
   refine aMovA rfl ?_
   refine sE ?_
   show AWl _ _ _ _ _
   iterate 2 refine aN rfl rfl (by constructor) ?_
   refine sE ?_
   exact ⟨_, by omega, j + 1, b27, rfl, by omega, congrArg (Value.int .i64) (wi _ (by omega)), congrArg (fun n => accV _ n 2) (len_snoc ho), (st.sel [2, 3, 4] (by decide))⟩
  ·have hp : (fun r : Int × Int => decide (r.1 < n)) (P.regs.getD j (0, 0)) = false := h4
   have ho : ((P.regs.take (j + 1)).filter (fun r : Int × Int => decide (r.1 < n))) = ((P.regs.take j).filter (fun r : Int × Int => decide (r.1 < n))) := by rw [filt_f (d := (0, 0)) hlt hp]
   have hol : (((P.regs.take j).filter (fun r : Int × Int => decide (r.1 < n)))).length ≤ P.regs.length := by have h1 : ((P.regs.take j).filter (fun r : Int × Int => decide (r.1 < n))).length ≤ P.regs.length := Nat.le_trans (List.length_filter_le _ _) (by rw [List.length_take]; omega); first | omega | (simp only [List.length_append, List.length_map]; omega)
   show AWl _ _ _ _ _
   iterate 2 refine aN rfl rfl (by constructor) ?_
   refine sE ?_
   have st := st.recell 1 rfl (cs' := ((P.regs.take (j + 1)).filter (fun r : Int × Int => decide (r.1 < n))).flatMap regE) (by rw [ho])
   exact ⟨_, by omega, j + 1, oc, rfl, by omega, congrArg (Value.int .i64) (wi _ (by omega)), congrArg (fun n => accV _ n 2) (congrArg List.length ho.symm), (st.sel [1, 2, 3] (by decide))⟩
 ·have hge : j = P.regs.length := by have := of_decide_eq_false h1; omega
  subst hge
  try rw [List.take_length] at st
  try rw [List.take_length]
  refine AW_cutK (b := .seq (.seq (.list (⟨some 37, _, _⟩ :: _)) _) _) (fun t1 H1 => ∃ (oc : Option Nat), (((P.regs.filter (fun r : Int × Int => decide (r.1 < n))) ++ if k = 0 then [] else [(n, k)]).length ≤ 2001) ∧ t1 6 = accV oc ((P.regs.filter (fun r : Int × Int => decide (r.1 < n))) ++ if k = 0 then [] else [(n, k)]).length 2 ∧ Stt [b] H H1 [⟨oc, true, ⟨true, 30, (((P.regs.filter (fun r : Int × Int => decide (r.1 < n))) ++ if k = 0 then [] else [(n, k)])).flatMap regE⟩⟩, ⟨ob, false, ⟨true, 30, (P.regs).flatMap regE⟩⟩, ⟨some b, true, ⟨true, 79, [accV ob P.regs.length 2, .int .u32 P.gen, .int .u8 P.kind, .int .i64 P.holder, .bool P.aptpl]⟩⟩]) [6, 29, 30, 31, 32, 33, 34, 35, 36] (by decide) ?_ fun t1 H1 hk hI => ?_
  ·show AWl _ _ _ _ _
   iterate 2 refine aN rfl rfl (by constructor) ?_
   refine sE ?_
   show AW _ (.cond _ _ _) _ _ _
   refine cC' rfl (fun h7 => ?_) (fun h7 => ?_)
   ·have hz : ¬ k = 0 := by simpa using h7
    show AWl _ _ _ _ _
    refine aMovA rfl ?_
    iterate 2 refine aN rfl rfl (by constructor) ?_
    refine aBld rfl (by repeat constructor) ?_
    refine aLit st rfl (by repeat constructor) fun b35 H8 st => ?_
    refine aApp st 1 (ob := oc) rfl rfl rfl (by decide) (by exact flat_len' regE_len _) (st.rowAll 0 rfl (by first | rfl | (simp [beB_len, *]; done) | (simp [beB_len, *]; omega))).src (by first | rfl | simp) (by have h1 : (P.regs.filter (fun r : Int × Int => decide (r.1 < n))).length ≤ P.regs.length := List.length_filter_le _ _; omega) (by have h1 : (P.regs.filter (fun r : Int × Int => decide (r.1 < n))).length ≤ P.regs.length := List.length_filter_le _ _; omega) fun b36 H9 hp36 st => ?_
    refine aMovA rfl ?_
    refine sE ?_
    have e1 : ((P.regs.filter (fun r : Int × Int => decide (r.1 < n))) ++ if k = 0 then [] else [(n, k)]) = (P.regs.filter (fun r : Int × Int => decide (r.1 < n))) ++ [(n, k)] := by rw [if_neg hz]
    refine ⟨b36, by rw [e1, List.length_append]; have h1 : (P.regs.filter (fun r : Int × Int => decide (r.1 < n))).length ≤ P.regs.length := List.length_filter_le _ _; simp only [List.length_cons, List.length_nil]; omega, congrArg (fun n => accV _ n 2) (by rw [e1]; simp), ?_⟩
    have st2 := st.sel [1, 2, 3] (by decide)
    rw [e1, List.flatMap_append]; exact st2
   ·have hz : k = 0 := by simpa using h7
    have e1 : ((P.regs.filter (fun r : Int × Int => decide (r.1 < n))) ++ if k = 0 then [] else [(n, k)]) = (P.regs.filter (fun r : Int × Int => decide (r.1 < n))) := by rw [if_pos hz, List.append_nil]
    refine ⟨oc, by rw [e1]; have h1 : (P.regs.filter (fun r : Int × Int => decide (r.1 < n))).length ≤ P.regs.length := List.length_filter_le _ _; omega, congrArg (fun n => accV _ n 2) (by rw [e1]), ?_⟩
    have st2 := st.sel [0, 1, 2] (by decide)
    rw [e1]; exact st2
  ·obtain ⟨oc, hbase, ht6, st⟩ := hI
   obtain ⟨u, rfl⟩ : ∃ u, t1 = (upd (mix [6, 29, 30, 31, 32, 33, 34, 35, 36] _ u) (some 6) _) := ⟨t1, by rw [← hk, upd_self ht6]⟩
   clear hk ht6
   show AWl _ _ _ _ _
   iterate 3 refine aN rfl rfl (by constructor) ?_
   refine aLdQ st 2 rfl rfl rfl rfl ?_
   refine aLen (st.rowAcc 1 rfl (by decide) (by exact flat_len' regE_len _)) rfl ?_
   refine aN rfl rfl (by constructor) ?_
   refine sE ?_
   show AW _ (.loop _) _ _ _
   refine AW_loopN (fun m t1 H1 => ∃ (j : Nat) (oc : Option Nat), m = P.regs.length - j ∧ (j ≤ P.regs.length) ∧ t1 42 = .int .i64 (j : Int) ∧ t1 6 = accV oc (((P.regs.filter (fun r : Int × Int => decide (r.1 < n))) ++ if k = 0 then [] else [(n, k)]) ++ (P.regs.take j).filter (fun r : Int × Int => decide (r.1 > n))).length 2 ∧ Stt [b] H H1 [⟨oc, true, ⟨true, 30, ((((P.regs.filter (fun r : Int × Int => decide (r.1 < n))) ++ if k = 0 then [] else [(n, k)]) ++ (P.regs.take j).filter (fun r : Int × Int => decide (r.1 > n)))).flatMap regE⟩⟩, ⟨ob, false, ⟨true, 30, (P.regs).flatMap regE⟩⟩, ⟨some b, true, ⟨true, 79, [accV ob P.regs.length 2, .int .u32 P.gen, .int .u8 P.kind, .int .i64 P.holder, .bool P.aptpl]⟩⟩]) (P.regs.length - 0) ⟨0, oc, rfl, by omega, rfl, congrArg (fun n => accV _ n 2) (by simp), (by have st2 := (st.sel [0, 1, 2] (by decide)); simpa using st2)⟩ [6, 10, 42, 43, 44, 45, 46, 47, 48, 49, 50, 51, 52, 53, 54] (by decide) ?_
   rintro m t1 H1 hk hI
   obtain ⟨j, oc, rfl, hj, ht42, ht6, st⟩ := hI
   obtain ⟨u, rfl⟩ : ∃ u, t1 = (upd (upd (mix [6, 10, 42, 43, 44, 45, 46, 47, 48, 49, 50, 51, 52, 53, 54] _ u) (some 42) _) (some 6) _) := ⟨t1, by rw [← hk, upd_self ht42, upd_self ht6]⟩
   clear hk ht42 ht6
   show AWl _ _ _ _ _
   refine aN rfl rfl (by constructor) ?_
   refine sE ?_
   show AW _ (.cond _ _ _) _ _ _
   refine cC' rfl (fun h10 => ?_) (fun h10 => ?_)
   ·have hlt : j < P.regs.length := by have := of_decide_eq_true h10; omega
    show AWl _ _ _ _ _
    refine aIxE regE_len (0, 0) (l := P.regs) (st.rowAcc 1 rfl (by decide) (by exact flat_len' regE_len _)) rfl rfl (by omega) fun b44 o44 g44 => ?_
    refine aLdAG rfl g44 ?_
    refine aNewP st rfl rfl (by repeat constructor) fun b10 H11 st => ?_
    refine aSt st 0 rfl rfl rfl rfl (by first | rfl | simp [cellsOf, *]) (by first | decide | (simp [*]; done) | (simp [k8]; done)) (by repeat constructor) fun H12 st => ?_
    refine sE ?_
    show AWl _ _ _ _ _
    refine aN rfl rfl (by constructor) ?_
    refine aLd st 0 rfl rfl rfl (by constructor) ?_
    iterate 2 refine aN rfl rfl (by constructor) ?_
    refine sE ?_
    show AW _ (.cond _ _ _) _ _ _
    refine cC' rfl (fun h13 => ?_) (fun h13 => ?_)
    ·have hp : (fun r : Int × Int => decide (r.1 > n)) (P.regs.getD j (0, 0)) = true := h13
     have ho : (((P.regs.filter (fun r : Int × Int => decide (r.1 < n))) ++ if k = 0 then [] else [(n, k)]) ++ (P.regs.take (j + 1)).filter (fun r : Int × Int => decide (r.1 > n))) = (((P.regs.filter (fun r : Int × Int => decide (r.1 < n))) ++ if k = 0 then [] else [(n, k)]) ++ (P.regs.take j).filter (fun r : Int × Int => decide (r.1 > n))) ++ [(P.regs.getD j (0, 0))] := by first | (rw [filt_t (d := (0, 0)) hlt hp]; done) | (rw [filt_t (d := (0, 0)) hlt hp]; simp)
     have hol : ((((P.regs.filter (fun r : Int × Int => decide (r.1 < n))) ++ if k = 0 then [] else [(n, k)]) ++ (P.regs.take j).filter (fun r : Int × Int => decide (r.1 > n)))).length ≤ P.regs.length + (((P.regs.filter (fun r : Int × Int => decide (r.1 < n))) ++ if k = 0 then [] else [(n, k)])).length := by have h1 : ((P.regs.take j).filter (fun r : Int × Int => decide (r.1 > n))).length ≤ P.regs.length := Nat.le_trans (List.length_filter_le _ _) (by rw [List.length_take]; omega); first | omega | (simp only [List.length_append, List.length_map]; omega)
     show AWl _ _ _ _ _
     refine aMovA rfl ?_
     refine aLdA st 0 rfl rfl (by first | decide | simp [*]) (by repeat constructor) ?_
     refine aLit st rfl (by repeat constructor) fun b52 H14 st => ?_
     refine aApp st 2 (ob := oc) rfl rfl rfl (by decide) (by exact flat_len' regE_len _) (st.rowAll 0 rfl (by first | rfl | (simp [beB_len, *]; done) | (simp [beB_len, *]; omega))).src (by first | rfl | simp) (by omega) (by omega) fun b53 H15 hp53 st => ?_
     have st := st.recell 2 rfl (cs' := (((P.regs.filter (fun r : Int × Int => decide (r.1 < n))) ++ if k = 0 then [] else [(n, k)]) ++ (P.regs.take (j + 1)).filter (fun r : Int × Int => decide (r.1 > n))).flatMap regE) (flat_snoc ho rfl)
     refine aMovA rfl ?_
     refine sE ?_
     show AWl _ _ _ _ _
     iterate 2 refine aN rfl rfl (by constructor) ?_
     refine sE ?_
     exact ⟨_, by omega, j + 1, b53, rfl, by omega, congrArg (Value.int .i64) (wi _ (by omega)), congrArg (fun n => accV _ n 2) (len_snoc ho), (st.sel [2, 3, 4] (by decide))⟩
    ·have hp : (fun r : Int × Int => decide (r.1 > n)) (P.regs.getD j (0, 0)) = false := h13
     have ho : (((P.regs.filter (fun r : Int × Int => decide (r.1 < n))) ++ if k = 0 then [] else [(n, k)]) ++ (P.regs.take (j + 1)).filter (fun r : Int × Int => decide (r.1 > n))) = (((P.regs.filter (fun r : Int × Int => decide (r.1 < n))) ++ if k = 0 then [] else [(n, k)]) ++ (P.regs.take j).filter (fun r : Int × Int => decide (r.1 > n))) := by rw [filt_f (d := (0, 0)) hlt hp]
     have hol : ((((P.regs.filter (fun r : Int × Int => decide (r.1 < n))) ++ if k = 0 then [] else [(n, k)]) ++ (P.regs.take j).filter (fun r : Int × Int => decide (r.1 > n)))).length ≤ P.regs.length + (((P.regs.filter (fun r : Int × Int => decide (r.1 < n))) ++ if k = 0 then [] else [(n, k)])).length := by have h1 : ((P.regs.take j).filter (fun r : Int × Int => decide (r.1 > n))).length ≤ P.regs.length := Nat.le_trans (List.length_filter_le _ _) (by rw [List.length_take]; omega); first | omega | (simp only [List.length_append, List.length_map]; omega)
     show AWl _ _ _ _ _
     iterate 2 refine aN rfl rfl (by constructor) ?_
     refine sE ?_
     have st := st.recell 1 rfl (cs' := (((P.regs.filter (fun r : Int × Int => decide (r.1 < n))) ++ if k = 0 then [] else [(n, k)]) ++ (P.regs.take (j + 1)).filter (fun r : Int × Int => decide (r.1 > n))).flatMap regE) (by rw [ho])
     exact ⟨_, by omega, j + 1, oc, rfl, by omega, congrArg (Value.int .i64) (wi _ (by omega)), congrArg (fun n => accV _ n 2) (congrArg List.length ho.symm), (st.sel [1, 2, 3] (by decide))⟩
   ·have hge : j = P.regs.length := by have := of_decide_eq_false h10; omega
    subst hge
    try rw [List.take_length] at st
    try rw [List.take_length]
    show AWl _ _ _ _ _
    refine aN rfl rfl (by constructor) ?_
    refine aMovA rfl ?_
    iterate 2 refine aN rfl rfl (by constructor) ?_
    refine aStS (st.rowAcc 0 rfl (by decide) (by exact flat_len' regE_len _)) st 2 rfl rfl rfl (by first | decide | simp) fun H16 st => ?_
    refine sE ?_
    refine ⟨_, rfl , ?_⟩
    exact ⟨oc, st.sel [2, 0] (by decide)⟩
end Go.Proofs.Ytihkghfmihdicaa.Abs
