/- Reservations: what is free again, who registers. -/
import Derived.Test.YtihkghfmihdicaaT2
set_option linter.unusedVariables false
set_option linter.unusedSimpArgs false
set_option maxRecDepth 100000
namespace Go.Proofs.Ytihkghfmihdicaa.Abs
open Go Go.RowKit
theorem free_call {H : Hp} {b : Nat} {ob : Option Nat} {P : PT} {n : Int} (hk : H.m b = some ⟨true, 79, [accV ob P.regs.length 2, .int .u32 P.gen, .int .u8 P.kind, .int .i64 P.holder, .bool P.aptpl]⟩) (hr : ∀ c, ob = some c → H.m c = some ⟨true, 30, (P.regs).flatMap regE⟩) (hr0 : ob = none → P.regs.flatMap regE = []) (hn : P.regs.length ≤ 1000) (hob : ob ≠ some b) :
  ACalls Try.prog 49 [.pointer (some ⟨b, 0, none⟩), .int .i64 n] H (fun v H' => ∃ oe, v = accV oe (freeE P n).length 2 ∧ Stt [b] H H' [⟨some b, true, ⟨true, 79, [accV ob (freeP P).regs.length 2, .int .u32 (freeP P).gen, .int .u8 (freeP P).kind, .int .i64 (freeP P).holder, .bool (freeP P).aptpl]⟩⟩, ⟨oe, true, ⟨true, 43, (freeE P n).flatMap evE⟩⟩]) := by
 refine acallsW Try.func49 f49_ok (Nat.le_of_ble_eq_true rfl) fun hw => ?_
 have st : Stt [b] H H [] := Stt.start hw
 replace st := st.mine hk rfl (by simp) (by simp)
 replace st := st.roA hr hr0 (fun c hc p hp => by rw [List.mem_singleton.1 hp]; intro e; exact hob (hc.trans e.symm))
 unfold f49c
 show AWl _ _ _ _ _
 refine aN rfl rfl (by constructor) ?_
 refine sE ?_
 show AWl _ _ _ _ _
 refine aN rfl rfl (by constructor) ?_
 refine sE ?_
 refine AW_cutK (b := .seq (.list (⟨some 33, _, _⟩ :: _)) _) (fun t1 H1 => ∃ (oe : Option Nat), t1 5 = accV oe (freeE P n).length 2 ∧ Stt [b] H H1 [⟨oe, true, ⟨true, 43, (freeE P n).flatMap evE⟩⟩, ⟨ob, false, ⟨true, 30, (P.regs).flatMap regE⟩⟩, ⟨some b, true, ⟨true, 79, [accV ob P.regs.length 2, .int .u32 P.gen, .int .u8 P.kind, .int .i64 P.holder, .bool P.aptpl]⟩⟩]) [5, 7, 8, 9, 10, 11, 12, 13, 14, 15, 16, 17, 18, 19, 20, 21, 22, 23, 24, 25, 26, 27, 28, 29, 30, 31, 32] (by decide) ?_ fun t1 H1 hk hI => ?_
 ·show AWl _ _ _ _ _
  iterate 3 refine aN rfl rfl (by constructor) ?_
  refine aLd st 1 rfl rfl rfl (by constructor) ?_
  refine aN rfl rfl (by constructor) ?_
  refine sE ?_
  show AW _ (.cond _ _ _) _ _ _
  refine cC' rfl (fun h1 => ?_) (fun h1 => ?_)
  ·have h5 : (P.kind ≥ 5) := by have := of_decide_eq_true h1; omega
   show AWl _ _ _ _ _
   iterate 3 refine aN rfl rfl (by constructor) ?_
   refine aLdQ st 1 rfl rfl rfl rfl ?_
   refine aLen (st.rowAcc 0 rfl (by decide) (by exact flat_len' regE_len _)) rfl ?_
   refine aN rfl rfl (by constructor) ?_
   refine sE ?_
   show AW _ (.loop _) _ _ _
   have st := st.nil 43
   refine AW_loopN (fun m t1 H1 => ∃ (j : Nat) (oc : Option Nat), m = P.regs.length - j ∧ (j ≤ P.regs.length) ∧ t1 18 = .int .i64 (j : Int) ∧ t1 5 = accV oc (((P.regs.take j).filter (fun r : Int × Int => r.1 != n)).map (fun r : Int × Int => (r.1, (10756 : Int)))).length 2 ∧ Stt [b] H H1 [⟨oc, true, ⟨true, 43, ((((P.regs.take j).filter (fun r : Int × Int => r.1 != n)).map (fun r : Int × Int => (r.1, (10756 : Int))))).flatMap evE⟩⟩, ⟨ob, false, ⟨true, 30, (P.regs).flatMap regE⟩⟩, ⟨some b, true, ⟨true, 79, [accV ob P.regs.length 2, .int .u32 P.gen, .int .u8 P.kind, .int .i64 P.holder, .bool P.aptpl]⟩⟩]) (P.regs.length - 0) ⟨0, none, rfl, by omega, rfl, rfl, (st.sel [0, 1, 2] (by decide))⟩ [5, 7, 18, 19, 20, 21, 22, 23, 24, 25, 26, 27, 28, 29, 30, 31, 32] (by decide) ?_
   rintro m t1 H1 hk hI
   obtain ⟨j, oc, rfl, hj, ht18, ht5, st⟩ := hI
   obtain ⟨u, rfl⟩ : ∃ u, t1 = (upd (upd (mix [5, 7, 18, 19, 20, 21, 22, 23, 24, 25, 26, 27, 28, 29, 30, 31, 32] _ u) (some 18) _) (some 5) _) := ⟨t1, by rw [← hk, upd_self ht18, upd_self ht5]⟩
   clear hk ht18 ht5
   show AWl _ _ _ _ _
   refine aN rfl rfl (by constructor) ?_
   refine sE ?_
   show AW _ (.cond _ _ _) _ _ _
   refine cC' rfl (fun h2 => ?_) (fun h2 => ?_)
   ·have hlt : j < P.regs.length := by have := of_decide_eq_true h2; omega
    show AWl _ _ _ _ _
    refine aIxE regE_len (0, 0) (l := P.regs) (st.rowAcc 1 rfl (by decide) (by exact flat_len' regE_len _)) rfl rfl (by omega) fun b20 o20 g20 => ?_
    refine aLdAG rfl g20 ?_
    refine aNewP st rfl rfl (by repeat constructor) fun b7 H3 st => ?_
    refine aSt st 0 rfl rfl rfl rfl (by first | rfl | simp [cellsOf, *]) (by first | decide | (simp [*]; done) | (simp [k8]; done)) (by repeat constructor) fun H4 st => ?_
    refine sE ?_
    show AWl _ _ _ _ _
    refine aN rfl rfl (by constructor) ?_
    refine aLd st 0 rfl rfl rfl (by constructor) ?_
    iterate 2 refine aN rfl rfl (by constructor) ?_
    refine sE ?_
    show AW _ (.cond _ _ _) _ _ _
    refine cC' rfl (fun h5 => ?_) (fun h5 => ?_)
    ·have hp : (fun r : Int × Int => r.1 != n) (P.regs.getD j (0, 0)) = true := h5
     have ho : (((P.regs.take (j + 1)).filter (fun r : Int × Int => r.1 != n)).map (fun r : Int × Int => (r.1, (10756 : Int)))) = (((P.regs.take j).filter (fun r : Int × Int => r.1 != n)).map (fun r : Int × Int => (r.1, (10756 : Int)))) ++ [(fun r : Int × Int => (r.1, (10756 : Int))) (P.regs.getD j (0, 0))] := by first | (rw [filt_t (d := (0, 0)) hlt hp]; done) | (rw [filt_t (d := (0, 0)) hlt hp]; simp)
     have hol : ((((P.regs.take j).filter (fun r : Int × Int => r.1 != n)).map (fun r : Int × Int => (r.1, (10756 : Int))))).length ≤ P.regs.length := by have h1 : ((P.regs.take j).filter (fun r : Int × Int => r.1 != n)).length ≤ P.regs.length := Nat.le_trans (List.length_filter_le _ _) (by rw [List.length_take]; omega); first | omega | (simp only [List.length_append, List.length_map]; omega)
     show AWl _ _ _ _ _
     refine aMovA rfl ?_
     refine aN rfl rfl (by constructor) ?_
     refine aLd st 0 rfl rfl rfl (by constructor) ?_
     refine aBld rfl (by repeat constructor) ?_
     refine aLit st rfl (by repeat constructor) fun b30 H6 st => ?_
     refine aApp st 2 (ob := oc) rfl rfl rfl (by decide) (by exact flat_len' evE_len _) (st.rowAll 0 rfl (by first | rfl | (simp [beB_len, *]; done) | (simp [beB_len, *]; omega))).src (by first | rfl | simp) (by omega) (by omega) fun b31 H7 hp31 st => ?_
     have st := st.recell 2 rfl (cs' := (((P.regs.take (j + 1)).filter (fun r : Int × Int => r.1 != n)).map (fun r : Int × Int => (r.1, (10756 : Int)))).flatMap evE) (flat_snoc ho rfl)
     refine aMovA rfl ?_
     refine sE ?_
     show AWl _ _ _ _ _
     iterate 2 refine aN rfl rfl (by constructor) ?_
     refine sE ?_
     exact ⟨_, by omega, j + 1, b31, rfl, by omega, congrArg (Value.int .i64) (wi _ (by omega)), congrArg (fun n => accV _ n 2) (len_snoc ho), (st.sel [2, 3, 4] (by decide))⟩
    ·have hp : (fun r : Int × Int => r.1 != n) (P.regs.getD j (0, 0)) = false := h5
     have ho : (((P.regs.take (j + 1)).filter (fun r : Int × Int => r.1 != n)).map (fun r : Int × Int => (r.1, (10756 : Int)))) = (((P.regs.take j).filter (fun r : Int × Int => r.1 != n)).map (fun r : Int × Int => (r.1, (10756 : Int)))) := by rw [filt_f (d := (0, 0)) hlt hp]
     have hol : ((((P.regs.take j).filter (fun r : Int × Int => r.1 != n)).map (fun r : Int × Int => (r.1, (10756 : Int))))).length ≤ P.regs.length := by have h1 : ((P.regs.take j).filter (fun r : Int × Int => r.1 != n)).length ≤ P.regs.length := Nat.le_trans (List.length_filter_le _ _) (by rw [List.length_take]; omega); first | omega | (simp only [List.length_append, List.length_map]; omega)
     show AWl _ _ _ _ _
     iterate 2 refine aN rfl rfl (by constructor) ?_
     refine sE ?_
     have st := st.recell 1 rfl (cs' := (((P.regs.take (j + 1)).filter (fun r : Int × Int => r.1 != n)).map (fun r : Int × Int => (r.1, (10756 : Int)))).flatMap evE) (by rw [ho])
     exact ⟨_, by omega, j + 1, oc, rfl, by omega, congrArg (Value.int .i64) (wi _ (by omega)), congrArg (fun n => accV _ n 2) (congrArg List.length ho.symm), (st.sel [1, 2, 3] (by decide))⟩
   ·have hge : j = P.regs.length := by have := of_decide_eq_false h2; omega
    subst hge
    try rw [List.take_length] at st
    try rw [List.take_length]
    have e1 : freeE P n = (P.regs.filter (fun r : Int × Int => r.1 != n)).map (fun r : Int × Int => (r.1, (10756 : Int))) := if_pos h5
    refine ⟨oc, by rw [e1]; rfl, ?_⟩
    rw [e1]; exact st.sel [0, 1, 2] (by decide)
  ·have h5 : ¬ (P.kind ≥ 5) := by have := of_decide_eq_false h1; omega
   have st := st.nil 43
   have e1 : freeE P n = [] := if_neg h5
   refine ⟨none, by rw [e1]; rfl, ?_⟩
   rw [e1]; exact st.sel [0, 1, 2] (by decide)
 ·obtain ⟨oe, ht5, st⟩ := hI
  obtain ⟨u, rfl⟩ : ∃ u, t1 = (upd (mix [5, 7, 8, 9, 10, 11, 12, 13, 14, 15, 16, 17, 18, 19, 20, 21, 22, 23, 24, 25, 26, 27, 28, 29, 30, 31, 32] _ u) (some 5) _) := ⟨t1, by rw [← hk, upd_self ht5]⟩
  clear hk ht5
  show AWl _ _ _ _ _
  iterate 4 refine aN rfl rfl (by constructor) ?_
  refine aSt st 2 rfl rfl rfl rfl (by first | rfl | simp [cellsOf, *]) (by first | decide | (simp [*]; done) | (simp [k8]; done)) (by repeat constructor) fun H8 st => ?_
  iterate 2 refine aN rfl rfl (by constructor) ?_
  refine aSt st 2 rfl rfl rfl rfl (by first | rfl | simp [cellsOf, *]) (by first | decide | (simp [*]; done) | (simp [k8]; done)) (by repeat constructor) fun H9 st => ?_
  refine sE ?_
  show AWl _ _ _ _ _
  refine aMovA rfl ?_
  refine aMovA rfl ?_
  refine sE ?_
  refine ⟨_, out1 (r_acc rfl), ?_⟩
  exact ⟨oe, rfl, st.sel [2, 0] (by decide)⟩
theorem len_one (l : List (Int × Int)) : ((l.length : Int) == 1) = (l.length == 1) := by
  rw [Bool.eq_iff_iff, beq_iff_eq, beq_iff_eq]; omega
section
variable {P : PT} {n : Int} {o : POut} {known : Bool}
theorem reg1 (h : o.act ≠ 0) : registerP P n o known = { P with regs := setM P.regs n o.act, aptpl := o.ap, gen := inc32 P.gen } ∧ registerE P n o known = [] := by
  unfold registerP registerE
  exact ⟨by simp only [if_neg h], if_neg (fun hc => h hc.1)⟩
theorem reg2 (h : o.act = 0) (hk : known = false) : registerP P n o known = { P with aptpl := o.ap, gen := inc32 P.gen } ∧ registerE P n o known = [] := by
  unfold registerP registerE
  refine ⟨?_, if_neg (fun hc => by rw [hk] at hc; exact absurd hc.2.1 (by decide))⟩
  simp only [if_pos h, hk]
  rfl
theorem reg3 (h : o.act = 0) (hk : known = true) (hf : frM P n = true) : registerP P n o known = { freeP { P with regs := setM P.regs n 0 } with aptpl := o.ap, gen := inc32 P.gen } ∧ registerE P n o known = freeE { P with regs := setM P.regs n 0 } n := by
  unfold registerP registerE
  exact ⟨by simp only [if_pos h, if_pos hk, if_pos hf], if_pos ⟨h, hk, hf⟩⟩
theorem reg4 (h : o.act = 0) (hk : known = true) (hf : frM P n = false) : registerP P n o known = { P with regs := setM P.regs n 0, aptpl := o.ap, gen := inc32 P.gen } ∧ registerE P n o known = [] := by
  unfold registerP registerE
  refine ⟨?_, if_neg (fun hc => by rw [hf] at hc; exact absurd hc.2.2 (by decide))⟩
  simp only [if_pos h, if_pos hk, hf]
  rfl
end
theorem register_call {H : Hp} {b : Nat} {ob : Option Nat} {P : PT} {n : Int} {o : POut} {known : Bool} (hk : H.m b = some ⟨true, 79, [accV ob P.regs.length 2, .int .u32 P.gen, .int .u8 P.kind, .int .i64 P.holder, .bool P.aptpl]⟩) (hr : ∀ c, ob = some c → H.m c = some ⟨true, 30, (P.regs).flatMap regE⟩) (hr0 : ob = none → P.regs.flatMap regE = []) (hn : P.regs.length ≤ 400) (hob : ob ≠ some b) :
  ACalls Try.prog 30 [.pointer (some ⟨b, 0, none⟩), .int .i64 n, .agg #[.int .u8 o.sv, .int .u8 o.ty, .int .u64 o.key, .int .u64 o.act, .bool o.ap], .bool known] H (fun v H' => ∃ ob' oe, v = accV oe (registerE P n o known).length 2 ∧ ((ob' = ob ∧ (registerP P n o known).regs = P.regs ∧ Stt [b] H H' [⟨some b, true, ⟨true, 79, [accV ob' (registerP P n o known).regs.length 2, .int .u32 (registerP P n o known).gen, .int .u8 (registerP P n o known).kind, .int .i64 (registerP P n o known).holder, .bool (registerP P n o known).aptpl]⟩⟩, ⟨oe, true, ⟨true, 43, (registerE P n o known).flatMap evE⟩⟩]) ∨ Stt [b] H H' [⟨some b, true, ⟨true, 79, [accV ob' (registerP P n o known).regs.length 2, .int .u32 (registerP P n o known).gen, .int .u8 (registerP P n o known).kind, .int .i64 (registerP P n o known).holder, .bool (registerP P n o known).aptpl]⟩⟩, ⟨ob', true, ⟨true, 30, ((registerP P n o known).regs).flatMap regE⟩⟩, ⟨oe, true, ⟨true, 43, (registerE P n o known).flatMap evE⟩⟩])) := by
 refine acallsW Try.func30 f30_ok (Nat.le_of_ble_eq_true rfl) fun hw => ?_
 have st : Stt [b] H H [] := Stt.start hw
 replace st := st.mine hk rfl (by simp) (by simp)
 replace st := st.roA hr hr0 (fun c hc p hp => by rw [List.mem_singleton.1 hp]; intro e; exact hob (hc.trans e.symm))
 unfold f30c
 show AWl _ _ _ _ _
 refine aBoxN st rfl rfl (by repeat constructor) rfl fun b6 H1 st => ?_
 refine aN rfl rfl (by constructor) ?_
 refine sE ?_
 show AWl _ _ _ _ _
 refine aN rfl rfl (by constructor) ?_
 refine sE ?_
 show AWl _ _ _ _ _
 refine aN rfl rfl (by constructor) ?_
 refine aLd st 0 rfl rfl rfl (by constructor) ?_
 iterate 2 refine aN rfl rfl (by constructor) ?_
 refine gCase 15 rfl (fun h2 => ?_) (fun h2 => ?_)
 ·refine gT rfl ?_
  iterate 2 refine aN rfl rfl (by constructor) ?_
  refine sE ?_
  show AW _ (.cond _ _ _) _ _ _
  refine cC' rfl (fun h3 => ?_) (fun h3 => ?_)
  ·show AWl _ _ _ _ _
   iterate 3 refine aN rfl rfl (by constructor) ?_
   refine aLd st 2 rfl rfl rfl (by constructor) ?_
   refine aC (all_call) fun v22 H4 ⟨hv, st1⟩ => ?_
   subst hv
   replace st := st.call st1 rfl
   clear st1
   refine aN rfl rfl (by constructor) ?_
   refine gCase 23 rfl (fun h5 => ?_) (fun h5 => ?_)
   ·refine gT rfl ?_
    refine aN rfl rfl (by constructor) ?_
    refine gT rfl ?_
    refine aN rfl rfl (by constructor) ?_
    refine gT rfl ?_
    refine aN rfl rfl (by constructor) ?_
    refine gT rfl ?_
    refine aLdQ st 2 rfl rfl rfl rfl ?_
    refine gT rfl ?_
    refine aLen (st.rowAcc 1 rfl (by decide) (by exact flat_len' regE_len _)) rfl ?_
    refine gT rfl ?_
    refine aBinV (.bool (P.regs.length == 1)) rfl rfl (by exact congrArg (fun q => some (Value.bool q)) (len_one _)) ?_
    iterate 2 refine aN rfl rfl (by constructor) ?_
    refine sE ?_
    show AWl _ _ _ _ _
    iterate 3 refine aN rfl rfl (by constructor) ?_
    refine aLd st 2 rfl rfl rfl (by constructor) ?_
    iterate 2 refine aN rfl rfl (by constructor) ?_
    refine gCase 36 rfl (fun h6 => ?_) (fun h6 => ?_)
    ·refine gT rfl ?_
     refine aN rfl rfl (by constructor) ?_
     refine gT rfl ?_
     refine aN rfl rfl (by constructor) ?_
     refine gT rfl ?_
     refine aN rfl rfl (by constructor) ?_
     refine gT rfl ?_
     refine aLd st 2 rfl rfl rfl (by constructor) ?_
     refine gT rfl ?_
     refine aN rfl rfl (by constructor) ?_
     refine gT rfl ?_
     iterate 3 refine aN rfl rfl (by constructor) ?_
     refine sE ?_
     show AWl _ _ _ _ _
     iterate 2 refine aN rfl rfl (by constructor) ?_
     refine aC (set_call (P := P) (k := 0) (st.get (j := 2) rfl) (st.got 1 rfl).1 (st.got 1 rfl).2 (by omega) (st.ne 1 2 rfl rfl (by decide))) fun v46 H7 ⟨o46, st1⟩ => ?_
     replace st := st.callX 2 rfl st1 rfl
     clear st1
     refine sE ?_
     show AWl _ _ _ _ _
     iterate 2 refine aN rfl rfl (by constructor) ?_
     refine gCase 48 rfl (fun h8 => ?_) (fun h8 => ?_)
     ·refine gF rfl (by decide) ?_
      refine gF rfl (by decide) ?_
      refine gU rfl ?_
      refine gU rfl ?_
      refine gU rfl ?_
      refine gU rfl ?_
      refine gU rfl ?_
      refine gU rfl ?_
      refine gF rfl (by decide) ?_
      refine aN rfl rfl (by constructor) ?_
      refine sE ?_
      show AW _ (.cond _ _ _) _ _ _
      refine cT rfl ?_
      show AWl _ _ _ _ _
      iterate 2 refine aN rfl rfl (by constructor) ?_
      refine aC (free_call (P := ({ P with regs := setM P.regs n 0 } : PT)) (n := n) (st.get (j := 0) rfl) (st.got 1 rfl).1 (st.got 1 rfl).2 (show (setM P.regs n 0).length ≤ 1000 by have := setM_len P.regs n 0; omega) (st.ne 1 0 rfl rfl (by decide))) fun v61 H9 ⟨e61, hv, st1⟩ => ?_
      subst hv
      replace st := st.callX 0 rfl st1 rfl
      clear st1
      refine aMovA rfl ?_
      refine sE ?_
      show AWl _ _ _ _ _
      iterate 2 refine aN rfl rfl (by constructor) ?_
      refine aLd st 3 rfl rfl rfl (by constructor) ?_
      iterate 2 refine aN rfl rfl (by constructor) ?_
      refine aSt st 0 rfl rfl rfl rfl (by first | rfl | simp [cellsOf, *]) (by first | decide | (simp [*]; done) | (simp [k8]; done)) (by repeat constructor) fun H10 st => ?_
      refine sE ?_
      show AWl _ _ _ _ _
      iterate 3 refine aN rfl rfl (by constructor) ?_
      refine aLd st 0 rfl rfl rfl (by constructor) ?_
      iterate 3 refine aN rfl rfl (by constructor) ?_
      refine aSt st 0 rfl rfl rfl rfl (by first | rfl | simp [cellsOf, *]) (by first | decide | (simp [*]; done) | (simp [k8]; done)) (by repeat constructor) fun H11 st => ?_
      refine sE ?_
      show AWl _ _ _ _ _
      refine aMovA rfl ?_
      refine aMovA rfl ?_
      refine sE ?_
      refine ⟨_, out1 (r_acc rfl), ?_⟩
      have hact : o.act = 0 := by simpa using h2
      have hfr : frM P n = true := by unfold frM; simp_all
      obtain ⟨e1, e2⟩ := reg3 (P := P) (n := n) hact h3 hfr
      rw [e1, e2]
      exact ⟨o46, e61, rfl, .inr (st.sel [0, 2, 1] (by decide))⟩
     ·refine gT rfl ?_
      refine aN rfl rfl (by constructor) ?_
      refine gT rfl ?_
      refine aN rfl rfl (by constructor) ?_
      refine gCase 50 rfl (fun h12 => ?_) (fun h12 => ?_)
      ·refine gT rfl ?_
       refine aN rfl rfl (by constructor) ?_
       refine gT rfl ?_
       refine aN rfl rfl (by constructor) ?_
       refine gT rfl ?_
       refine aN rfl rfl (by constructor) ?_
       refine gT rfl ?_
       refine aLd st 0 rfl rfl rfl (by constructor) ?_
       refine gT rfl ?_
       refine aC (all_call) fun v55 H13 ⟨hv, st1⟩ => ?_
       subst hv
       replace st := st.call st1 rfl
       clear st1
       refine gT rfl ?_
       refine aN rfl rfl (by constructor) ?_
       refine gT rfl ?_
       iterate 2 refine aN rfl rfl (by constructor) ?_
       refine sE ?_
       show AW _ (.cond _ _ _) _ _ _
       refine cF' (congrArg (fun z => Value.bool (!z)) h5) ?_
       show AWl _ _ _ _ _
       iterate 2 refine aN rfl rfl (by constructor) ?_
       refine aLd st 2 rfl rfl rfl (by constructor) ?_
       iterate 2 refine aN rfl rfl (by constructor) ?_
       refine aSt st 0 rfl rfl rfl rfl (by first | rfl | simp [cellsOf, *]) (by first | decide | (simp [*]; done) | (simp [k8]; done)) (by repeat constructor) fun H14 st => ?_
       refine sE ?_
       show AWl _ _ _ _ _
       iterate 3 refine aN rfl rfl (by constructor) ?_
       refine aLd st 0 rfl rfl rfl (by constructor) ?_
       iterate 3 refine aN rfl rfl (by constructor) ?_
       refine aSt st 0 rfl rfl rfl rfl (by first | rfl | simp [cellsOf, *]) (by first | decide | (simp [*]; done) | (simp [k8]; done)) (by repeat constructor) fun H15 st => ?_
       refine sE ?_
       show AWl _ _ _ _ _
       iterate 2 refine aN rfl rfl (by constructor) ?_
       refine sE ?_
       refine ⟨_, out1 (r_tmp rfl (by constructor)), ?_⟩
       have hact : o.act = 0 := by simpa using h2
       have st := st.nil 43
       have hfr : frM P n = false := by unfold frM; simp_all
       obtain ⟨e1, e2⟩ := reg4 (P := P) (n := n) hact h3 hfr
       rw [e1, e2]
       exact ⟨o46, none, rfl, .inr (st.sel [1, 2, 0] (by decide))⟩
      ·refine gF rfl (by decide) ?_
       refine gF rfl (by decide) ?_
       refine gF rfl (by decide) ?_
       refine gF rfl (by decide) ?_
       refine gF rfl (by decide) ?_
       refine gF rfl (by decide) ?_
       refine gT rfl ?_
       iterate 2 refine aN rfl rfl (by constructor) ?_
       refine sE ?_
       show AW _ (.cond _ _ _) _ _ _
       refine cF' rfl ?_
       show AWl _ _ _ _ _
       iterate 2 refine aN rfl rfl (by constructor) ?_
       refine aLd st 2 rfl rfl rfl (by constructor) ?_
       iterate 2 refine aN rfl rfl (by constructor) ?_
       refine aSt st 0 rfl rfl rfl rfl (by first | rfl | simp [cellsOf, *]) (by first | decide | (simp [*]; done) | (simp [k8]; done)) (by repeat constructor) fun H16 st => ?_
       refine sE ?_
       show AWl _ _ _ _ _
       iterate 3 refine aN rfl rfl (by constructor) ?_
       refine aLd st 0 rfl rfl rfl (by constructor) ?_
       iterate 3 refine aN rfl rfl (by constructor) ?_
       refine aSt st 0 rfl rfl rfl rfl (by first | rfl | simp [cellsOf, *]) (by first | decide | (simp [*]; done) | (simp [k8]; done)) (by repeat constructor) fun H17 st => ?_
       refine sE ?_
       show AWl _ _ _ _ _
       iterate 2 refine aN rfl rfl (by constructor) ?_
       refine sE ?_
       refine ⟨_, out1 (r_tmp rfl (by constructor)), ?_⟩
       have hact : o.act = 0 := by simpa using h2
       have st := st.nil 43
       have hfr : frM P n = false := by unfold frM; simp_all
       obtain ⟨e1, e2⟩ := reg4 (P := P) (n := n) hact h3 hfr
       rw [e1, e2]
       exact ⟨o46, none, rfl, .inr (st.sel [1, 2, 0] (by decide))⟩
    ·refine gF rfl (by decide) ?_
     refine gF rfl (by decide) ?_
     refine gF rfl (by decide) ?_
     refine gF rfl (by decide) ?_
     refine gF rfl (by decide) ?_
     refine gF rfl (by decide) ?_
     iterate 2 refine aN rfl rfl (by constructor) ?_
     refine sE ?_
     show AWl _ _ _ _ _
     iterate 2 refine aN rfl rfl (by constructor) ?_
     refine aC (set_call (P := P) (k := 0) (st.get (j := 2) rfl) (st.got 1 rfl).1 (st.got 1 rfl).2 (by omega) (st.ne 1 2 rfl rfl (by decide))) fun v46 H18 ⟨o46, st1⟩ => ?_
     replace st := st.callX 2 rfl st1 rfl
     clear st1
     refine sE ?_
     show AWl _ _ _ _ _
     iterate 2 refine aN rfl rfl (by constructor) ?_
     refine gCase 48 rfl (fun h19 => ?_) (fun h19 => ?_)
     ·refine gF rfl (by decide) ?_
      refine gF rfl (by decide) ?_
      refine gU rfl ?_
      refine gU rfl ?_
      refine gU rfl ?_
      refine gU rfl ?_
      refine gU rfl ?_
      refine gU rfl ?_
      refine gF rfl (by decide) ?_
      refine aN rfl rfl (by constructor) ?_
      refine sE ?_
      show AW _ (.cond _ _ _) _ _ _
      refine cT rfl ?_
      show AWl _ _ _ _ _
      iterate 2 refine aN rfl rfl (by constructor) ?_
      refine aC (free_call (P := ({ P with regs := setM P.regs n 0 } : PT)) (n := n) (st.get (j := 0) rfl) (st.got 1 rfl).1 (st.got 1 rfl).2 (show (setM P.regs n 0).length ≤ 1000 by have := setM_len P.regs n 0; omega) (st.ne 1 0 rfl rfl (by decide))) fun v61 H20 ⟨e61, hv, st1⟩ => ?_
      subst hv
      replace st := st.callX 0 rfl st1 rfl
      clear st1
      refine aMovA rfl ?_
      refine sE ?_
      show AWl _ _ _ _ _
      iterate 2 refine aN rfl rfl (by constructor) ?_
      refine aLd st 3 rfl rfl rfl (by constructor) ?_
      iterate 2 refine aN rfl rfl (by constructor) ?_
      refine aSt st 0 rfl rfl rfl rfl (by first | rfl | simp [cellsOf, *]) (by first | decide | (simp [*]; done) | (simp [k8]; done)) (by repeat constructor) fun H21 st => ?_
      refine sE ?_
      show AWl _ _ _ _ _
      iterate 3 refine aN rfl rfl (by constructor) ?_
      refine aLd st 0 rfl rfl rfl (by constructor) ?_
      iterate 3 refine aN rfl rfl (by constructor) ?_
      refine aSt st 0 rfl rfl rfl rfl (by first | rfl | simp [cellsOf, *]) (by first | decide | (simp [*]; done) | (simp [k8]; done)) (by repeat constructor) fun H22 st => ?_
      refine sE ?_
      show AWl _ _ _ _ _
      refine aMovA rfl ?_
      refine aMovA rfl ?_
      refine sE ?_
      refine ⟨_, out1 (r_acc rfl), ?_⟩
      have hact : o.act = 0 := by simpa using h2
      have hfr : frM P n = true := by unfold frM; simp_all
      obtain ⟨e1, e2⟩ := reg3 (P := P) (n := n) hact h3 hfr
      rw [e1, e2]
      exact ⟨o46, e61, rfl, .inr (st.sel [0, 2, 1] (by decide))⟩
     ·refine gT rfl ?_
      refine aN rfl rfl (by constructor) ?_
      refine gT rfl ?_
      refine aN rfl rfl (by constructor) ?_
      refine gF rfl (by decide) ?_
      refine gF rfl (by decide) ?_
      refine gF rfl (by decide) ?_
      refine gF rfl (by decide) ?_
      refine gF rfl (by decide) ?_
      refine gF rfl (by decide) ?_
      refine gT rfl ?_
      iterate 2 refine aN rfl rfl (by constructor) ?_
      refine sE ?_
      show AW _ (.cond _ _ _) _ _ _
      refine cF' rfl ?_
      show AWl _ _ _ _ _
      iterate 2 refine aN rfl rfl (by constructor) ?_
      refine aLd st 2 rfl rfl rfl (by constructor) ?_
      iterate 2 refine aN rfl rfl (by constructor) ?_
      refine aSt st 0 rfl rfl rfl rfl (by first | rfl | simp [cellsOf, *]) (by first | decide | (simp [*]; done) | (simp [k8]; done)) (by repeat constructor) fun H23 st => ?_
      refine sE ?_
      show AWl _ _ _ _ _
      iterate 3 refine aN rfl rfl (by constructor) ?_
      refine aLd st 0 rfl rfl rfl (by constructor) ?_
      iterate 3 refine aN rfl rfl (by constructor) ?_
      refine aSt st 0 rfl rfl rfl rfl (by first | rfl | simp [cellsOf, *]) (by first | decide | (simp [*]; done) | (simp [k8]; done)) (by repeat constructor) fun H24 st => ?_
      refine sE ?_
      show AWl _ _ _ _ _
      iterate 2 refine aN rfl rfl (by constructor) ?_
      refine sE ?_
      refine ⟨_, out1 (r_tmp rfl (by constructor)), ?_⟩
      have hact : o.act = 0 := by simpa using h2
      have st := st.nil 43
      have hfr : frM P n = false := by unfold frM; simp_all
      obtain ⟨e1, e2⟩ := reg4 (P := P) (n := n) hact h3 hfr
      rw [e1, e2]
      exact ⟨o46, none, rfl, .inr (st.sel [1, 2, 0] (by decide))⟩
   ·refine gF rfl (by decide) ?_
    refine gF rfl (by decide) ?_
    refine gF rfl (by decide) ?_
    refine gF rfl (by decide) ?_
    refine gF rfl (by decide) ?_
    refine gF rfl (by decide) ?_
    iterate 2 refine aN rfl rfl (by constructor) ?_
    refine sE ?_
    show AWl _ _ _ _ _
    iterate 3 refine aN rfl rfl (by constructor) ?_
    refine aLd st 2 rfl rfl rfl (by constructor) ?_
    iterate 2 refine aN rfl rfl (by constructor) ?_
    refine gCase 36 rfl (fun h25 => ?_) (fun h25 => ?_)
    ·refine gT rfl ?_
     refine aN rfl rfl (by constructor) ?_
     refine gT rfl ?_
     refine aN rfl rfl (by constructor) ?_
     refine gT rfl ?_
     refine aN rfl rfl (by constructor) ?_
     refine gT rfl ?_
     refine aLd st 2 rfl rfl rfl (by constructor) ?_
     refine gT rfl ?_
     refine aN rfl rfl (by constructor) ?_
     refine gT rfl ?_
     iterate 3 refine aN rfl rfl (by constructor) ?_
     refine sE ?_
     show AWl _ _ _ _ _
     iterate 2 refine aN rfl rfl (by constructor) ?_
     refine aC (set_call (P := P) (k := 0) (st.get (j := 2) rfl) (st.got 1 rfl).1 (st.got 1 rfl).2 (by omega) (st.ne 1 2 rfl rfl (by decide))) fun v46 H26 ⟨o46, st1⟩ => ?_
     replace st := st.callX 2 rfl st1 rfl
     clear st1
     refine sE ?_
     show AWl _ _ _ _ _
     iterate 2 refine aN rfl rfl (by constructor) ?_
     refine gT rfl ?_
     refine aN rfl rfl (by constructor) ?_
     refine gT rfl ?_
     refine aN rfl rfl (by constructor) ?_
     refine gCase 50 rfl (fun h27 => ?_) (fun h27 => ?_)
     ·refine gT rfl ?_
      refine aN rfl rfl (by constructor) ?_
      refine gT rfl ?_
      refine aN rfl rfl (by constructor) ?_
      refine gT rfl ?_
      refine aN rfl rfl (by constructor) ?_
      refine gT rfl ?_
      refine aLd st 0 rfl rfl rfl (by constructor) ?_
      refine gT rfl ?_
      refine aC (all_call) fun v55 H28 ⟨hv, st1⟩ => ?_
      subst hv
      replace st := st.call st1 rfl
      clear st1
      refine gT rfl ?_
      refine aN rfl rfl (by constructor) ?_
      refine gT rfl ?_
      iterate 2 refine aN rfl rfl (by constructor) ?_
      refine sE ?_
      show AW _ (.cond _ _ _) _ _ _
      refine cT (congrArg (fun z => Value.bool (!z)) h5) ?_
      show AWl _ _ _ _ _
      iterate 2 refine aN rfl rfl (by constructor) ?_
      refine aC (free_call (P := ({ P with regs := setM P.regs n 0 } : PT)) (n := n) (st.get (j := 0) rfl) (st.got 1 rfl).1 (st.got 1 rfl).2 (show (setM P.regs n 0).length ≤ 1000 by have := setM_len P.regs n 0; omega) (st.ne 1 0 rfl rfl (by decide))) fun v61 H29 ⟨e61, hv, st1⟩ => ?_
      subst hv
      replace st := st.callX 0 rfl st1 rfl
      clear st1
      refine aMovA rfl ?_
      refine sE ?_
      show AWl _ _ _ _ _
      iterate 2 refine aN rfl rfl (by constructor) ?_
      refine aLd st 3 rfl rfl rfl (by constructor) ?_
      iterate 2 refine aN rfl rfl (by constructor) ?_
      refine aSt st 0 rfl rfl rfl rfl (by first | rfl | simp [cellsOf, *]) (by first | decide | (simp [*]; done) | (simp [k8]; done)) (by repeat constructor) fun H30 st => ?_
      refine sE ?_
      show AWl _ _ _ _ _
      iterate 3 refine aN rfl rfl (by constructor) ?_
      refine aLd st 0 rfl rfl rfl (by constructor) ?_
      iterate 3 refine aN rfl rfl (by constructor) ?_
      refine aSt st 0 rfl rfl rfl rfl (by first | rfl | simp [cellsOf, *]) (by first | decide | (simp [*]; done) | (simp [k8]; done)) (by repeat constructor) fun H31 st => ?_
      refine sE ?_
      show AWl _ _ _ _ _
      refine aMovA rfl ?_
      refine aMovA rfl ?_
      refine sE ?_
      refine ⟨_, out1 (r_acc rfl), ?_⟩
      have hact : o.act = 0 := by simpa using h2
      have hfr : frM P n = true := by unfold frM; simp_all
      obtain ⟨e1, e2⟩ := reg3 (P := P) (n := n) hact h3 hfr
      rw [e1, e2]
      exact ⟨o46, e61, rfl, .inr (st.sel [0, 2, 1] (by decide))⟩
     ·refine gF rfl (by decide) ?_
      refine gF rfl (by decide) ?_
      refine gF rfl (by decide) ?_
      refine gF rfl (by decide) ?_
      refine gF rfl (by decide) ?_
      refine gF rfl (by decide) ?_
      refine gT rfl ?_
      iterate 2 refine aN rfl rfl (by constructor) ?_
      refine sE ?_
      show AW _ (.cond _ _ _) _ _ _
      refine cF' rfl ?_
      show AWl _ _ _ _ _
      iterate 2 refine aN rfl rfl (by constructor) ?_
      refine aLd st 2 rfl rfl rfl (by constructor) ?_
      iterate 2 refine aN rfl rfl (by constructor) ?_
      refine aSt st 0 rfl rfl rfl rfl (by first | rfl | simp [cellsOf, *]) (by first | decide | (simp [*]; done) | (simp [k8]; done)) (by repeat constructor) fun H32 st => ?_
      refine sE ?_
      show AWl _ _ _ _ _
      iterate 3 refine aN rfl rfl (by constructor) ?_
      refine aLd st 0 rfl rfl rfl (by constructor) ?_
      iterate 3 refine aN rfl rfl (by constructor) ?_
      refine aSt st 0 rfl rfl rfl rfl (by first | rfl | simp [cellsOf, *]) (by first | decide | (simp [*]; done) | (simp [k8]; done)) (by repeat constructor) fun H33 st => ?_
      refine sE ?_
      show AWl _ _ _ _ _
      iterate 2 refine aN rfl rfl (by constructor) ?_
      refine sE ?_
      refine ⟨_, out1 (r_tmp rfl (by constructor)), ?_⟩
      have hact : o.act = 0 := by simpa using h2
      have st := st.nil 43
      have hfr : frM P n = false := by unfold frM; simp_all
      obtain ⟨e1, e2⟩ := reg4 (P := P) (n := n) hact h3 hfr
      rw [e1, e2]
      exact ⟨o46, none, rfl, .inr (st.sel [1, 2, 0] (by decide))⟩
    ·refine gF rfl (by decide) ?_
     refine gF rfl (by decide) ?_
     refine gF rfl (by decide) ?_
     refine gF rfl (by decide) ?_
     refine gF rfl (by decide) ?_
     refine gF rfl (by decide) ?_
     iterate 2 refine aN rfl rfl (by constructor) ?_
     refine sE ?_
     show AWl _ _ _ _ _
     iterate 2 refine aN rfl rfl (by constructor) ?_
     refine aC (set_call (P := P) (k := 0) (st.get (j := 2) rfl) (st.got 1 rfl).1 (st.got 1 rfl).2 (by omega) (st.ne 1 2 rfl rfl (by decide))) fun v46 H34 ⟨o46, st1⟩ => ?_
     replace st := st.callX 2 rfl st1 rfl
     clear st1
     refine sE ?_
     show AWl _ _ _ _ _
     iterate 2 refine aN rfl rfl (by constructor) ?_
     refine gT rfl ?_
     refine aN rfl rfl (by constructor) ?_
     refine gT rfl ?_
     refine aN rfl rfl (by constructor) ?_
     refine gF rfl (by decide) ?_
     refine gF rfl (by decide) ?_
     refine gF rfl (by decide) ?_
     refine gF rfl (by decide) ?_
     refine gF rfl (by decide) ?_
     refine gF rfl (by decide) ?_
     refine gT rfl ?_
     iterate 2 refine aN rfl rfl (by constructor) ?_
     refine sE ?_
     show AW _ (.cond _ _ _) _ _ _
     refine cF' rfl ?_
     show AWl _ _ _ _ _
     iterate 2 refine aN rfl rfl (by constructor) ?_
     refine aLd st 2 rfl rfl rfl (by constructor) ?_
     iterate 2 refine aN rfl rfl (by constructor) ?_
     refine aSt st 0 rfl rfl rfl rfl (by first | rfl | simp [cellsOf, *]) (by first | decide | (simp [*]; done) | (simp [k8]; done)) (by repeat constructor) fun H35 st => ?_
     refine sE ?_
     show AWl _ _ _ _ _
     iterate 3 refine aN rfl rfl (by constructor) ?_
     refine aLd st 0 rfl rfl rfl (by constructor) ?_
     iterate 3 refine aN rfl rfl (by constructor) ?_
     refine aSt st 0 rfl rfl rfl rfl (by first | rfl | simp [cellsOf, *]) (by first | decide | (simp [*]; done) | (simp [k8]; done)) (by repeat constructor) fun H36 st => ?_
     refine sE ?_
     show AWl _ _ _ _ _
     iterate 2 refine aN rfl rfl (by constructor) ?_
     refine sE ?_
     refine ⟨_, out1 (r_tmp rfl (by constructor)), ?_⟩
     have hact : o.act = 0 := by simpa using h2
     have st := st.nil 43
     have hfr : frM P n = false := by unfold frM; simp_all
     obtain ⟨e1, e2⟩ := reg4 (P := P) (n := n) hact h3 hfr
     rw [e1, e2]
     exact ⟨o46, none, rfl, .inr (st.sel [1, 2, 0] (by decide))⟩
  ·show AWl _ _ _ _ _
   refine aN rfl rfl (by constructor) ?_
   refine aLd st 0 rfl rfl rfl (by constructor) ?_
   refine aBinV (.bool false) rfl rfl (by exact congrArg (fun q => some (Value.bool q)) (show (o.act != 0) = false by simp_all)) ?_
   refine sE ?_
   show AW _ (.cond _ _ _) _ _ _
   refine cF' rfl ?_
   show AWl _ _ _ _ _
   iterate 2 refine aN rfl rfl (by constructor) ?_
   refine aLd st 0 rfl rfl rfl (by constructor) ?_
   iterate 2 refine aN rfl rfl (by constructor) ?_
   refine aSt st 2 rfl rfl rfl rfl (by first | rfl | simp [cellsOf, *]) (by first | decide | (simp [*]; done) | (simp [k8]; done)) (by repeat constructor) fun H37 st => ?_
   refine sE ?_
   show AWl _ _ _ _ _
   iterate 3 refine aN rfl rfl (by constructor) ?_
   refine aLd st 2 rfl rfl rfl (by constructor) ?_
   iterate 3 refine aN rfl rfl (by constructor) ?_
   refine aSt st 2 rfl rfl rfl rfl (by first | rfl | simp [cellsOf, *]) (by first | decide | (simp [*]; done) | (simp [k8]; done)) (by repeat constructor) fun H38 st => ?_
   refine sE ?_
   show AWl _ _ _ _ _
   iterate 2 refine aN rfl rfl (by constructor) ?_
   refine sE ?_
   refine ⟨_, out1 (r_tmp rfl (by constructor)), ?_⟩
   have hact : o.act = 0 := by simpa using h2
   have st := st.nil 43
   obtain ⟨e1, e2⟩ := reg2 (P := P) (n := n) hact h3
   rw [e1, e2]
   exact ⟨ob, none, rfl, .inl ⟨rfl, rfl, st.sel [3, 0] (by decide)⟩⟩
 ·refine gF rfl (by decide) ?_
  refine aN rfl rfl (by constructor) ?_
  refine sE ?_
  show AW _ (.cond _ _ _) _ _ _
  refine cF' rfl ?_
  show AWl _ _ _ _ _
  refine aN rfl rfl (by constructor) ?_
  refine aLd st 0 rfl rfl rfl (by constructor) ?_
  refine aBinV (.bool true) rfl rfl (by exact congrArg (fun q => some (Value.bool q)) (show (o.act != 0) = true by simp_all)) ?_
  refine sE ?_
  show AW _ (.cond _ _ _) _ _ _
  refine cT rfl ?_
  show AWl _ _ _ _ _
  iterate 3 refine aN rfl rfl (by constructor) ?_
  refine aLd st 0 rfl rfl rfl (by constructor) ?_
  refine aC (set_call (P := P) (k := o.act) (st.get (j := 2) rfl) (st.got 1 rfl).1 (st.got 1 rfl).2 (by omega) (st.ne 1 2 rfl rfl (by decide))) fun v69 H39 ⟨o69, st1⟩ => ?_
  replace st := st.callX 2 rfl st1 rfl
  clear st1
  refine sE ?_
  show AWl _ _ _ _ _
  iterate 2 refine aN rfl rfl (by constructor) ?_
  refine aLd st 2 rfl rfl rfl (by constructor) ?_
  iterate 2 refine aN rfl rfl (by constructor) ?_
  refine aSt st 0 rfl rfl rfl rfl (by first | rfl | simp [cellsOf, *]) (by first | decide | (simp [*]; done) | (simp [k8]; done)) (by repeat constructor) fun H40 st => ?_
  refine sE ?_
  show AWl _ _ _ _ _
  iterate 3 refine aN rfl rfl (by constructor) ?_
  refine aLd st 0 rfl rfl rfl (by constructor) ?_
  iterate 3 refine aN rfl rfl (by constructor) ?_
  refine aSt st 0 rfl rfl rfl rfl (by first | rfl | simp [cellsOf, *]) (by first | decide | (simp [*]; done) | (simp [k8]; done)) (by repeat constructor) fun H41 st => ?_
  refine sE ?_
  show AWl _ _ _ _ _
  iterate 2 refine aN rfl rfl (by constructor) ?_
  refine sE ?_
  refine ⟨_, out1 (r_tmp rfl (by constructor)), ?_⟩
  have hact : o.act ≠ 0 := by simpa using h2
  have st := st.nil 43
  obtain ⟨e1, e2⟩ := reg1 (P := P) (n := n) (known := known) hact
  rw [e1, e2]
  exact ⟨o69, none, rfl, .inr (st.sel [1, 2, 0] (by decide))⟩
end Go.Proofs.Ytihkghfmihdicaa.Abs
