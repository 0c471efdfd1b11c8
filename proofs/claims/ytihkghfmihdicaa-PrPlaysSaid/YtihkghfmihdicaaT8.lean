/- Reservations: what lasts, as bytes. -/
import Derived.Test.YtihkghfmihdicaaT7
import Derived.Test.YtihkghfmihdicaaS4
set_option linter.unusedVariables false
set_option linter.unusedSimpArgs false
set_option maxRecDepth 100000
namespace Go.Proofs.Ytihkghfmihdicaa.Abs
open Go Go.RowKit
theorem flatB_step {l : List (Int × Int)} {j : Nat} (h : j < l.length) : (l.take j).flatMap regB ++ regB (l.getD j (0, 0)) = (l.take (j + 1)).flatMap regB := by
  rw [List.take_succ_eq_append_getElem h, List.flatMap_append]
  simp [List.getD, List.getElem?_eq_getElem h]
theorem save_len (P : PT) {j : Nat} (hj : j ≤ P.regs.length) : ([80, 82, (reservedM P).1, IntKind.u8.wrap (reservedM P).2, IntKind.u8.wrap P.regs.length] ++ (P.regs.take j).flatMap regB).length = 5 + 9 * j := by
  rw [List.length_append, flatB_len, List.length_take]
  simp only [List.length_cons, List.length_nil]
  omega
theorem save_call {H : Hp} {b : Nat} {x : Value} {P : PT} (hk : H.m b = some ⟨true, 79, [x, .int .u32 P.gen, .int .u8 P.kind, .int .i64 P.holder, .bool P.aptpl]⟩) (hS : Sl H 2 P.regs.length (P.regs.flatMap regE) x) (hn : P.regs.length ≤ 1000) (hkr : ∀ r ∈ P.regs, 0 ≤ r.2 ∧ r.2 < 18446744073709551616) :
  ACalls Try.prog 22 [.pointer (some ⟨b, 0, none⟩)] H (fun v H' => ∃ oc, v = accV oc (saveM P).length 1 ∧ Stt [] H H' [⟨oc, true, ⟨true, 5, (saveM P).map (Value.int .u8)⟩⟩]) := by
 refine acallsW Try.func22 f22_ok (Nat.le_of_ble_eq_true rfl) fun hw => ?_
 have st : Stt [] H H [] := Stt.start hw
 replace st := st.ro hk (by simp)
 unfold f22c
 show AWl _ _ _ _ _
 refine aN rfl rfl (by constructor) ?_
 refine sE ?_
 show AWl _ _ _ _ _
 refine aN rfl rfl (by constructor) ?_
 refine aBinV (.bool false) rfl rfl rfl ?_
 refine aN rfl rfl (by constructor) ?_
 refine gT rfl ?_
 refine aN rfl rfl (by constructor) ?_
 refine gT rfl ?_
 refine aN rfl rfl (by constructor) ?_
 refine gT rfl ?_
 refine aN rfl rfl (by constructor) ?_
 refine gT rfl ?_
 refine aLd st 0 rfl rfl rfl (by constructor) ?_
 refine gT rfl ?_
 iterate 2 refine aN rfl rfl (by constructor) ?_
 refine sE ?_
 show AW _ (.cond _ _ _) _ _ _
 refine cC' rfl (fun h1 => ?_) (fun h1 => ?_)
 ·have h1q := h1; try simp only [decide_eq_true_eq, decide_eq_false_iff_not, beq_iff_eq, beq_eq_false_iff_ne, bne_iff_ne, bne_eq_false_iff_eq, ne_eq, Decidable.not_not, Bool.not_eq_true, Bool.not_eq_false, gt_iff_lt, ge_iff_le, Int.not_lt, Int.not_le] at h1q
  have h1n : P.aptpl = false := Eq.mp (Bool.not_eq_true' _) h1
  show AWl _ _ _ _ _
  refine aN rfl rfl (by constructor) ?_
  refine sE ?_
  refine ⟨_, out1 (r_tmp rfl (by constructor)), ?_⟩
  have hf : P.aptpl = false := by simp_all
  exact ⟨none, by rw [show saveM P = [] from if_pos hf]; rfl, by rw [show saveM P = [] from if_pos hf]; exact (st.nil 5).pick 0 rfl⟩
 ·have h1q := h1; try simp only [decide_eq_true_eq, decide_eq_false_iff_not, beq_iff_eq, beq_eq_false_iff_ne, bne_iff_ne, bne_eq_false_iff_eq, ne_eq, Decidable.not_not, Bool.not_eq_true, Bool.not_eq_false, gt_iff_lt, ge_iff_le, Int.not_lt, Int.not_le] at h1q
  have h1n : P.aptpl = true := Eq.mp (Bool.not_eq_false' _) h1
  show AWl _ _ _ _ _
  refine aN rfl rfl (by constructor) ?_
  refine aC (reserved_call (P := P) (st.frm0.2 _ (hw _ _ hk) ▸ hk) (st.slc hS) hn) fun v21 H2 ⟨hv, st1⟩ => ?_
  subst hv
  replace st := st.call st1 rfl
  clear st1
  iterate 5 refine aN rfl rfl (by constructor) ?_
  refine sE ?_
  show AWl _ _ _ _ _
  iterate 6 refine aN rfl rfl (by constructor) ?_
  refine aLdQ st 0 rfl rfl rfl (rfl : x = _) ?_
  refine aLen (st.slc hS) rfl ?_
  refine aN rfl rfl (by constructor) ?_
  refine aLit st rfl (by repeat constructor) fun b33 H3 st => ?_
  refine aN rfl rfl (by constructor) ?_
  refine sE ?_
  show AWl _ _ _ _ _
  iterate 3 refine aN rfl rfl (by constructor) ?_
  refine aLdQ st 1 rfl rfl rfl (rfl : x = _) ?_
  refine aLen (st.slc hS) rfl ?_
  refine aN rfl rfl (by constructor) ?_
  refine sE ?_
  show AW _ (.loop _) _ _ _
  have st := st.toI 0 rfl rfl (by repeat constructor)
  refine AW_loopN (fun m t1 H1 => ∃ (j : Nat) (c : Nat), m = P.regs.length - j ∧ (j ≤ P.regs.length) ∧ t1 39 = .int .i64 (j : Int) ∧ t1 5 = .slice (some ⟨c, 0, none⟩) (5 + 9 * j) 1 ∧ Stt [] H H1 [⟨some c, true, ⟨true, 5, ([80, 82, (reservedM P).1, IntKind.u8.wrap (reservedM P).2, IntKind.u8.wrap P.regs.length] ++ (P.regs.take j).flatMap regB).map (Value.int .u8)⟩⟩]) (P.regs.length - 0) ⟨0, b33, rfl, by omega, rfl, rfl, (by have st2 := (st.sel [0] (by decide)); exact st2)⟩ [5, 7, 8, 9, 39, 40, 41, 42, 43, 44, 45, 46, 47, 48, 49, 50, 51, 52, 53, 54, 55, 56, 57, 58] (by decide) ?_
  rintro m t1 H1 hk hI
  obtain ⟨j, c, rfl, hj, ht39, ht5, st⟩ := hI
  obtain ⟨u, rfl⟩ : ∃ u, t1 = (upd (upd (mix [5, 7, 8, 9, 39, 40, 41, 42, 43, 44, 45, 46, 47, 48, 49, 50, 51, 52, 53, 54, 55, 56, 57, 58] _ u) (some 39) _) (some 5) _) := ⟨t1, by rw [← hk, upd_self ht39, upd_self ht5]⟩
  clear hk ht39 ht5
  show AWl _ _ _ _ _
  refine aN rfl rfl (by constructor) ?_
  refine sE ?_
  show AW _ (.cond _ _ _) _ _ _
  refine cC' rfl (fun h4 => ?_) (fun h4 => ?_)
  ·have h4q := h4; try simp only [decide_eq_true_eq, decide_eq_false_iff_not, beq_iff_eq, beq_eq_false_iff_ne, bne_iff_ne, bne_eq_false_iff_eq, ne_eq, Decidable.not_not, Bool.not_eq_true, Bool.not_eq_false, gt_iff_lt, ge_iff_le, Int.not_lt, Int.not_le] at h4q
   have hlt : j < P.regs.length := by have := of_decide_eq_true h4; omega
   have hk8 := hkr _ (getD_mem' (d := (0, 0)) hlt)
   show AWl _ _ _ _ _
   refine aIxE regE_len (0, 0) (l := P.regs) (st.slc hS) rfl rfl (by omega) fun b41 o41 g41 => ?_
   refine aLdAG rfl g41 ?_
   refine aNewP st rfl rfl (by repeat constructor) fun b7 H5 st => ?_
   refine aSt st 0 rfl rfl rfl rfl (by first | rfl | simp [cellsOf, *]) (by first | decide | (simp [*]; done) | (simp [k8]; done)) (by repeat constructor) fun H6 st => ?_
   refine sE ?_
   show AWp _ _ _ _ _
   refine aN rfl rfl (by constructor) ?_
   refine aLd st 0 rfl rfl rfl (by constructor) ?_
   refine ⟨?_, trivial⟩
   refine aNewS st rfl rfl (by repeat constructor) fun b44 H7 st => ?_
   refine ⟨⟨(h_Ld st 1 rfl rfl rfl (by constructor)), trivial⟩, ?_⟩
   refine ⟨?_, trivial⟩
   have st := st.toI 0 rfl rfl (by repeat constructor)
   refine aC (put_call (v := (P.regs.getD j (0, 0)).2) (st.rowAll 0 rfl rfl) (by simp only [byteL_cons, byteL_nil, and_true]; decide) (by decide) (by decide) (by rw [show (256 : Int) ^ (8 : Int).toNat = 18446744073709551616 by decide]; exact hk8)) fun v47 H8 ⟨b47, hv, st1⟩ => ?_
   subst hv
   replace st := st.call st1 rfl
   clear st1
   rw [show ([0, 0, 0, 0, 0, 0, 0, 0, 0] : List Int).length = 9 from rfl]
   have st := st.recell 0 rfl (cs' := (0 :: beB 8 (P.regs.getD j (0, 0)).2).map (Value.int .u8)) rfl
   refine ⟨trivial, ?_⟩
   iterate 5 refine aN rfl rfl (by constructor) ?_
   refine pE ?_
   show AWl _ _ _ _ _
   iterate 2 refine aN rfl rfl (by constructor) ?_
   refine aLd st 2 rfl rfl rfl (by constructor) ?_
   iterate 2 refine aN rfl rfl (by constructor) ?_
   refine aStAt (cs := (regB (P.regs.getD j (0, 0))).map (Value.int .u8)) st 0 rfl rfl rfl rfl rfl (by simp [beB_len]) rfl fun H9 st => ?_
   refine sE ?_
   show AWl _ _ _ _ _
   iterate 2 refine aN rfl rfl (by constructor) ?_
   refine aAppP st 3 (ob := some c) rfl rfl rfl (by decide) (by rw [List.length_map, save_len P (by omega), Nat.mul_one]) (st.rowAll 0 rfl (by simp [regB_len])).src (by simp [regB_len]) (by omega) (by omega) (by omega) (NfL.any _) fun b57 H10 st => ?_
   have st := st.recell 3 rfl (cs' := ([80, 82, (reservedM P).1, IntKind.u8.wrap (reservedM P).2, IntKind.u8.wrap P.regs.length] ++ (P.regs.take (j + 1)).flatMap regB).map (Value.int .u8)) (by rw [← List.map_append, List.append_assoc, flatB_step hlt])
   refine aN rfl rfl (by constructor) ?_
   refine sE ?_
   show AWl _ _ _ _ _
   iterate 2 refine aN rfl rfl (by constructor) ?_
   refine sE ?_
   exact ⟨_, by omega, j + 1, b57, rfl, by omega, congrArg (Value.int .i64) (wi _ (by omega)), congrArg (fun n => Value.slice _ n 1) (by omega), (st.sel [3] (by decide))⟩
  ·have h4q := h4; try simp only [decide_eq_true_eq, decide_eq_false_iff_not, beq_iff_eq, beq_eq_false_iff_ne, bne_iff_ne, bne_eq_false_iff_eq, ne_eq, Decidable.not_not, Bool.not_eq_true, Bool.not_eq_false, gt_iff_lt, ge_iff_le, Int.not_lt, Int.not_le] at h4q
   have hge : j = P.regs.length := by have := of_decide_eq_false h4; omega
   subst hge
   show AWl _ _ _ _ _
   iterate 2 refine aN rfl rfl (by constructor) ?_
   refine sE ?_
   refine ⟨_, out1 (r_tmp rfl (by constructor)), ?_⟩
   have ht : ¬ P.aptpl = false := by simp_all
   have e1 : saveM P = ([80, 82, (reservedM P).1, IntKind.u8.wrap (reservedM P).2, IntKind.u8.wrap P.regs.length] ++ (P.regs.take P.regs.length).flatMap regB) := by rw [List.take_length]; exact if_neg ht
   exact ⟨some c, by rw [e1, save_len P (Nat.le_refl _)]; rfl, by rw [e1]; exact st.pick 0 rfl⟩
end Go.Proofs.Ytihkghfmihdicaa.Abs
