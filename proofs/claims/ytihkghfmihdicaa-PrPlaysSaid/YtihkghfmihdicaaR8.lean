/- PrPlays. -/
import Derived.Test.YtihkghfmihdicaaX8
import Derived.Test.YtihkghfmihdicaaX5
import Derived.Test.YtihkghfmihdicaaTM
set_option linter.unusedVariables false
set_option linter.unusedSimpArgs false
set_option maxRecDepth 100000
namespace Go.Proofs.Ytihkghfmihdicaa.Abs
open Go Go.RowKit
theorem save_short {P : PT} (h : WFT P) : (saveM P).length ≤ 1000 := by
  have h8 := h.len
  rcases ha : P.aptpl with _ | _
  · unfold saveM; rw [if_pos ha]; decide
  · rw [save_length h ha]; omega
theorem again {P : PT} (h : WFT P) : ∃ Q, loadM (saveM P) = some Q ∧ WFT Q := by
  rcases ha : P.aptpl with _ | _
  · exact ⟨PT0, lm0 (by unfold saveM; rw [if_pos ha]; rfl), PT0_wf⟩
  · exact ⟨normP P, load_save h ha, norm_wf h⟩
theorem free_short {P : PT} {n : Int} : (freeE P n).length ≤ P.regs.length := by
  unfold freeE
  split
  · rw [List.length_map]; exact List.length_filter_le _ _
  · exact Nat.zero_le _
theorem ev_short {P : PT} (h : P.regs.length ≤ 8) {n : Int} {o : POut} : (doM P n o).ev.length ≤ 17 := by
  refine do_ind (p := fun R => R.ev.length ≤ 17) (fun _ _ _ => Nat.zero_le _) (fun k => ?_) (Nat.zero_le _) (Nat.le_trans free_short (by omega)) ?_ (fun T => ?_)
  · show (registerE P n o k).length ≤ 17
    unfold registerE
    split
    · have h1 := setM_len P.regs n 0
      exact Nat.le_trans free_short (by show (setM P.regs n 0).length ≤ 17; omega)
    · exact Nat.zero_le _
  · show (clearE P n).length ≤ 17
    unfold clearE
    rw [List.length_map]
    exact Nat.le_trans (List.length_filter_le _ _) (by omega)
  · show (goneE P n o ++ relE P n o).length ≤ 17
    have h1 : (goneE P n o).length ≤ P.regs.length := by unfold goneE; rw [List.length_map]; exact List.length_filter_le _ _
    have h2 : (relE P n o).length ≤ P.regs.length := by
      unfold relE
      split
      · rw [List.length_map]
        exact Nat.le_trans (List.length_filter_le _ _) (List.length_filter_le _ _)
      · exact Nat.zero_le _
    rw [List.length_append]
    omega
theorem plays_call {H : Hp} {xs : List PAct} {x : Value} (hs : Sl H 7 xs.length (xs.flatMap actE) x) (hsw : ∀ a ∈ xs, a.ok) (hl : xs.length ≤ 140737488351232) :
  ACalls Try.prog 9 [x] H (fun v _ => v = .bool true) := by
 refine acallsW Try.func9 f9_ok (Nat.le_of_ble_eq_true rfl) fun hw => ?_
 have st : Stt [] H H [] := Stt.start hw
 unfold f9c
 show AWl _ _ _ _ _
 refine aN rfl rfl (by constructor) ?_
 refine sE ?_
 show AWl _ _ _ _ _
 refine aC (awake_call) fun v18 H1 ⟨hv, st1⟩ => ?_
 subst hv
 replace st := st.call st1 rfl
 clear st1
 iterate 3 refine aN rfl rfl (by constructor) ?_
 refine sE ?_
 show AW _ (.cond _ _ _) _ _ _
 refine cF' rfl ?_
 show AWl _ _ _ _ _
 refine aC (new_call) fun v22 H2 ⟨b22, hv, st1⟩ => ?_
 subst hv
 replace st := st.call st1 rfl
 clear st1
 have st := st.nil 30
 refine aN rfl rfl (by constructor) ?_
 refine sE ?_
 show AWl _ _ _ _ _
 refine aBld rfl (by repeat constructor) ?_
 refine aBoxN st rfl rfl (by repeat constructor) rfl fun b24 H3 st => ?_
 refine aN rfl rfl (by constructor) ?_
 refine sE ?_
 show AWl _ _ _ _ _
 refine aN rfl rfl (by constructor) ?_
 refine sE ?_
 show AW _ (.loop _) _ _ _
 refine AW_loopN (fun m t1 H1 => ∃ (j : Nat) (X : XT) (hh : Int) (b : Nat) (ob : Option Nat) (bx : Nat), m = xs.length - j ∧ (j ≤ xs.length) ∧ (XOK X) ∧ (WFT (PX X hh)) ∧ (Rel X hh) ∧ t1 5 = .int .i64 (j : Int) ∧ t1 3 = .pointer (some ⟨b, 0, none⟩) ∧ t1 4 = .pointer (some ⟨bx, 0, none⟩) ∧ Stt [] H H1 [⟨some b, true, ⟨true, 79, [accV ob (PX X hh).regs.length 2, .int .u32 (PX X hh).gen, .int .u8 (PX X hh).kind, .int .i64 (PX X hh).holder, .bool (PX X hh).aptpl]⟩⟩, ⟨ob, true, ⟨true, 30, ((PX X hh).regs).flatMap regE⟩⟩, ⟨some bx, true, ⟨true, 65, k8 X.ks [.int .i64 X.kd, .int .i64 X.hd, .int .u32 X.gen, .bool X.ls]⟩⟩]) (xs.length - 0) ⟨0, X00, (-1), b22, none, b24, rfl, by omega, x00_ok, PT0_wf, x00_rel, rfl, rfl, rfl, (st.sel [2, 1, 0] (by decide))⟩ [2, 3, 4, 5, 6, 7, 8, 9, 10, 11, 12, 13, 14, 15, 16, 17, 25, 26, 27, 28, 29, 30, 31, 32, 33, 34, 35, 36, 37, 38, 39, 40, 41, 42, 43, 44, 45, 46, 47, 48, 49, 50, 51, 52, 53, 54, 55, 56, 57, 58, 59, 60, 61, 62, 63, 64, 65, 66, 67, 68, 69, 70, 71, 72, 73, 74, 75, 76, 77, 78, 79, 80, 81, 82, 83, 84, 85, 86, 87, 88, 89, 90, 91, 92, 93, 94, 95, 96, 97, 98, 99, 100, 101, 102, 103, 104, 105, 106, 107, 108, 109, 110, 111, 112, 113, 114, 115, 116, 117, 118, 119, 120, 121, 122, 123, 124, 125, 126, 127, 128, 129, 130, 131, 132, 133, 134, 135, 136, 137, 138, 139, 140, 141, 142, 143, 144, 145, 146, 147, 148, 149, 150, 151, 152, 153, 154, 155, 156, 157, 158] (by decide) ?_
 rintro m t1 H1 hk hI
 obtain ⟨j, X, hh, b, ob, bx, rfl, hj, hX, hW, hrel, ht5, ht3, ht4, st⟩ := hI
 obtain ⟨u, rfl⟩ : ∃ u, t1 = (upd (upd (upd (mix [2, 3, 4, 5, 6, 7, 8, 9, 10, 11, 12, 13, 14, 15, 16, 17, 25, 26, 27, 28, 29, 30, 31, 32, 33, 34, 35, 36, 37, 38, 39, 40, 41, 42, 43, 44, 45, 46, 47, 48, 49, 50, 51, 52, 53, 54, 55, 56, 57, 58, 59, 60, 61, 62, 63, 64, 65, 66, 67, 68, 69, 70, 71, 72, 73, 74, 75, 76, 77, 78, 79, 80, 81, 82, 83, 84, 85, 86, 87, 88, 89, 90, 91, 92, 93, 94, 95, 96, 97, 98, 99, 100, 101, 102, 103, 104, 105, 106, 107, 108, 109, 110, 111, 112, 113, 114, 115, 116, 117, 118, 119, 120, 121, 122, 123, 124, 125, 126, 127, 128, 129, 130, 131, 132, 133, 134, 135, 136, 137, 138, 139, 140, 141, 142, 143, 144, 145, 146, 147, 148, 149, 150, 151, 152, 153, 154, 155, 156, 157, 158] _ u) (some 5) _) (some 3) _) (some 4) _) := ⟨t1, by rw [← hk, upd_self ht5, upd_self ht3, upd_self ht4]⟩
 clear hk ht5 ht3 ht4
 show AWl _ _ _ _ _
 refine aN rfl rfl (by constructor) ?_
 refine aMovV x rfl ?_
 refine aLen (st.slc hs) rfl ?_
 iterate 2 refine aN rfl rfl (by constructor) ?_
 refine gCase 29 rfl (fun h4 => ?_) (fun h4 => ?_)
 ·have h4q := h4; try simp only [decide_eq_true_eq, decide_eq_false_iff_not, beq_iff_eq, beq_eq_false_iff_ne, bne_iff_ne, bne_eq_false_iff_eq, ne_eq, Decidable.not_not, Bool.not_eq_true, Bool.not_eq_false, gt_iff_lt, ge_iff_le, Int.not_lt, Int.not_le] at h4q
  refine gT rfl ?_
  refine aN rfl rfl (by constructor) ?_
  refine gT rfl ?_
  iterate 2 refine aN rfl rfl (by constructor) ?_
  refine sE ?_
  show AW _ (.cond _ _ _) _ _ _
  refine cC' rfl (fun h5 => ?_) (fun h5 => ?_)
  ·have h5q := h5; try simp only [decide_eq_true_eq, decide_eq_false_iff_not, beq_iff_eq, beq_eq_false_iff_ne, bne_iff_ne, bne_eq_false_iff_eq, ne_eq, Decidable.not_not, Bool.not_eq_true, Bool.not_eq_false, gt_iff_lt, ge_iff_le, Int.not_lt, Int.not_le] at h5q
   have hlt : j < xs.length := by omega
   have hwj := hsw _ (getD_mem' (d := act0) hlt)
   have hl8 : (PX X hh).regs.length ≤ 8 := xrTo_len X.ks 8
   show AWl _ _ _ _ _
   refine aMovV x rfl ?_
   refine aN rfl rfl (by constructor) ?_
   refine aIxEK actE_len act0 (l := xs) (st.slc hs) rfl rfl (by omega) fun b37 o37 g37 => ?_
   refine aN rfl rfl (by constructor) ?_
   refine aLdPA (g37 _ (st.slc hs)) 1 rfl (by decide) (by repeat constructor) ?_
   refine aNewP st rfl rfl (by repeat constructor) fun b6 H6 st => ?_
   refine aSt st 0 rfl rfl rfl rfl (by first | rfl | simp [cellsOf, *]) (by first | decide | (simp [*]; done) | (simp [k8]; done)) (by repeat constructor) fun H7 st => ?_
   refine sE ?_
   refine AW_cutK (b := .seq (.plan _) _) (fun t1 H1 => ∃ (X1 : XT) (hh1 : Int) (b1 : Nat) (ob1 : Option Nat) (bx1 : Nat) (b6 : Nat), (XOK X1) ∧ (WFT (PX X1 hh1)) ∧ (Rel X1 hh1) ∧ t1 3 = .pointer (some ⟨b1, 0, none⟩) ∧ t1 4 = .pointer (some ⟨bx1, 0, none⟩) ∧ t1 6 = .pointer (some ⟨b6, 0, none⟩) ∧ Stt [] H H1 [⟨some b1, true, ⟨true, 79, [accV ob1 (PX X1 hh1).regs.length 2, .int .u32 (PX X1 hh1).gen, .int .u8 (PX X1 hh1).kind, .int .i64 (PX X1 hh1).holder, .bool (PX X1 hh1).aptpl]⟩⟩, ⟨ob1, true, ⟨true, 30, ((PX X1 hh1).regs).flatMap regE⟩⟩, ⟨some bx1, true, ⟨true, 65, k8 X1.ks [.int .i64 X1.kd, .int .i64 X1.hd, .int .u32 X1.gen, .bool X1.ls]⟩⟩, ⟨some b6, true, ⟨true, 39, [.int .u8 (xs.getD j act0).o.sv, .int .u8 (xs.getD j act0).o.ty, .int .u64 (xs.getD j act0).o.key, .int .u64 (xs.getD j act0).o.act, .bool (xs.getD j act0).o.ap]⟩⟩]) [2, 3, 4, 7, 8, 9, 10, 40, 41, 42, 43, 44, 45, 46, 47, 48, 49, 50, 51, 52, 53, 54, 55, 56, 57, 58, 59, 60, 61, 62, 63, 64, 65, 66, 67, 68] (by decide) ?_ fun t1 H1 hk hI => ?_
   ·show AWl _ _ _ _ _
    refine aMovV x rfl ?_
    refine aN rfl rfl (by constructor) ?_
    refine aIxEK actE_len act0 (l := xs) (st.slc hs) rfl rfl (by omega) fun b42 o42 g42 => ?_
    refine aN rfl rfl (by constructor) ?_
    refine aLdP (g42 _ (st.slc hs)) 6 rfl rfl (by constructor) (by decide) ?_
    refine sE ?_
    show AW _ (.cond _ _ _) _ _ _
    refine cC' rfl (fun h8 => ?_) (fun h8 => ?_)
    ·have h8q := h8; try simp only [decide_eq_true_eq, decide_eq_false_iff_not, beq_iff_eq, beq_eq_false_iff_ne, bne_iff_ne, bne_eq_false_iff_eq, ne_eq, Decidable.not_not, Bool.not_eq_true, Bool.not_eq_false, gt_iff_lt, ge_iff_le, Int.not_lt, Int.not_le] at h8q
     show AWl _ _ _ _ _
     refine aN rfl rfl (by constructor) ?_
     refine aC (save_call (P := (PX X hh)) (st.get (j := 1) rfl) (st.rowAcc 2 rfl (by decide) (flat_len' regE_len _)) (by omega) (xr_keys hX)) fun v47 H9 ⟨oc47, hv, st1⟩ => ?_
     subst hv
     replace st := st.call st1 rfl
     clear st1
     rw [rel_save hrel] at st ⊢
     have hsb := save_bytes hW; have hss := save_short hW; obtain ⟨Q, hQ, hQW⟩ := again hW
     rw [rel_save hrel] at hsb hss hQ
     refine aC (load_call (p := saveM (xpt X)) (st.rowAcc 0 rfl (by decide) (by simp)) hsb (by omega)) fun v48 H10 hL48 => ?_
     obtain ⟨P, b1, ob1, e1, hv, st1⟩ := hL48.resolve_left (fun h => by rw [hQ] at h; cases h.1)
     obtain rfl := Option.some.inj (hQ.symm.trans e1)
     subst hv
     replace st := st.call st1 rfl
     clear st1
     iterate 5 refine aN rfl rfl (by constructor) ?_
     refine sE ?_
     show AWl _ _ _ _ _
     refine aN rfl rfl (by constructor) ?_
     refine aC (xsave_call (X := X) (st.get (j := 6) rfl) hX.kd) fun v53 H11 ⟨oc53, hv, st1⟩ => ?_
     subst hv
     replace st := st.call st1 rfl
     clear st1
     refine aC (xload_call (p := saveM (xpt X)) (st.rowAcc 0 rfl (by decide) (by simp)) hsb (by omega)) fun v54 H12 hL54 => ?_
     obtain ⟨X1, hh1, bx1, e2, hrel1, hX1, hv, st1⟩ := hL54.resolve_left (fun h => by rw [hQ] at h; cases h.1)
     obtain rfl := Option.some.inj (hQ.symm.trans e2)
     subst hv
     replace st := st.call st1 rfl
     clear st1
     iterate 5 refine aN rfl rfl (by constructor) ?_
     refine sE ?_
     show AWl _ _ _ _ _
     refine aN rfl rfl (by constructor) ?_
     refine aBinV (.bool false) rfl rfl rfl ?_
     refine aN rfl rfl (by constructor) ?_
     refine gT rfl ?_
     refine aN rfl rfl (by constructor) ?_
     refine gT rfl ?_
     refine aBinV (.bool false) rfl rfl rfl ?_
     iterate 2 refine aN rfl rfl (by constructor) ?_
     refine gT rfl ?_
     refine aN rfl rfl (by constructor) ?_
     refine gT rfl ?_
     refine aBinV (.bool false) rfl rfl rfl ?_
     refine aN rfl rfl (by constructor) ?_
     refine sE ?_
     show AW _ (.cond _ _ _) _ _ _
     refine cF' rfl ?_
     show AWl _ _ _ _ _
     iterate 2 refine aN rfl rfl (by constructor) ?_
     refine sE ?_
     show AWl _ _ _ _ _
     iterate 2 refine aN rfl rfl (by constructor) ?_
     refine sE ?_
     exact ⟨X1, hh1, b1, ob1, bx1, b6, hX1, hQW, hrel1, rfl, rfl, rfl, (st.sel [2, 3, 0, 5] (by decide))⟩
    ·have h8q := h8; try simp only [decide_eq_true_eq, decide_eq_false_iff_not, beq_iff_eq, beq_eq_false_iff_ne, bne_iff_ne, bne_eq_false_iff_eq, ne_eq, Decidable.not_not, Bool.not_eq_true, Bool.not_eq_false, gt_iff_lt, ge_iff_le, Int.not_lt, Int.not_le] at h8q
     exact ⟨X, hh, b, ob, bx, b6, hX, hW, hrel, rfl, rfl, rfl, (st.sel [1, 2, 3, 0] (by decide))⟩
   ·obtain ⟨X1, hh1, b1, ob1, bx1, b6, hX1, hW1, hrel1, ht3, ht4, ht6, st⟩ := hI
    obtain ⟨u, rfl⟩ : ∃ u, t1 = (upd (upd (upd (mix [2, 3, 4, 7, 8, 9, 10, 40, 41, 42, 43, 44, 45, 46, 47, 48, 49, 50, 51, 52, 53, 54, 55, 56, 57, 58, 59, 60, 61, 62, 63, 64, 65, 66, 67, 68] _ u) (some 3) _) (some 4) _) (some 6) _) := ⟨t1, by rw [← hk, upd_self ht3, upd_self ht4, upd_self ht6]⟩
    clear hk ht3 ht4 ht6
    show AWp _ _ _ _ _
    refine aN rfl rfl (by constructor) ?_
    refine aMovV x rfl ?_
    refine aN rfl rfl (by constructor) ?_
    refine aIxEK actE_len act0 (l := xs) (st.slc hs) rfl rfl (by omega) fun b73 o73 g73 => ?_
    refine aN rfl rfl (by constructor) ?_
    refine aLdP (g73 _ (st.slc hs)) 0 rfl rfl (by constructor) (by decide) ?_
    refine aLdA st 3 rfl rfl (by first | decide | simp [*]) (by repeat constructor) ?_
    refine ⟨?_, trivial⟩
    have hl9 : (PX X1 hh1).regs.length ≤ 8 := xrTo_len X1.ks 8
    replace st := st.sel [0, 1, 2, 3] (by decide)
    refine aC (do_call (P := (PX X1 hh1)) (n := (xs.getD j act0).n) (o := (xs.getD j act0).o) (st.get (j := 0) rfl) (st.got 1 rfl).1 (st.got 1 rfl).2 (by omega) (st.ne 1 0 rfl rfl (by decide))) fun v77 H13 ⟨o77, e77, hv, hc⟩ => ?_
    subst hv
    replace st := st.tabCall (kr' := ⟨true, 30, (((doM (PX X1 hh1) (xs.getD j act0).n (xs.getD j act0).o).tab).regs).flatMap regE⟩) rfl (hc.imp (fun ⟨a, b, c⟩ => ⟨a, congrArg (fun l : List (Int × Int) => (⟨true, 30, l.flatMap regE⟩ : Blk)) b, c⟩) id)
    clear hc
    refine ⟨trivial, ?_⟩
    iterate 3 refine aN rfl rfl (by constructor) ?_
    refine aExtA rfl rfl ?_
    iterate 2 refine aN rfl rfl (by constructor) ?_
    refine aMovA rfl ?_
    refine pE ?_
    show AWp _ _ _ _ _
    refine aN rfl rfl (by constructor) ?_
    refine aMovV x rfl ?_
    refine aN rfl rfl (by constructor) ?_
    refine aIxEK actE_len act0 (l := xs) (st.slc hs) rfl rfl (by omega) fun b85 o85 g85 => ?_
    refine aN rfl rfl (by constructor) ?_
    refine aLdP (g85 _ (st.slc hs)) 0 rfl rfl (by constructor) (by decide) ?_
    refine aN rfl rfl (by constructor) ?_
    refine aLd st 4 rfl rfl rfl (by constructor) ?_
    refine aConvV (n' := (xs.getD j act0).o.sv) rfl (by have h1 := hwj.1; have h2 := hwj.2.1; exact wi (xs.getD j act0).o.sv (by omega)) ?_
    refine aN rfl rfl (by constructor) ?_
    refine aLd st 4 rfl rfl rfl (by constructor) ?_
    refine aConvV (n' := (xs.getD j act0).o.ty) rfl (by have h1 := hwj.1; have h2 := hwj.2.1; exact wi (xs.getD j act0).o.ty (by omega)) ?_
    refine aN rfl rfl (by constructor) ?_
    refine aLd st 4 rfl rfl rfl (by constructor) ?_
    refine aN rfl rfl (by constructor) ?_
    refine aLd st 4 rfl rfl rfl (by constructor) ?_
    refine aN rfl rfl (by constructor) ?_
    refine aLd st 4 rfl rfl rfl (by constructor) ?_
    refine aBld rfl (by repeat constructor) ?_
    refine ⟨?_, trivial⟩
    refine aC (xdo_call (X := X1) (n := (xs.getD j act0).n) (o := (xs.getD j act0).o) (st.get (j := 3) rfl) hX1 hwj.2.2.2.1 hwj.2.1) fun v101 H14 ⟨X2, oe101, hv, hX2, ht2, st1⟩ => ?_
    subst hv
    replace st := st.callX 3 rfl st1 rfl
    clear st1
    obtain ⟨hh2, hR, hrel2⟩ := rel_do hrel1 ht2
    have hW2 : WFT (doM (PX X1 hh1) (xs.getD j act0).n (xs.getD j act0).o).tab := doM_wf hW1 hwj.2.2.2.1
    have est : (doM (PX X1 hh1) (xs.getD j act0).n (xs.getD j act0).o).st = (doM (xpt X1) (xs.getD j act0).n (xs.getD j act0).o).st := by rw [hR]
    have ecode : (doM (PX X1 hh1) (xs.getD j act0).n (xs.getD j act0).o).code = (doM (xpt X1) (xs.getD j act0).n (xs.getD j act0).o).code := by rw [hR]
    have eev : (doM (PX X1 hh1) (xs.getD j act0).n (xs.getD j act0).o).ev = (doM (xpt X1) (xs.getD j act0).n (xs.getD j act0).o).ev := by rw [hR]
    have etab : (doM (PX X1 hh1) (xs.getD j act0).n (xs.getD j act0).o).tab = PX X2 hh2 := by rw [hR]
    rw [eev, etab] at st
    rw [etab] at hW2
    rw [est, ecode, eev]
    have hel : (doM (xpt X1) (xs.getD j act0).n (xs.getD j act0).o).ev.length ≤ 17 := ev_short (xrTo_len X1.ks 8)
    have hst : 0 ≤ (doM (xpt X1) (xs.getD j act0).n (xs.getD j act0).o).st ∧ (doM (xpt X1) (xs.getD j act0).n (xs.getD j act0).o).st < 256 := by rcases ev_codes (P := xpt X1) (n := (xs.getD j act0).n) (o := (xs.getD j act0).o) with h | h | h <;> rw [h] <;> decide
    have hcd := ev_code (P := xpt X1) (n := (xs.getD j act0).n) (o := (xs.getD j act0).o)
    refine ⟨⟨(h_Ld st 5 rfl rfl rfl (by constructor)), (h_Ld st 5 rfl rfl rfl (by constructor)), (h_Ld st 5 rfl rfl rfl (by constructor)), (h_Ld st 5 rfl rfl rfl (by constructor)), (h_Ld st 5 rfl rfl rfl (by constructor)), trivial⟩, ?_⟩
    iterate 3 refine aN rfl rfl (by constructor) ?_
    refine aExtA rfl rfl ?_
    iterate 2 refine aN rfl rfl (by constructor) ?_
    refine aMovA rfl ?_
    refine pE ?_
    show AWl _ _ _ _ _
    refine aN rfl rfl (by constructor) ?_
    refine aConvV (n' := (doM (xpt X1) (xs.getD j act0).n (xs.getD j act0).o).st) rfl (wi _ (by omega)) ?_
    refine aN rfl rfl (by constructor) ?_
    refine aBinV (.bool false) rfl rfl ne_int ?_
    refine aN rfl rfl (by constructor) ?_
    refine gT rfl ?_
    refine aN rfl rfl (by constructor) ?_
    refine gT rfl ?_
    refine aConvV (n' := (doM (xpt X1) (xs.getD j act0).n (xs.getD j act0).o).code) rfl (wi _ (by omega)) ?_
    refine gT rfl ?_
    refine aN rfl rfl (by constructor) ?_
    refine gT rfl ?_
    refine aBinV (.bool false) rfl rfl ne_int ?_
    iterate 2 refine aN rfl rfl (by constructor) ?_
    refine gT rfl ?_
    refine aMovA rfl ?_
    refine gT rfl ?_
    refine aLen (st.rowAcc 4 rfl (by decide) (by exact flat_len' evE_len _)) rfl ?_
    refine gT rfl ?_
    refine aMovA rfl ?_
    refine gT rfl ?_
    refine aLen (st.rowAcc 1 rfl (by decide) (by exact flat_len' ev2E_len _)) rfl ?_
    refine gT rfl ?_
    refine aBinV (.bool false) rfl rfl ne_int ?_
    iterate 2 refine aN rfl rfl (by constructor) ?_
    refine gT rfl ?_
    refine aN rfl rfl (by constructor) ?_
    refine gT rfl ?_
    refine aN rfl rfl (by constructor) ?_
    refine gT rfl ?_
    refine aC (looks_call (X := X2) (hh := hh2) (st.get (j := 2) rfl) (st.rowAcc 3 rfl (by decide) (flat_len' regE_len _)) (st.get (j := 0) rfl) hX2 hrel2) fun v125 H15 ⟨hv, st1⟩ => ?_
    subst hv
    replace st := st.call st1 rfl
    clear st1
    refine gT rfl ?_
    iterate 2 refine aN rfl rfl (by constructor) ?_
    refine sE ?_
    show AW _ (.cond _ _ _) _ _ _
    refine cF' rfl ?_
    show AWl _ _ _ _ _
    refine aN rfl rfl (by constructor) ?_
    refine sE ?_
    show AW _ (.loop _) _ _ _
    refine AW_loopN (fun m t1 H1 => ∃ (i : Nat), m = (doM (xpt X1) (xs.getD j act0).n (xs.getD j act0).o).ev.length - i ∧ (i ≤ (doM (xpt X1) (xs.getD j act0).n (xs.getD j act0).o).ev.length) ∧ t1 17 = .int .i64 (i : Int) ∧ Stt [] H H1 [⟨some b1, true, ⟨true, 79, [accV o77 (PX X2 hh2).regs.length 2, .int .u32 (PX X2 hh2).gen, .int .u8 (PX X2 hh2).kind, .int .i64 (PX X2 hh2).holder, .bool (PX X2 hh2).aptpl]⟩⟩, ⟨o77, true, ⟨true, 30, ((PX X2 hh2).regs).flatMap regE⟩⟩, ⟨some bx1, true, ⟨true, 65, k8 X2.ks [.int .i64 X2.kd, .int .i64 X2.hd, .int .u32 X2.gen, .bool X2.ls]⟩⟩, ⟨e77, true, ⟨true, 43, ((doM (xpt X1) (xs.getD j act0).n (xs.getD j act0).o).ev).flatMap evE⟩⟩, ⟨oe101, true, ⟨true, 75, ((doM (xpt X1) (xs.getD j act0).n (xs.getD j act0).o).ev).flatMap ev2E⟩⟩]) ((doM (xpt X1) (xs.getD j act0).n (xs.getD j act0).o).ev.length - 0) ⟨0, rfl, by omega, rfl, (st.sel [2, 3, 0, 4, 1] (by decide))⟩ [2, 17, 128, 129, 130, 131, 132, 133, 134, 135, 136, 137, 138, 139, 140, 141, 142, 143, 144, 145, 146, 147, 148, 149, 150, 151, 152, 153, 154, 155, 156, 157, 158] (by decide) ?_
    rintro m t1 H1 hk hI
    obtain ⟨i, rfl, hi, ht17, st⟩ := hI
    obtain ⟨u, rfl⟩ : ∃ u, t1 = (upd (mix [2, 17, 128, 129, 130, 131, 132, 133, 134, 135, 136, 137, 138, 139, 140, 141, 142, 143, 144, 145, 146, 147, 148, 149, 150, 151, 152, 153, 154, 155, 156, 157, 158] _ u) (some 17) _) := ⟨t1, by rw [← hk, upd_self ht17]⟩
    clear hk ht17
    show AWl _ _ _ _ _
    refine aN rfl rfl (by constructor) ?_
    refine aMovA rfl ?_
    refine aLen (st.rowAcc 3 rfl (by decide) (by exact flat_len' evE_len _)) rfl ?_
    refine aN rfl rfl (by constructor) ?_
    refine sE ?_
    show AW _ (.cond _ _ _) _ _ _
    refine cC' rfl (fun h16 => ?_) (fun h16 => ?_)
    ·have h16q := h16; try simp only [decide_eq_true_eq, decide_eq_false_iff_not, beq_iff_eq, beq_eq_false_iff_ne, bne_iff_ne, bne_eq_false_iff_eq, ne_eq, Decidable.not_not, Bool.not_eq_true, Bool.not_eq_false, gt_iff_lt, ge_iff_le, Int.not_lt, Int.not_le] at h16q
     have hli : i < (doM (xpt X1) (xs.getD j act0).n (xs.getD j act0).o).ev.length := Int.ofNat_lt.1 (of_decide_eq_true h16)
     have hev := ev_all _ (getD_mem' (d := (0, 0)) hli)
     show AWp _ _ _ _ _
     refine aMovA rfl ?_
     refine aN rfl rfl (by constructor) ?_
     refine aIxEK evE_len (0, 0) (l := (doM (xpt X1) (xs.getD j act0).n (xs.getD j act0).o).ev) (st.rowAcc 3 rfl (by decide) (by exact flat_len' evE_len _)) rfl rfl (by omega) fun b136 o136 g136 => ?_
     refine aN rfl rfl (by constructor) ?_
     refine aLdP (g136 _ (st.rowAcc 3 rfl (by decide) (by exact flat_len' evE_len _))) 0 rfl rfl (by constructor) (by decide) ?_
     refine aMovA rfl ?_
     refine aN rfl rfl (by constructor) ?_
     refine aIxEK ev2E_len (0, 0) (l := (doM (xpt X1) (xs.getD j act0).n (xs.getD j act0).o).ev) (st.rowAcc 4 rfl (by decide) (by exact flat_len' ev2E_len _)) rfl rfl (by omega) fun b141 o141 g141 => ?_
     refine aN rfl rfl (by constructor) ?_
     refine aLdP (g141 _ (st.rowAcc 4 rfl (by decide) (by exact flat_len' ev2E_len _))) 0 rfl rfl (by constructor) (by decide) ?_
     refine aBinV (.bool false) rfl rfl ne_int ?_
     refine aN rfl rfl (by constructor) ?_
     refine gT rfl ?_
     refine aMovA rfl ?_
     refine gT rfl ?_
     refine aN rfl rfl (by constructor) ?_
     refine gT rfl ?_
     refine aIxEK evE_len (0, 0) (l := (doM (xpt X1) (xs.getD j act0).n (xs.getD j act0).o).ev) (st.rowAcc 3 rfl (by decide) (by exact flat_len' evE_len _)) rfl rfl (by omega) fun b148 o148 g148 => ?_
     refine gT rfl ?_
     refine aN rfl rfl (by constructor) ?_
     refine gT rfl ?_
     refine aLdP (g148 _ (st.rowAcc 3 rfl (by decide) (by exact flat_len' evE_len _))) 1 rfl rfl (by constructor) (by decide) ?_
     refine gT rfl ?_
     refine aConvV (n' := ((doM (xpt X1) (xs.getD j act0).n (xs.getD j act0).o).ev.getD i (0, 0)).2) rfl (wi ((doM (xpt X1) (xs.getD j act0).n (xs.getD j act0).o).ev.getD i (0, 0)).2 (by have h1 := hev.1; have h2 := hev.2; omega)) ?_
     refine gT rfl ?_
     refine aMovA rfl ?_
     refine gT rfl ?_
     refine aN rfl rfl (by constructor) ?_
     refine gT rfl ?_
     refine aIxEK ev2E_len (0, 0) (l := (doM (xpt X1) (xs.getD j act0).n (xs.getD j act0).o).ev) (st.rowAcc 4 rfl (by decide) (by exact flat_len' ev2E_len _)) rfl rfl (by omega) fun b154 o154 g154 => ?_
     refine gT rfl ?_
     refine aN rfl rfl (by constructor) ?_
     refine gT rfl ?_
     refine aLdP (g154 _ (st.rowAcc 4 rfl (by decide) (by exact flat_len' ev2E_len _))) 1 rfl rfl (by constructor) (by decide) ?_
     refine gT rfl ?_
     refine aBinV (.bool false) rfl rfl ne_int ?_
     refine aN rfl rfl (by constructor) ?_
     refine pE ?_
     show AW _ (.cond _ _ _) _ _ _
     refine cF' rfl ?_
     show AWl _ _ _ _ _
     iterate 3 refine aN rfl rfl (by constructor) ?_
     refine sE ?_
     exact ⟨_, by omega, i + 1, rfl, by omega, congrArg (Value.int .i64) (wi _ (by omega)), (st.sel [0, 1, 2, 3, 4] (by decide))⟩
    ·have h16q := h16; try simp only [decide_eq_true_eq, decide_eq_false_iff_not, beq_iff_eq, beq_eq_false_iff_ne, bne_iff_ne, bne_eq_false_iff_eq, ne_eq, Decidable.not_not, Bool.not_eq_true, Bool.not_eq_false, gt_iff_lt, ge_iff_le, Int.not_lt, Int.not_le] at h16q
     show AWl _ _ _ _ _
     iterate 3 refine aN rfl rfl (by constructor) ?_
     refine sE ?_
     exact ⟨_, by omega, j + 1, X2, hh2, b1, o77, bx1, rfl, by omega, hX2, hW2, hrel2, congrArg (Value.int .i64) (wi _ (by omega)), rfl, rfl, (st.sel [0, 1, 2] (by decide))⟩
  ·have h5q := h5; try simp only [decide_eq_true_eq, decide_eq_false_iff_not, beq_iff_eq, beq_eq_false_iff_ne, bne_iff_ne, bne_eq_false_iff_eq, ne_eq, Decidable.not_not, Bool.not_eq_true, Bool.not_eq_false, gt_iff_lt, ge_iff_le, Int.not_lt, Int.not_le] at h5q
   show AWl _ _ _ _ _
   refine aN rfl rfl (by constructor) ?_
   refine sE ?_
   refine ⟨_, out1 (r_tmp rfl (by constructor)), ?_⟩
   rfl
 ·have h4q := h4; try simp only [decide_eq_true_eq, decide_eq_false_iff_not, beq_iff_eq, beq_eq_false_iff_ne, bne_iff_ne, bne_eq_false_iff_eq, ne_eq, Decidable.not_not, Bool.not_eq_true, Bool.not_eq_false, gt_iff_lt, ge_iff_le, Int.not_lt, Int.not_le] at h4q
  refine gF rfl (by decide) ?_
  refine gF rfl (by decide) ?_
  refine aN rfl rfl (by constructor) ?_
  refine sE ?_
  show AW _ (.cond _ _ _) _ _ _
  refine cF' rfl ?_
  show AWl _ _ _ _ _
  refine aN rfl rfl (by constructor) ?_
  refine sE ?_
  refine ⟨_, out1 (r_tmp rfl (by constructor)), ?_⟩
  rfl
theorem prPlays_law {H : Hp} {B : Nat} {xs : List Value} (hro : Ro H) (hd : datArgs Try.prog H B 8 [22] xs) : ACalls Try.prog 9 xs H fun v _ => v = .bool true := by
  obtain ⟨x0, rfl, d0⟩ := args1 hd
  obtain ⟨zs, hzs, lzs, wzs⟩ := acts_of d0
  exact plays_call hzs wzs lzs

end Go.Proofs.Ytihkghfmihdicaa.Abs
