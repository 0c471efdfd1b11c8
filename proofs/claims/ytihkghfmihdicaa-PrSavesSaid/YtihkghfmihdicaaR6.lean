/- PrSaves. -/
import Derived.Test.YtihkghfmihdicaaTS
import Derived.Test.YtihkghfmihdicaaTM
set_option linter.unusedVariables false
set_option linter.unusedSimpArgs false
set_option maxRecDepth 100000
namespace Go.Proofs.Ytihkghfmihdicaa.Abs
open Go Go.RowKit
theorem saves_t {H : Hp} {xs : List PAct} {x : Value} (hs : Sl H 7 xs.length (xs.flatMap actE) x) (hsw : ∀ a ∈ xs, 0 ≤ a.o.act ∧ a.o.act < 18446744073709551616) (hl : xs.length ≤ 140737488351232) :
    ACalls Try.prog 8 [x, .bool true] H (fun v _ => v = .bool true) := by
  refine acallsW Try.func8 f8_ok (Nat.le_of_ble_eq_true rfl) fun hw => ?_
  have st : Stt [] H H [] := Stt.start hw
  unfold f8c
  show AWl _ _ _ _ _
  refine aN rfl rfl (by constructor) ?_
  refine sE ?_
  show AWl _ _ _ _ _
  refine aC (awake_call) fun v14 H1 ⟨hv, st1⟩ => ?_
  subst hv
  replace st := st.call st1 rfl
  clear st1
  refine aN rfl rfl (by constructor) ?_
  refine sE ?_
  show AW _ (.cond _ _ _) _ _ _
  refine cF' rfl ?_
  show AWl _ _ _ _ _
  refine aMovV x rfl ?_
  refine aC (play_call (st.slc hs) hsw hl) fun v17 H2 ⟨b17, ob17, P17, hv, st1, hP17⟩ => ?_
  subst hv
  replace st := st.call st1 rfl
  clear st1
  have hP8 := hP17.len
  refine aN rfl rfl (by constructor) ?_
  refine sE ?_
  show AWl _ _ _ _ _
  refine aN rfl rfl (by constructor) ?_
  refine aN rfl rfl (by constructor) ?_
  refine aBld rfl (by repeat constructor) ?_
  replace st := st.sel [0, 1] (by decide)
  refine aC (do_call (P := P17) (n := 5) (o := ⟨6, 0, 0, 77, true⟩) (st.get (j := 0) rfl) (st.got 1 rfl).1 (st.got 1 rfl).2 (by omega) (st.ne 1 0 rfl rfl (by decide))) fun v21 H3 ⟨o21, e21, hv, hc⟩ => ?_
  subst hv
  replace st := st.tabCall (kr' := ⟨true, 30, (((doM P17 5 ⟨6, 0, 0, 77, true⟩).tab).regs).flatMap regE⟩) rfl (hc.imp (fun ⟨a, b, c⟩ => ⟨a, congrArg (fun l : List (Int × Int) => (⟨true, 30, l.flatMap regE⟩ : Blk)) b, c⟩) id)
  clear hc
  have hQ0 : WFT ((doM P17 5 ⟨6, 0, 0, 77, true⟩).tab) := doM_wf hP17 (by show (0 : Int) ≤ 77 ∧ (77 : Int) < 18446744073709551616; decide)
  have hQ1 : ((doM P17 5 ⟨6, 0, 0, 77, true⟩).tab).aptpl = true := do5 P17 true
  obtain ⟨Q, hQ⟩ : ∃ Q, Q = (doM P17 5 ⟨6, 0, 0, 77, true⟩).tab := ⟨_, rfl⟩
  rw [← hQ] at hQ0 hQ1 st
  have hQ8 := hQ0.len
  have hload : loadM (saveM Q) = some (normP Q) := load_save hQ0 hQ1
  have hsl : (saveM Q).length ≤ 1000 := by have := save_length hQ0 hQ1; omega
  refine sE ?_
  show AWl _ _ _ _ _
  refine aN rfl rfl (by constructor) ?_
  refine aC (save_call (P := Q) (st.get (j := 0) rfl) (st.rowAcc 1 rfl (by decide) (flat_len' regE_len _)) (by omega) hQ0.keys) fun v23 H4 ⟨oc23, hv, st1⟩ => ?_
  subst hv
  replace st := st.call st1 rfl
  clear st1
  refine aMovA rfl ?_
  refine sE ?_
  show AWl _ _ _ _ _
  refine aMovA rfl ?_
  refine aC (load_call (p := saveM Q) (st.rowAcc 0 rfl (by decide) (by simp)) (save_bytes hQ0) (by omega)) fun v26 H5 hL => ?_
  obtain ⟨R26, b26, ob26, hR, hv, st1⟩ := hL.resolve_left (fun h => by rw [hload] at h; cases h.1)
  obtain rfl := Option.some.inj (hload.symm.trans hR)
  subst hv
  replace st := st.call st1 rfl
  clear st1
  refine aN rfl rfl (by constructor) ?_
  refine aN rfl rfl (by constructor) ?_
  refine aN rfl rfl (by constructor) ?_
  refine aN rfl rfl (by constructor) ?_
  refine aN rfl rfl (by constructor) ?_
  refine sE ?_
  show AWl _ _ _ _ _
  refine aN rfl rfl (by constructor) ?_
  refine aBinV (.bool false) rfl rfl rfl ?_
  refine aN rfl rfl (by constructor) ?_
  refine gT rfl ?_
  refine aN rfl rfl (by constructor) ?_
  refine gT rfl ?_
  refine aBinV (.bool false) rfl rfl rfl ?_
  refine aN rfl rfl (by constructor) ?_
  refine aN rfl rfl (by constructor) ?_
  refine gT rfl ?_
  refine aN rfl rfl (by constructor) ?_
  refine gT rfl ?_
  refine aC (lasts_call (P := Q) (st.get (j := 3) rfl) (st.rowAcc 4 rfl (by decide) (flat_len' regE_len _)) (by omega)) fun v37 H6 ⟨hv, st1⟩ => ?_
  subst hv
  replace st := st.call st1 rfl
  clear st1
  rw [show (Q).aptpl = true from hQ1]
  refine gT rfl ?_
  refine aN rfl rfl (by constructor) ?_
  refine gT rfl ?_
  refine aBinV (.bool false) rfl rfl rfl ?_
  refine aN rfl rfl (by constructor) ?_
  refine sE ?_
  show AW _ (.cond _ _ _) _ _ _
  refine cF' rfl ?_
  show AWl _ _ _ _ _
  refine aN rfl rfl (by constructor) ?_
  refine aN rfl rfl (by constructor) ?_
  refine sE ?_
  show AW _ (.cond _ _ _) _ _ _
  refine cF' rfl ?_
  show AWl _ _ _ _ _
  refine aN rfl rfl (by constructor) ?_
  refine aC (reserved_call (P := Q) (st.get (j := 3) rfl) (st.rowAcc 4 rfl (by decide) (flat_len' regE_len _)) (by omega)) fun v54 H7 ⟨hv, st1⟩ => ?_
  subst hv
  replace st := st.call st1 rfl
  clear st1
  refine aN rfl rfl (by constructor) ?_
  refine aN rfl rfl (by constructor) ?_
  refine aN rfl rfl (by constructor) ?_
  refine aN rfl rfl (by constructor) ?_
  refine aN rfl rfl (by constructor) ?_
  refine sE ?_
  show AWl _ _ _ _ _
  refine aN rfl rfl (by constructor) ?_
  refine aC (reserved_call (P := (normP Q)) (st.get (j := 0) rfl) (st.rowAcc 1 rfl (by decide) (flat_len' regE_len _)) (show Q.regs.length ≤ 1000 by omega)) fun v59 H8 ⟨hv, st1⟩ => ?_
  subst hv
  replace st := st.call st1 rfl
  clear st1
  rw [norm_res]
  refine aN rfl rfl (by constructor) ?_
  refine aN rfl rfl (by constructor) ?_
  refine aN rfl rfl (by constructor) ?_
  refine aN rfl rfl (by constructor) ?_
  refine aN rfl rfl (by constructor) ?_
  refine sE ?_
  show AWp _ _ _ _ _
  refine aN rfl rfl (by constructor) ?_
  refine aMovA rfl ?_
  refine aText (st.rowAcc 2 rfl (by decide) (by simp)) rfl ?_
  refine ⟨?_, trivial⟩
  refine aC (save_call (P := (normP Q)) (st.get (j := 0) rfl) (st.rowAcc 1 rfl (by decide) (flat_len' regE_len _)) (show Q.regs.length ≤ 1000 by omega) hQ0.keys) fun v63 H9 ⟨oc63, hv, st1⟩ => ?_
  subst hv
  replace st := st.call st1 rfl
  clear st1
  rw [norm_save hQ1] at st ⊢
  refine ⟨⟨(h_Text (st.rowAcc 3 rfl (by decide) (by simp)) rfl), trivial⟩, ?_⟩
  refine aText (st.rowAcc 0 rfl (by decide) (by simp)) rfl ?_
  refine aBinV (.bool false) rfl rfl ne_str ?_
  refine aN rfl rfl (by constructor) ?_
  refine gT rfl ?_
  refine aN rfl rfl (by constructor) ?_
  refine gT rfl ?_
  refine aN rfl rfl (by constructor) ?_
  refine gT rfl ?_
  refine aBinV (.bool false) rfl rfl ne_int ?_
  refine aN rfl rfl (by constructor) ?_
  refine aN rfl rfl (by constructor) ?_
  refine gT rfl ?_
  refine aN rfl rfl (by constructor) ?_
  refine gT rfl ?_
  refine aN rfl rfl (by constructor) ?_
  refine gT rfl ?_
  refine aBinV (.bool false) rfl rfl ne_int ?_
  refine aN rfl rfl (by constructor) ?_
  refine aN rfl rfl (by constructor) ?_
  refine gT rfl ?_
  refine aN rfl rfl (by constructor) ?_
  refine ⟨?_, trivial⟩
  refine gT rfl ?_
  refine aC (lasts_call (P := (normP Q)) (st.get (j := 1) rfl) (st.rowAcc 2 rfl (by decide) (flat_len' regE_len _)) (show Q.regs.length ≤ 1000 by omega)) fun v80 H10 ⟨hv, st1⟩ => ?_
  subst hv
  replace st := st.call st1 rfl
  clear st1
  rw [show ((normP Q)).aptpl = true from rfl]
  refine ⟨⟨(h_Text (st.rowAcc 0 rfl (by decide) (by simp)) rfl), (h_Text (st.rowAcc 3 rfl (by decide) (by simp)) rfl), trivial⟩, ?_⟩
  refine gT rfl ?_
  refine aN rfl rfl (by constructor) ?_
  refine aN rfl rfl (by constructor) ?_
  refine aN rfl rfl (by constructor) ?_
  refine gT rfl ?_
  refine aN rfl rfl (by constructor) ?_
  refine gT rfl ?_
  refine aN rfl rfl (by constructor) ?_
  refine ⟨?_, trivial⟩
  refine gT rfl ?_
  refine aC (regs_call (P := (normP Q)) (st.get (j := 1) rfl) (st.rowAcc 2 rfl (by decide) (flat_len' regE_len _)) (show Q.regs.length ≤ 1000 by omega)) fun v85 H11 ⟨oc85, hv, st1⟩ => ?_
  subst hv
  replace st := st.call st1 rfl
  clear st1
  refine ⟨⟨(h_Text (st.rowAcc 1 rfl (by decide) (by simp)) rfl), (h_Text (st.rowAcc 4 rfl (by decide) (by simp)) rfl), trivial⟩, ?_⟩
  refine gT rfl ?_
  refine aLen (st.rowAcc 0 rfl (by decide) (by exact flat_len' regE_len _)) rfl ?_
  refine ⟨?_, trivial⟩
  refine gT rfl ?_
  refine aC (regs_call (P := Q) (st.get (j := 5) rfl) (st.rowAcc 6 rfl (by decide) (flat_len' regE_len _)) (by omega)) fun v88 H12 ⟨oc88, hv, st1⟩ => ?_
  subst hv
  replace st := st.call st1 rfl
  clear st1
  refine ⟨⟨(h_Text (st.rowAcc 2 rfl (by decide) (by simp)) rfl), (h_Text (st.rowAcc 5 rfl (by decide) (by simp)) rfl), trivial⟩, ?_⟩
  refine gT rfl ?_
  refine aLen (st.rowAcc 0 rfl (by decide) (by exact flat_len' regE_len _)) rfl ?_
  refine gT rfl ?_
  refine aBinV (.bool false) rfl rfl ne_int ?_
  refine aN rfl rfl (by constructor) ?_
  refine pE ?_
  show AW _ (.cond _ _ _) _ _ _
  refine cF' rfl ?_
  show AWl _ _ _ _ _
  refine aN rfl rfl (by constructor) ?_
  refine sE ?_
  show AW _ (.loop _) _ _ _
  refine AW_loopN (fun m t1 H1 => ∃ (n : Nat), m = 8 - n ∧ (n ≤ 8) ∧ t1 13 = .int .i64 (n : Int) ∧ Stt [] H H1 [⟨some b17, true, ⟨true, 79, [accV o21 Q.regs.length 2, .int .u32 Q.gen, .int .u8 Q.kind, .int .i64 Q.holder, .bool Q.aptpl]⟩⟩, ⟨o21, true, ⟨true, 30, ((Q).regs).flatMap regE⟩⟩, ⟨some b26, true, ⟨true, 79, [accV ob26 (normP Q).regs.length 2, .int .u32 (normP Q).gen, .int .u8 (normP Q).kind, .int .i64 (normP Q).holder, .bool (normP Q).aptpl]⟩⟩, ⟨ob26, true, ⟨true, 30, (((normP Q)).regs).flatMap regE⟩⟩]) (8 - 0) ⟨0, rfl, by omega, rfl, (st.sel [6, 7, 3, 4] (by decide))⟩ [4, 13, 92, 93, 94, 95, 96, 97, 98, 99, 100, 101, 102, 103, 104, 105, 106, 107, 108, 109, 110, 111, 112, 113, 114, 115, 116, 117, 118, 119, 120] (by decide) ?_
  rintro m t1 H1 hk hI
  obtain ⟨n, rfl, hn8, ht13, st⟩ := hI
  obtain ⟨u, rfl⟩ : ∃ u, t1 = (upd (mix [4, 13, 92, 93, 94, 95, 96, 97, 98, 99, 100, 101, 102, 103, 104, 105, 106, 107, 108, 109, 110, 111, 112, 113, 114, 115, 116, 117, 118, 119, 120] _ u) (some 13) _) := ⟨t1, by rw [← hk, upd_self ht13]⟩
  clear hk ht13
  show AWl _ _ _ _ _
  refine aN rfl rfl (by constructor) ?_
  refine aN rfl rfl (by constructor) ?_
  refine sE ?_
  show AW _ (.cond _ _ _) _ _ _
  refine cC' rfl (fun h13 => ?_) (fun h13 => ?_)
  · have hlt8 : n < 8 := by have := of_decide_eq_true h13; omega
    show AWl _ _ _ _ _
    refine aN rfl rfl (by constructor) ?_
    refine aN rfl rfl (by constructor) ?_
    refine aC (holds_call (P := Q) (n := (n : Int)) (st.get (j := 0) rfl) (st.rowAcc 1 rfl (by decide) (flat_len' regE_len _)) (by omega)) fun v98 H14 ⟨hv, st1⟩ => ?_
    subst hv
    replace st := st.call st1 rfl
    clear st1
    refine aN rfl rfl (by constructor) ?_
    refine aN rfl rfl (by constructor) ?_
    refine aC (holds_call (P := (normP Q)) (n := (n : Int)) (st.get (j := 2) rfl) (st.rowAcc 3 rfl (by decide) (flat_len' regE_len _)) (show Q.regs.length ≤ 1000 by omega)) fun v101 H15 ⟨hv, st1⟩ => ?_
    subst hv
    replace st := st.call st1 rfl
    clear st1
    rw [norm_holds]
    refine aBinV (.bool false) rfl rfl ne_bool ?_
    refine aN rfl rfl (by constructor) ?_
    refine gT rfl ?_
    refine aN rfl rfl (by constructor) ?_
    refine gT rfl ?_
    refine aN rfl rfl (by constructor) ?_
    refine gT rfl ?_
    refine aC (conflict_call (P := Q) (n := (n : Int)) (c := 1) (st.get (j := 0) rfl) (st.rowAcc 1 rfl (by decide) (flat_len' regE_len _)) (by omega)) fun v106 H16 ⟨hv, st1⟩ => ?_
    subst hv
    replace st := st.call st1 rfl
    clear st1
    refine gT rfl ?_
    refine aN rfl rfl (by constructor) ?_
    refine gT rfl ?_
    refine aN rfl rfl (by constructor) ?_
    refine gT rfl ?_
    refine aC (conflict_call (P := (normP Q)) (n := (n : Int)) (c := 1) (st.get (j := 2) rfl) (st.rowAcc 3 rfl (by decide) (flat_len' regE_len _)) (show Q.regs.length ≤ 1000 by omega)) fun v109 H17 ⟨hv, st1⟩ => ?_
    subst hv
    replace st := st.call st1 rfl
    clear st1
    rw [norm_confl]
    refine gT rfl ?_
    refine aBinV (.bool false) rfl rfl ne_bool ?_
    refine aN rfl rfl (by constructor) ?_
    refine aN rfl rfl (by constructor) ?_
    refine gT rfl ?_
    refine aN rfl rfl (by constructor) ?_
    refine gT rfl ?_
    refine aN rfl rfl (by constructor) ?_
    refine gT rfl ?_
    refine aC (conflict_call (P := Q) (n := (n : Int)) (c := 2) (st.get (j := 0) rfl) (st.rowAcc 1 rfl (by decide) (flat_len' regE_len _)) (by omega)) fun v115 H18 ⟨hv, st1⟩ => ?_
    subst hv
    replace st := st.call st1 rfl
    clear st1
    refine gT rfl ?_
    refine aN rfl rfl (by constructor) ?_
    refine gT rfl ?_
    refine aN rfl rfl (by constructor) ?_
    refine gT rfl ?_
    refine aC (conflict_call (P := (normP Q)) (n := (n : Int)) (c := 2) (st.get (j := 2) rfl) (st.rowAcc 3 rfl (by decide) (flat_len' regE_len _)) (show Q.regs.length ≤ 1000 by omega)) fun v118 H19 ⟨hv, st1⟩ => ?_
    subst hv
    replace st := st.call st1 rfl
    clear st1
    rw [norm_confl]
    refine gT rfl ?_
    refine aBinV (.bool false) rfl rfl ne_bool ?_
    refine aN rfl rfl (by constructor) ?_
    refine sE ?_
    show AW _ (.cond _ _ _) _ _ _
    refine cF' rfl ?_
    show AWl _ _ _ _ _
    refine aN rfl rfl (by constructor) ?_
    refine aN rfl rfl (by constructor) ?_
    refine aN rfl rfl (by constructor) ?_
    refine sE ?_
    exact ⟨_, by omega, n + 1, rfl, by omega, congrArg (Value.int .i64) (wi _ (by omega)), (st.sel [0, 1, 2, 3] (by decide))⟩
  · show AWl _ _ _ _ _
    refine aN rfl rfl (by constructor) ?_
    refine sE ?_
    refine ⟨_, out1 (r_tmp rfl (by constructor)), ?_⟩
    rfl
theorem saves_f {H : Hp} {xs : List PAct} {x : Value} (hs : Sl H 7 xs.length (xs.flatMap actE) x) (hsw : ∀ a ∈ xs, 0 ≤ a.o.act ∧ a.o.act < 18446744073709551616) (hl : xs.length ≤ 140737488351232) :
    ACalls Try.prog 8 [x, .bool false] H (fun v _ => v = .bool true) := by
  refine acallsW Try.func8 f8_ok (Nat.le_of_ble_eq_true rfl) fun hw => ?_
  have st : Stt [] H H [] := Stt.start hw
  unfold f8c
  show AWl _ _ _ _ _
  refine aN rfl rfl (by constructor) ?_
  refine sE ?_
  show AWl _ _ _ _ _
  refine aC (awake_call) fun v14 H1 ⟨hv, st1⟩ => ?_
  subst hv
  replace st := st.call st1 rfl
  clear st1
  refine aN rfl rfl (by constructor) ?_
  refine sE ?_
  show AW _ (.cond _ _ _) _ _ _
  refine cF' rfl ?_
  show AWl _ _ _ _ _
  refine aMovV x rfl ?_
  refine aC (play_call (st.slc hs) hsw hl) fun v17 H2 ⟨b17, ob17, P17, hv, st1, hP17⟩ => ?_
  subst hv
  replace st := st.call st1 rfl
  clear st1
  have hP8 := hP17.len
  refine aN rfl rfl (by constructor) ?_
  refine sE ?_
  show AWl _ _ _ _ _
  refine aN rfl rfl (by constructor) ?_
  refine aN rfl rfl (by constructor) ?_
  refine aBld rfl (by repeat constructor) ?_
  replace st := st.sel [0, 1] (by decide)
  refine aC (do_call (P := P17) (n := 5) (o := ⟨6, 0, 0, 77, false⟩) (st.get (j := 0) rfl) (st.got 1 rfl).1 (st.got 1 rfl).2 (by omega) (st.ne 1 0 rfl rfl (by decide))) fun v21 H3 ⟨o21, e21, hv, hc⟩ => ?_
  subst hv
  replace st := st.tabCall (kr' := ⟨true, 30, (((doM P17 5 ⟨6, 0, 0, 77, false⟩).tab).regs).flatMap regE⟩) rfl (hc.imp (fun ⟨a, b, c⟩ => ⟨a, congrArg (fun l : List (Int × Int) => (⟨true, 30, l.flatMap regE⟩ : Blk)) b, c⟩) id)
  clear hc
  have hQ0 : WFT ((doM P17 5 ⟨6, 0, 0, 77, false⟩).tab) := doM_wf hP17 (by show (0 : Int) ≤ 77 ∧ (77 : Int) < 18446744073709551616; decide)
  have hQ1 : ((doM P17 5 ⟨6, 0, 0, 77, false⟩).tab).aptpl = false := do5 P17 false
  obtain ⟨Q, hQ⟩ : ∃ Q, Q = (doM P17 5 ⟨6, 0, 0, 77, false⟩).tab := ⟨_, rfl⟩
  rw [← hQ] at hQ0 hQ1 st
  have hQ8 := hQ0.len
  have hload : loadM (saveM Q) = some PT0 := lm0 (by unfold saveM; rw [if_pos hQ1]; rfl)
  have hsl : (saveM Q).length ≤ 1000 := by unfold saveM; rw [if_pos hQ1]; decide
  refine sE ?_
  show AWl _ _ _ _ _
  refine aN rfl rfl (by constructor) ?_
  refine aC (save_call (P := Q) (st.get (j := 0) rfl) (st.rowAcc 1 rfl (by decide) (flat_len' regE_len _)) (by omega) hQ0.keys) fun v23 H4 ⟨oc23, hv, st1⟩ => ?_
  subst hv
  replace st := st.call st1 rfl
  clear st1
  have hs0 : saveM Q = [] := if_pos hQ1
  refine aMovA rfl ?_
  refine sE ?_
  show AWl _ _ _ _ _
  refine aMovA rfl ?_
  refine aC (load_call (p := saveM Q) (st.rowAcc 0 rfl (by decide) (by simp)) (save_bytes hQ0) (by omega)) fun v26 H5 hL => ?_
  obtain ⟨R26, b26, ob26, hR, hv, st1⟩ := hL.resolve_left (fun h => by rw [hload] at h; cases h.1)
  obtain rfl := Option.some.inj (hload.symm.trans hR)
  subst hv
  replace st := st.call st1 rfl
  clear st1
  refine aN rfl rfl (by constructor) ?_
  refine aN rfl rfl (by constructor) ?_
  refine aN rfl rfl (by constructor) ?_
  refine aN rfl rfl (by constructor) ?_
  refine aN rfl rfl (by constructor) ?_
  refine sE ?_
  show AWl _ _ _ _ _
  refine aN rfl rfl (by constructor) ?_
  refine aBinV (.bool false) rfl rfl rfl ?_
  refine aN rfl rfl (by constructor) ?_
  refine gT rfl ?_
  refine aN rfl rfl (by constructor) ?_
  refine gT rfl ?_
  refine aBinV (.bool false) rfl rfl rfl ?_
  refine aN rfl rfl (by constructor) ?_
  refine aN rfl rfl (by constructor) ?_
  refine gT rfl ?_
  refine aN rfl rfl (by constructor) ?_
  refine gT rfl ?_
  refine aC (lasts_call (P := Q) (st.get (j := 3) rfl) (st.rowAcc 4 rfl (by decide) (flat_len' regE_len _)) (by omega)) fun v37 H6 ⟨hv, st1⟩ => ?_
  subst hv
  replace st := st.call st1 rfl
  clear st1
  rw [show (Q).aptpl = false from hQ1]
  refine gT rfl ?_
  refine aN rfl rfl (by constructor) ?_
  refine gT rfl ?_
  refine aBinV (.bool false) rfl rfl rfl ?_
  refine aN rfl rfl (by constructor) ?_
  refine sE ?_
  show AW _ (.cond _ _ _) _ _ _
  refine cF' rfl ?_
  show AWl _ _ _ _ _
  refine aN rfl rfl (by constructor) ?_
  refine aN rfl rfl (by constructor) ?_
  refine sE ?_
  show AW _ (.cond _ _ _) _ _ _
  refine cT rfl ?_
  show AWl _ _ _ _ _
  refine aMovA rfl ?_
  refine aLen (st.rowAcc 2 rfl (by decide) (by simp)) rfl ?_
  rw [hs0]
  refine aBinV (.bool true) rfl rfl rfl ?_
  refine aN rfl rfl (by constructor) ?_
  refine gT rfl ?_
  refine aN rfl rfl (by constructor) ?_
  refine gT rfl ?_
  refine aC (regs_call (P := PT0) (st.get (j := 0) rfl) (st.rowAcc 1 rfl (by decide) (flat_len' regE_len _)) (Nat.zero_le _)) fun v48 H7 ⟨oc48, hv, st1⟩ => ?_
  subst hv
  replace st := st.call st1 rfl
  clear st1
  refine gT rfl ?_
  refine aLen (st.rowAcc 0 rfl (by decide) (by exact flat_len' regE_len _)) rfl ?_
  refine gT rfl ?_
  refine aBinV (.bool true) rfl rfl rfl ?_
  refine aN rfl rfl (by constructor) ?_
  refine aN rfl rfl (by constructor) ?_
  refine sE ?_
  refine ⟨_, out1 (r_tmp rfl (by constructor)), ?_⟩
  rfl
theorem prSaves_law {H : Hp} {B : Nat} {xs : List Value} (hro : Ro H) (hd : datArgs Try.prog H B 8 [22, 4] xs) : ACalls Try.prog 8 xs H fun v _ => v = .bool true := by
  obtain ⟨x0, x1, rfl, d0, d1⟩ := args2 hd
  obtain ⟨zs, hzs, lzs, wzs⟩ := acts_of d0
  obtain ⟨c, rfl⟩ := arg_bool (by kernel_rfl) d1
  cases c
  · exact saves_f hzs (fun z hz => (wzs z hz).2.2.2.1) lzs
  · exact saves_t hzs (fun z hz => (wzs z hz).2.2.2.1) lzs

end Go.Proofs.Ytihkghfmihdicaa.Abs
