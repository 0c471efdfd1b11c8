/- PrKeeps. -/
import Derived.Test.YtihkghfmihdicaaR0
set_option linter.unusedVariables false
set_option linter.unusedSimpArgs false
set_option maxRecDepth 100000
namespace Go.Proofs.Ytihkghfmihdicaa.Abs
open Go Go.RowKit
theorem keeps_call {H : Hp} {xs : List PAct} {x : Value} {a : PAct} (hs : Sl H 7 xs.length (xs.flatMap actE) x) (hsw : ∀ a ∈ xs, 0 ≤ a.o.act ∧ a.o.act < 18446744073709551616) (hl : xs.length ≤ 140737488351232) :
    ACalls Try.prog 7 [x, .agg #[.int .i64 a.n, .int .u8 a.o.sv, .int .u8 a.o.ty, .int .u64 a.o.key, .int .u64 a.o.act, .bool a.o.ap, .bool a.ag]] H (fun v _ => v = .bool true) := by
  refine acallsW Try.func7 f7_ok (Nat.le_of_ble_eq_true rfl) fun hw => ?_
  have st : Stt [] H H [] := Stt.start hw
  unfold f7c
  show AWl _ _ _ _ _
  refine aBoxN st rfl rfl (by repeat constructor) rfl fun b3 H1 st => ?_
  refine aN rfl rfl (by constructor) ?_
  refine sE ?_
  show AWl _ _ _ _ _
  refine aC (awake_call) fun v18 H2 ⟨hv, st1⟩ => ?_
  subst hv
  replace st := st.call st1 rfl
  clear st1
  refine aN rfl rfl (by constructor) ?_
  refine sE ?_
  show AW _ (.cond _ _ _) _ _ _
  refine cF' rfl ?_
  show AWl _ _ _ _ _
  refine aMovV x rfl ?_
  refine aC (play_call (st.slc hs) hsw hl) fun v21 H3 ⟨b21, ob21, P21, hv, st1, hP21⟩ => ?_
  subst hv
  replace st := st.call st1 rfl
  clear st1
  have hP8 := hP21.len
  refine aN rfl rfl (by constructor) ?_
  refine sE ?_
  show AWl _ _ _ _ _
  refine aN rfl rfl (by constructor) ?_
  refine aC (regs_call (P := P21) (st.get (j := 0) rfl) (st.rowAcc 1 rfl (by decide) (flat_len' regE_len _)) (by omega)) fun v23 H4 ⟨oc23, hv, st1⟩ => ?_
  subst hv
  replace st := st.call st1 rfl
  clear st1
  refine aMovA rfl ?_
  refine sE ?_
  show AWl _ _ _ _ _
  refine aN rfl rfl (by constructor) ?_
  refine aC (reserved_call (P := P21) (st.get (j := 1) rfl) (st.rowAcc 2 rfl (by decide) (flat_len' regE_len _)) (by omega)) fun v26 H5 ⟨hv, st1⟩ => ?_
  subst hv
  replace st := st.call st1 rfl
  clear st1
  refine aN rfl rfl (by constructor) ?_
  refine aN rfl rfl (by constructor) ?_
  refine aN rfl rfl (by constructor) ?_
  refine aN rfl rfl (by constructor) ?_
  refine aN rfl rfl (by constructor) ?_
  refine sE ?_
  show AWl _ _ _ _ _
  refine aN rfl rfl (by constructor) ?_
  refine aC (gen_call (P := P21) (st.get (j := 1) rfl) (st.rowAcc 2 rfl (by decide) (flat_len' regE_len _)) (by omega)) fun v30 H6 ⟨hv, st1⟩ => ?_
  subst hv
  replace st := st.call st1 rfl
  clear st1
  refine aN rfl rfl (by constructor) ?_
  refine sE ?_
  show AWl _ _ _ _ _
  refine aN rfl rfl (by constructor) ?_
  refine aC (save_call (P := P21) (st.get (j := 1) rfl) (st.rowAcc 2 rfl (by decide) (flat_len' regE_len _)) (by omega) hP21.keys) fun v32 H7 ⟨oc32, hv, st1⟩ => ?_
  subst hv
  replace st := st.call st1 rfl
  clear st1
  refine aText (st.rowAcc 0 rfl (by decide) (by simp)) rfl ?_
  refine aN rfl rfl (by constructor) ?_
  refine sE ?_
  show AWl _ _ _ _ _
  refine aN rfl rfl (by constructor) ?_
  refine aN rfl rfl (by constructor) ?_
  refine aLd st 4 rfl rfl rfl (by constructor) ?_
  refine aN rfl rfl (by constructor) ?_
  refine aLdA st 4 rfl rfl (by first | decide | simp [*]) (by repeat constructor) ?_
  replace st := st.sel [2, 3, 0, 1, 4] (by decide)
  refine aC (do_call (P := P21) (n := a.n) (o := a.o) (st.get (j := 0) rfl) (st.got 1 rfl).1 (st.got 1 rfl).2 (by omega) (st.ne 1 0 rfl rfl (by decide))) fun v40 H8 ⟨o40, e40, hv, hc⟩ => ?_
  subst hv
  replace st := st.tabCall (kr' := ⟨true, 30, (((doM P21 a.n a.o).tab).regs).flatMap regE⟩) rfl (hc.imp (fun ⟨a, b, c⟩ => ⟨a, congrArg (fun l : List (Int × Int) => (⟨true, 30, l.flatMap regE⟩ : Blk)) b, c⟩) id)
  clear hc
  refine aN rfl rfl (by constructor) ?_
  refine aN rfl rfl (by constructor) ?_
  refine aN rfl rfl (by constructor) ?_
  refine aExtA rfl rfl ?_
  refine aN rfl rfl (by constructor) ?_
  refine aN rfl rfl (by constructor) ?_
  refine aMovA rfl ?_
  refine sE ?_
  show AWl _ _ _ _ _
  refine aN rfl rfl (by constructor) ?_
  refine aN rfl rfl (by constructor) ?_
  refine sE ?_
  show AW _ (.cond _ _ _) _ _ _
  refine cC' rfl (fun h9 => ?_) (fun h9 => ?_)
  · have h0 : (doM P21 a.n a.o).st = 0 := by simpa using h9
    have hcode := doM_keeps.1 h0
    show AWl _ _ _ _ _
    refine aN rfl rfl (by constructor) ?_
    refine aBinV (.bool true) rfl rfl (by rw [hcode]; rfl) ?_
    refine aN rfl rfl (by constructor) ?_
    refine sE ?_
    refine ⟨_, out1 (r_tmp rfl (by constructor)), ?_⟩
    rfl
  · have h0 : ¬ (doM P21 a.n a.o).st = 0 := by simpa using h9
    obtain ⟨k1, k2, k3⟩ := doM_keeps.2 h0
    have k4 := keepsB h0
    rw [k1, k2] at st
    rw [k2]
    show AWl _ _ _ _ _
    refine aN rfl rfl (by constructor) ?_
    refine aC (regs_call (P := P21) (st.get (j := 0) rfl) (st.rowAcc 1 rfl (by decide) (flat_len' regE_len _)) (by omega)) fun v49 H10 ⟨oc49, hv, st1⟩ => ?_
    subst hv
    replace st := st.call st1 rfl
    clear st1
    refine aMovA rfl ?_
    refine sE ?_
    show AWl _ _ _ _ _
    refine aN rfl rfl (by constructor) ?_
    refine aC (reserved_call (P := P21) (st.get (j := 1) rfl) (st.rowAcc 2 rfl (by decide) (flat_len' regE_len _)) (by omega)) fun v52 H11 ⟨hv, st1⟩ => ?_
    subst hv
    replace st := st.call st1 rfl
    clear st1
    refine aN rfl rfl (by constructor) ?_
    refine aN rfl rfl (by constructor) ?_
    refine aN rfl rfl (by constructor) ?_
    refine aN rfl rfl (by constructor) ?_
    refine aN rfl rfl (by constructor) ?_
    refine sE ?_
    show AWl _ _ _ _ _
    refine aMovA rfl ?_
    refine aLen (st.rowAcc 3 rfl (by decide) (rfl)) rfl ?_
    refine aBinV (.bool false) rfl rfl rfl ?_
    refine aN rfl rfl (by constructor) ?_
    refine gT rfl ?_
    refine aMovA rfl ?_
    refine gT rfl ?_
    refine aLen (st.rowAcc 0 rfl (by decide) (by exact flat_len' regE_len _)) rfl ?_
    refine gT rfl ?_
    refine aMovA rfl ?_
    refine gT rfl ?_
    refine aLen (st.rowAcc 5 rfl (by decide) (by exact flat_len' regE_len _)) rfl ?_
    refine gT rfl ?_
    refine aBinV (.bool false) rfl rfl ne_int ?_
    refine aN rfl rfl (by constructor) ?_
    refine aN rfl rfl (by constructor) ?_
    refine gT rfl ?_
    refine aN rfl rfl (by constructor) ?_
    refine gT rfl ?_
    refine aN rfl rfl (by constructor) ?_
    refine gT rfl ?_
    refine aBinV (.bool false) rfl rfl ne_int ?_
    refine aN rfl rfl (by constructor) ?_
    refine aN rfl rfl (by constructor) ?_
    refine gT rfl ?_
    refine aN rfl rfl (by constructor) ?_
    refine gT rfl ?_
    refine aN rfl rfl (by constructor) ?_
    refine gT rfl ?_
    refine aBinV (.bool false) rfl rfl ne_int ?_
    refine aN rfl rfl (by constructor) ?_
    refine aN rfl rfl (by constructor) ?_
    refine gT rfl ?_
    refine aN rfl rfl (by constructor) ?_
    refine gT rfl ?_
    refine aC (gen_call (P := P21) (st.get (j := 1) rfl) (st.rowAcc 2 rfl (by decide) (flat_len' regE_len _)) (by omega)) fun v77 H12 ⟨hv, st1⟩ => ?_
    subst hv
    replace st := st.call st1 rfl
    clear st1
    refine gT rfl ?_
    refine aN rfl rfl (by constructor) ?_
    refine gT rfl ?_
    refine aBinV (.bool false) rfl rfl ne_int ?_
    refine aN rfl rfl (by constructor) ?_
    refine aN rfl rfl (by constructor) ?_
    refine gT rfl ?_
    refine aN rfl rfl (by constructor) ?_
    refine gT rfl ?_
    refine aC (save_call (P := P21) (st.get (j := 1) rfl) (st.rowAcc 2 rfl (by decide) (flat_len' regE_len _)) (by omega) hP21.keys) fun v83 H13 ⟨oc83, hv, st1⟩ => ?_
    subst hv
    replace st := st.call st1 rfl
    clear st1
    refine gT rfl ?_
    refine aText (st.rowAcc 0 rfl (by decide) (by simp)) rfl ?_
    refine gT rfl ?_
    refine aN rfl rfl (by constructor) ?_
    refine gT rfl ?_
    refine aBinV (.bool false) rfl rfl ne_str ?_
    refine aN rfl rfl (by constructor) ?_
    refine aN rfl rfl (by constructor) ?_
    refine gT rfl ?_
    refine aN rfl rfl (by constructor) ?_
    refine gT rfl ?_
    refine aN rfl rfl (by constructor) ?_
    refine gT rfl ?_
    refine aN rfl rfl (by constructor) ?_
    refine gT rfl ?_
    refine aN rfl rfl (by constructor) ?_
    refine gT rfl ?_
    refine aBinV (.bool false) rfl rfl (by rw [k4]; exact ne_bool) ?_
    refine aN rfl rfl (by constructor) ?_
    refine sE ?_
    show AW _ (.cond _ _ _) _ _ _
    refine cF' rfl ?_
    show AWl _ _ _ _ _
    refine aN rfl rfl (by constructor) ?_
    refine sE ?_
    show AW _ (.loop _) _ _ _
    refine AW_loopN (fun m t1 H1 => ∃ (j : Nat), m = P21.regs.length - j ∧ t1 17 = .int .i64 (j : Int) ∧ Stt [] H H1 [⟨oc49, true, ⟨true, 30, (P21.regs).flatMap regE⟩⟩, ⟨oc23, true, ⟨true, 30, (P21.regs).flatMap regE⟩⟩]) (P21.regs.length - 0) ⟨0, rfl, rfl, (st.sel [1, 6] (by decide))⟩ [4, 17, 95, 96, 97, 98, 99, 100, 101, 102, 103, 104, 105, 106, 107, 108, 109] (by decide) ?_
    rintro m t1 H1 hk hI
    obtain ⟨j, rfl, ht17, st⟩ := hI
    obtain ⟨u, rfl⟩ : ∃ u, t1 = (upd (mix [4, 17, 95, 96, 97, 98, 99, 100, 101, 102, 103, 104, 105, 106, 107, 108, 109] _ u) (some 17) _) := ⟨t1, by rw [← hk, upd_self ht17]⟩
    clear hk ht17
    show AWl _ _ _ _ _
    refine aN rfl rfl (by constructor) ?_
    refine aMovA rfl ?_
    refine aLen (st.rowAcc 0 rfl (by decide) (by exact flat_len' regE_len _)) rfl ?_
    refine aN rfl rfl (by constructor) ?_
    refine sE ?_
    show AW _ (.cond _ _ _) _ _ _
    refine cC' rfl (fun h14 => ?_) (fun h14 => ?_)
    · have hlt : j < P21.regs.length := by have := of_decide_eq_true h14; omega
      show AWp _ _ _ _ _
      refine aMovA rfl ?_
      refine aN rfl rfl (by constructor) ?_
      refine aIxEK regE_len (0, 0) (l := P21.regs) (st.rowAcc 0 rfl (by decide) (by exact flat_len' regE_len _)) rfl rfl (by omega) fun b103 o103 g103 => ?_
      refine aLdAG rfl (g103 _ (st.rowAcc 0 rfl (by decide) (by exact flat_len' regE_len _))) ?_
      refine aMovA rfl ?_
      refine aN rfl rfl (by constructor) ?_
      refine aIxEK regE_len (0, 0) (l := P21.regs) (st.rowAcc 1 rfl (by decide) (by exact flat_len' regE_len _)) rfl rfl (by omega) fun b107 o107 g107 => ?_
      refine aLdAG rfl (g107 _ (st.rowAcc 1 rfl (by decide) (by exact flat_len' regE_len _))) ?_
      refine aEqAV true rfl rfl (by simp [regE, eqL, eqV]) ?_
      refine pE ?_
      show AW _ (.cond _ _ _) _ _ _
      refine cF' rfl ?_
      show AWl _ _ _ _ _
      refine aN rfl rfl (by constructor) ?_
      refine aN rfl rfl (by constructor) ?_
      refine aN rfl rfl (by constructor) ?_
      refine sE ?_
      exact ⟨_, by omega, j + 1, rfl, congrArg (Value.int .i64) (wi _ (by omega)), (st.sel [0, 1] (by decide))⟩
    · show AWl _ _ _ _ _
      refine aN rfl rfl (by constructor) ?_
      refine sE ?_
      refine ⟨_, out1 (r_tmp rfl (by constructor)), ?_⟩
      rfl
theorem prKeeps_law {H : Hp} {B : Nat} {xs : List Value} (hro : Ro H) (hd : datArgs Try.prog H B 8 [22, 55] xs) : ACalls Try.prog 7 xs H fun v _ => v = .bool true := by
  obtain ⟨x0, x1, rfl, d0, d1⟩ := args2 hd
  obtain ⟨zs, hzs, lzs, wzs⟩ := acts_of d0
  obtain ⟨ua, rfl, qa⟩ := datV_row (by kernel_rfl) d1
  obtain ⟨a, wa, rfl⟩ := act_of qa
  exact keeps_call hzs (fun z hz => (wzs z hz).2.2.2.1) lzs

end Go.Proofs.Ytihkghfmihdicaa.Abs
