/- PiBack. -/
import Derived.Test.YtbbdggmnjkkjkaaPK8
set_option linter.unusedVariables false
set_option linter.unusedSimpArgs false
set_option maxRecDepth 100000
namespace Go.Proofs.Ytbbdggmnjkkjkaa.Abs
open Go Go.RowKit
theorem aNeI {P : Program} {R : Tm → Hp → Prop} {t : Tm} {H : Hp} {d : Option Nat} {x y : Opd} {k : IntKind} {n : Int} (hx : ev t x = .int k n) (hy : ev t y = .int k n) (kk : R (upd t d (.bool false)) H) : aStep P ⟨d, .bin 5 .neq x y, none⟩ R t H := ⟨.bool false, H, by simp [aI, hx, hy, aBin, isShift, aInt], kk⟩
theorem back_call {H : Hp} {bs : List Bk} {x : Value} {more : Int} (hx : Sl H 19 bs.length (encs bs) x) (hb : BksOk bs) (hl : bs.length * 24 ≤ 140737488351232) (hm : 0 ≤ more ∧ more < 256) :
    ACalls Try.prog 6 [x, .int .u8 more] H (fun v _ => v = .bool true) := by
  refine acallsW Try.func6 f6_ok (Nat.le_of_ble_eq_true rfl) fun hw => ?_
  have st : Stt [] H H [] := Stt.start hw
  unfold f6c
  show AWl _ _ _ _ _
  refine aN rfl rfl (by constructor) ?_
  refine sE ?_
  show AWl _ _ _ _ _
  refine aC (awake_call).wf fun v14 H2 ⟨⟨hv1, hF14⟩, hw14⟩ => ?_
  subst hv1
  have st := st.call (Stt.of_frm st.wf hw14 hF14) rfl
  refine aN rfl rfl (by constructor) ?_
  refine sE ?_
  show AW _ (.cond _ _ _) _ _ _
  refine cF' rfl ?_
  show AWl _ _ _ _ _
  refine aMovV x rfl ?_
  refine aC (pack_call (w := true) (st.slc hx) hb hl) fun v17 H3 ⟨ob17, hv, st1⟩ => ?_
  subst hv
  replace st := st.call st1 rfl
  clear st1
  refine aMovA rfl ?_
  refine sE ?_
  show AWl _ _ _ _ _
  refine aMovA rfl ?_
  refine aC (unpack_t_back hb (st.rowAcc 0 rfl (by decide) (by simp)) hl) fun v20 H4 ⟨ob20, hv, st1⟩ => ?_
  subst hv
  replace st := st.call st1 rfl
  clear st1
  refine aN rfl rfl (by constructor) ?_
  refine aExtA rfl rfl ?_
  refine aN rfl rfl (by constructor) ?_
  refine aMovA rfl ?_
  refine aN rfl rfl (by constructor) ?_
  refine sE ?_
  show AWl _ _ _ _ _
  refine aMovV x rfl ?_
  refine aC (pack_call (w := false) (st.slc hx) hb hl) fun v25 H5 ⟨ob25, hv, st1⟩ => ?_
  subst hv
  replace st := st.call st1 rfl
  clear st1
  refine aC (unpack_f_back hb (st.rowAcc 0 rfl (by decide) (by simp)) hl) fun v26 H6 ⟨ob26, hv, st1⟩ => ?_
  subst hv
  replace st := st.call st1 rfl
  clear st1
  refine aN rfl rfl (by constructor) ?_
  refine aExtA rfl rfl ?_
  refine aN rfl rfl (by constructor) ?_
  refine aMovA rfl ?_
  refine aN rfl rfl (by constructor) ?_
  refine sE ?_
  show AWl _ _ _ _ _
  refine aN rfl rfl (by constructor) ?_
  refine aN rfl rfl (by constructor) ?_
  refine aN rfl rfl (by constructor) ?_
  refine gT rfl ?_
  refine aN rfl rfl (by constructor) ?_
  refine gT rfl ?_
  refine aN rfl rfl (by constructor) ?_
  refine aN rfl rfl (by constructor) ?_
  refine aN rfl rfl (by constructor) ?_
  refine gT rfl ?_
  refine aMovA rfl ?_
  refine gT rfl ?_
  refine aMovV x rfl ?_
  refine gT rfl ?_
  refine aC (same_call (st.rowAcc 2 rfl (by decide) (by rw [encs_len hb])) (st.slc hx) hb (by omega)) fun v38 H7 ⟨hv, st1⟩ => ?_
  subst hv
  replace st := st.call st1 rfl
  clear st1
  refine gT rfl ?_
  refine aN rfl rfl (by constructor) ?_
  refine aN rfl rfl (by constructor) ?_
  refine aN rfl rfl (by constructor) ?_
  refine gT rfl ?_
  refine aMovA rfl ?_
  refine gT rfl ?_
  refine aLen (st.rowAcc 0 rfl (by decide) (by rw [encs_len (strip_ok hb)]; simp)) rfl ?_
  refine gT rfl ?_
  refine aMovV x rfl ?_
  refine gT rfl ?_
  refine aLen (st.slc hx) rfl ?_
  refine gT rfl ?_
  refine aNeI rfl rfl ?_
  refine aN rfl rfl (by constructor) ?_
  refine sE ?_
  show AW _ (.cond _ _ _) _ _ _
  refine cF' rfl ?_
  show AWl _ _ _ _ _
  refine aN rfl rfl (by constructor) ?_
  refine sE ?_
  show AW _ (.loop _) _ _ _
  refine AW_loopN (fun m t1 H1 => ∃ (j : Nat), m = bs.length - j ∧ j ≤ bs.length ∧ t1 10 = .int .i64 (j : Int) ∧ Stt [] H H1 [⟨ob26, true, ⟨true, 33, encs (bs.map strip)⟩⟩, ⟨ob17, true, ⟨true, 5, (pkL true bs).map (Value.int .u8)⟩⟩]) (bs.length - 0) ⟨0, rfl, by omega, rfl, (st.sel [0, 3] (by decide))⟩ [4, 10, 48, 49, 50, 51, 52, 53, 54, 55, 56, 57, 58, 59, 60, 61, 62, 63, 64, 65, 66, 67, 68, 69, 70, 71, 72, 73] (by decide) ?_
  rintro m t1 H1 hk hI
  obtain ⟨j, rfl, hf0, ht10, st⟩ := hI
  obtain ⟨u, rfl⟩ : ∃ u, t1 = (upd (mix [4, 10, 48, 49, 50, 51, 52, 53, 54, 55, 56, 57, 58, 59, 60, 61, 62, 63, 64, 65, 66, 67, 68, 69, 70, 71, 72, 73] _ u) (some 10) _) := ⟨t1, by rw [← hk, upd_self ht10]⟩
  clear hk ht10
  show AWl _ _ _ _ _
  refine aN rfl rfl (by constructor) ?_
  refine aMovA rfl ?_
  refine aLen (st.rowAcc 0 rfl (by decide) (by rw [encs_len (strip_ok hb)]; simp)) rfl ?_
  refine aN rfl rfl (by constructor) ?_
  refine sE ?_
  show AW _ (.cond _ _ _) _ _ _
  refine cC' rfl (fun h8 => ?_) (fun h8 => ?_)
  · have hlt : j < bs.length := by have := of_decide_eq_true h8; omega
    have hbj := hb _ (List.getElem_mem hlt)
    have hbs : (strip bs[j]).ok := strip_ok hb _ (List.mem_map.2 ⟨_, List.getElem_mem hlt, rfl⟩)
    show AWp _ _ _ _ _
    refine aMovA rfl ?_
    refine aN rfl rfl (by constructor) ?_
    refine aIx (st.rowAcc 0 rfl (by decide) (by rw [encs_len (strip_ok hb)]; simp)) rfl rfl (by omega) fun b56 o56 g56 => ?_
    rw [show ((j : Int)).toNat = j from rfl, encs_get (strip_ok hb) (by simpa using hlt), List.getElem_map] at g56
    refine aN rfl rfl (by constructor) ?_
    refine aLdPA g56 0 rfl (by decide) (by rw [enc_d hbs]; exact NfL.any _) ?_
    refine aMovV x rfl ?_
    refine aN rfl rfl (by constructor) ?_
    refine aIx (st.slc hx) rfl rfl (by omega) fun b61 o61 g61 => ?_
    rw [show ((j : Int)).toNat = j from rfl, encs_get hb hlt] at g61
    refine aN rfl rfl (by constructor) ?_
    refine aLdPA g61 0 rfl (by decide) (by rw [enc_d hbj]; exact NfL.any _) ?_
    refine aEqAV true rfl rfl (data_eq hbj.1) ?_
    refine aN rfl rfl (by constructor) ?_
    refine gT rfl ?_
    refine aMovA rfl ?_
    refine gT rfl ?_
    refine aN rfl rfl (by constructor) ?_
    refine gT rfl ?_
    refine aIx (st.rowAcc 0 rfl (by decide) (by rw [encs_len (strip_ok hb)]; simp)) rfl rfl (by omega) fun b68 o68 g68 => ?_
    rw [show ((j : Int)).toNat = j from rfl, encs_get (strip_ok hb) (by simpa using hlt), List.getElem_map] at g68
    refine gT rfl ?_
    refine aN rfl rfl (by constructor) ?_
    refine gT rfl ?_
    refine aLdPA g68 16 rfl (by decide) (by rw [enc_t hbs]; exact NfL.any _) ?_
    refine gT rfl ?_
    refine aBld rfl (by repeat constructor) ?_
    refine gT rfl ?_
    refine aEqAV true rfl rfl rfl ?_
    refine aN rfl rfl (by constructor) ?_
    refine pE ?_
    show AW _ (.cond _ _ _) _ _ _
    refine cF' rfl ?_
    show AWl _ _ _ _ _
    refine aN rfl rfl (by constructor) ?_
    refine aN rfl rfl (by constructor) ?_
    refine aN rfl rfl (by constructor) ?_
    refine sE ?_
    exact ⟨_, by omega, j + 1, rfl, by omega, congrArg (Value.int .i64) (wi _ (by omega)), (st.sel [0, 1] (by decide))⟩
  · show AWl _ _ _ _ _
    refine aN rfl rfl (by constructor) ?_
    refine sE ?_
    show AW _ (.loop _) _ _ _
    refine AW_loopN (fun m t1 H1 => ∃ (k : Nat) (ob : Option Nat), m = 24 - k ∧ (k : Int) ≤ 1 + more % 23 ∧ t1 11 = .int .i64 (k : Int) ∧ t1 5 = accV ob ((pkL true bs).length + k) 1 ∧ Stt [] H H1 [⟨ob, true, ⟨true, 5, (pkL true bs ++ List.replicate k (0 : Int)).map (Value.int .u8)⟩⟩]) (24 - 0) ⟨0, ob17, rfl, by omega, rfl, rfl, (by simpa using (st.sel [1] (by decide)))⟩ [5, 11, 74, 75, 76, 77, 78, 79, 80, 81, 82, 83, 84] (by decide) ?_
    rintro m t1 H1 hk hI
    obtain ⟨k, ob, rfl, hf0, ht11, ht5, st⟩ := hI
    obtain ⟨u, rfl⟩ : ∃ u, t1 = (upd (upd (mix [5, 11, 74, 75, 76, 77, 78, 79, 80, 81, 82, 83, 84] _ u) (some 11) _) (some 5) _) := ⟨t1, by rw [← hk, upd_self ht11, upd_self ht5]⟩
    clear hk ht11 ht5
    show AWl _ _ _ _ _
    refine aN rfl rfl (by constructor) ?_
    refine aN rfl rfl (by constructor) ?_
    refine aN rfl rfl (by constructor) ?_
    refine aN rfl rfl (by constructor) ?_
    refine aN rfl rfl (by constructor) ?_
    refine aN rfl rfl (by constructor) ?_
    refine sE ?_
    show AW _ (.cond _ _ _) _ _ _
    refine cC' rfl (fun h9 => ?_) (fun h9 => ?_)
    · have mr : IntKind.i64.wrap (1 + (IntKind.i64.wrap more).tmod 23) = 1 + more % 23 ∧ 0 ≤ more % 23 ∧ more % 23 < 23 := by rw [wi more (by omega), Int.tmod_eq_emod_of_nonneg hm.1, wi _ (by omega)]; omega
      have hlt : (k : Int) < 1 + more % 23 := by have := of_decide_eq_true h9; rw [mr.1] at this; exact this
      show AWl _ _ _ _ _
      refine aMovA rfl ?_
      refine aLit st rfl (by repeat constructor) fun b83 H10 st => ?_
      refine aAppP st 1 (ob := ob) rfl rfl rfl (by decide) (by simp) (st.rowAll 0 rfl (by first | rfl | (simp [beB_len, *]; done) | (simp [beB_len, *]; omega))).src (rfl) (by have := pkL_sz (w := true) hb; simp only [szB, if_true] at this; omega) (by have := pkL_sz (w := true) hb; simp only [szB, if_true] at this; omega) (by have := pkL_sz (w := true) hb; simp only [szB, if_true] at this; omega) (NfL.any _) fun b84 H11 st => ?_
      refine aN rfl rfl (by constructor) ?_
      refine sE ?_
      show AWl _ _ _ _ _
      refine aN rfl rfl (by constructor) ?_
      refine aN rfl rfl (by constructor) ?_
      refine aN rfl rfl (by constructor) ?_
      refine sE ?_
      exact ⟨_, by omega, k + 1, some b84, rfl, by omega, congrArg (Value.int .i64) (wi _ (by omega)), rfl, (by have st2 := (st.sel [1] (by decide)); rw [List.replicate_succ', ← List.append_assoc, List.map_append]; exact st2)⟩
    · have mr : IntKind.i64.wrap (1 + (IntKind.i64.wrap more).tmod 23) = 1 + more % 23 ∧ 0 ≤ more % 23 ∧ more % 23 < 23 := by rw [wi more (by omega), Int.tmod_eq_emod_of_nonneg hm.1, wi _ (by omega)]; omega
      have hge : (k : Int) = 1 + more % 23 := by have := of_decide_eq_false h9; rw [mr.1] at this; omega
      show AWl _ _ _ _ _
      refine aMovA rfl ?_
      refine aC (unpack_t_no hb (by have := mr; omega) (st.rowAcc 0 rfl (by decide) (by simp)) hl) fun v87 H12 ⟨ob87, n87, hv, st1⟩ => ?_
      subst hv
      replace st := st.call st1 rfl
      clear st1
      refine aN rfl rfl (by constructor) ?_
      refine aExtA rfl rfl ?_
      refine aN rfl rfl (by constructor) ?_
      refine aMovA rfl ?_
      refine aN rfl rfl (by constructor) ?_
      refine sE ?_
      show AWl _ _ _ _ _
      refine aN rfl rfl (by constructor) ?_
      refine aN rfl rfl (by constructor) ?_
      refine aN rfl rfl (by constructor) ?_
      refine sE ?_
      refine ⟨_, out1 (r_tmp rfl (by constructor)), ?_⟩
      rfl
end Go.Proofs.Ytbbdggmnjkkjkaa.Abs
