/- Sense: SenseReads, SenseBack. -/
import Derived.Test.YtloigiieoehimaaE14
set_option linter.unusedVariables false
set_option linter.unusedSimpArgs false
set_option maxRecDepth 100000
namespace Go.Proofs.Ytloigiieoehimaa.Abs
open Go Go.RowKit
theorem reads_call {H : Hp} {xs : List Int} {x : Value} (hx : Sl H 1 xs.length (xs.map (Value.int .u8)) x) (hb : ByteL xs) (hl : xs.length ≤ 140737488351232) :
    ACalls Try.prog 5 [x] H (fun v _ => v = .bool true) := by
  refine acallsW Try.func5 f5_ok (Nat.le_of_ble_eq_true rfl) fun hw => ?_
  have st : Stt [] H H [] := Stt.start hw
  unfold f5c
  show AWl _ _ _ _ _
  refine aN rfl rfl (by constructor) ?_
  refine sE ?_
  show AWl _ _ _ _ _
  refine aC (awake_call) fun v7 H1 ⟨hv, st1⟩ => ?_
  subst hv
  replace st := st.call st1 rfl
  clear st1
  refine aN rfl rfl (by constructor) ?_
  refine sE ?_
  show AW _ (.cond _ _ _) _ _ _
  refine cF' rfl ?_
  show AWl _ _ _ _ _
  refine aMovV x rfl ?_
  refine aC (dec_call (st.slc hx) hb (hl)) fun v11 H2 ⟨o11, ok11, hv, st1⟩ => ?_
  unfold snV at hv; subst hv
  replace st := st.call st1 rfl
  clear st1
  refine aN rfl rfl (by constructor) ?_
  refine aN rfl rfl (by constructor) ?_
  refine aN rfl rfl (by constructor) ?_
  refine aNewP st rfl rfl (by repeat constructor) fun b3 H3 st => ?_
  refine aSt st 0 rfl rfl rfl rfl (by first | rfl | simp [cellsOf, *]) (by first | decide | simp [*]) (by repeat constructor) fun H4 st => ?_
  refine aN rfl rfl (by constructor) ?_
  refine sE ?_
  show AWl _ _ _ _ _
  refine aMovV x rfl ?_
  refine aC (rdec_call (st.slc hx) hb (hl)) fun v16 H5 ⟨o16, ok16, hv, st1⟩ => ?_
  unfold snV at hv; subst hv
  replace st := st.call st1 rfl
  clear st1
  obtain rfl := ok16.uniq ok11
  refine aN rfl rfl (by constructor) ?_
  refine aN rfl rfl (by constructor) ?_
  refine aN rfl rfl (by constructor) ?_
  refine aNewP st rfl rfl (by repeat constructor) fun b5 H6 st => ?_
  refine aSt st 0 rfl rfl rfl rfl (by first | rfl | simp [cellsOf, *]) (by first | decide | simp [*]) (by repeat constructor) fun H7 st => ?_
  refine aN rfl rfl (by constructor) ?_
  refine sE ?_
  show AWl _ _ _ _ _
  refine aLdA st 1 rfl rfl (by first | decide | simp [*]) (by repeat constructor) ?_
  refine aLdA st 0 rfl rfl (by first | decide | simp [*]) (by repeat constructor) ?_
  refine aEqAV (decide (snO o16 = snO o16)) rfl rfl (sn_eqL _ _) ?_
  rw [decide_eq_true rfl]
  refine aN rfl rfl (by constructor) ?_
  refine gT rfl ?_
  refine aN rfl rfl (by constructor) ?_
  refine gT rfl ?_
  refine aN rfl rfl (by constructor) ?_
  refine gT rfl ?_
  refine aEqII rfl rfl ?_
  refine aN rfl rfl (by constructor) ?_
  refine aN rfl rfl (by constructor) ?_
  refine sE ?_
  refine ⟨_, out1 (r_tmp rfl (by constructor)), ?_⟩
  rfl
theorem back_call {H : Hp} {s : Sn} (hs : s.wf) :
    ACalls Try.prog 6 [.agg #[.int .u8 s.key, .int .u16 s.code, .int .u64 s.info, .bool s.hi, .int .i64 s.fld, .int .i64 s.bit, .bool s.hf, .bool s.ic]] H (fun v _ => v = .bool true) := by
  refine acallsW Try.func6 f6_ok (Nat.le_of_ble_eq_true rfl) fun hw => ?_
  have st : Stt [] H H [] := Stt.start hw
  unfold f6c
  show AWl _ _ _ _ _
  refine aBoxN st rfl rfl (by repeat constructor) rfl fun b1 H1 st => ?_
  refine aN rfl rfl (by constructor) ?_
  refine sE ?_
  show AWl _ _ _ _ _
  refine aC (awake_call) fun v11 H2 ⟨hv, st1⟩ => ?_
  subst hv
  replace st := st.call st1 rfl
  clear st1
  refine aN rfl rfl (by constructor) ?_
  refine sE ?_
  show AW _ (.cond _ _ _) _ _ _
  refine cF' rfl ?_
  show AWl _ _ _ _ _
  refine aLdA st 0 rfl rfl (by first | decide | simp [*]) (by repeat constructor) ?_
  refine aC (desc_call hs) fun v15 H3 ⟨ob15, hv, st1⟩ => ?_
  subst hv
  replace st := st.call st1 rfl
  clear st1
  refine aN rfl rfl (by constructor) ?_
  refine aExtA rfl rfl ?_
  refine aN rfl rfl (by constructor) ?_
  refine aMovA rfl ?_
  refine aN rfl rfl (by constructor) ?_
  refine sE ?_
  show AWl _ _ _ _ _
  refine aLdA st 1 rfl rfl (by first | decide | simp [*]) (by repeat constructor) ?_
  refine aC (form_call hs) fun v19 H4 ⟨hv, st1⟩ => ?_
  subst hv
  replace st := st.call st1 rfl
  clear st1
  refine aN rfl rfl (by constructor) ?_
  refine sE ?_
  show AW _ (.cond _ _ _) _ _ _
  refine cC' rfl (fun h5 => ?_) (fun h5 => ?_)
  · have h5n : formS s = false := by simpa using h5
    show AWl _ _ _ _ _
    refine aN rfl rfl (by constructor) ?_
    have hE : descE s = 3 := by unfold descE; rw [if_pos h5n]
    refine aBinV (.bool true) (u := .int .i64 (descE s)) (u' := .int .i64 3) rfl rfl (by rw [hE]; rfl) ?_
    refine aN rfl rfl (by constructor) ?_
    refine gT rfl ?_
    refine aMovA rfl ?_
    refine gT rfl ?_
    refine aLen (st.rowAcc 0 rfl (by decide) (by simp)) rfl ?_
    refine gT rfl ?_
    refine aBinV (.bool true) (u := .int .i64 ((descR s).length : Int)) (u' := .int .i64 0) rfl rfl (by unfold descR; rw [hE]; rfl) ?_
    refine aN rfl rfl (by constructor) ?_
    refine aN rfl rfl (by constructor) ?_
    refine sE ?_
    refine ⟨_, out1 (r_tmp rfl (by constructor)), ?_⟩
    rfl
  · have h5n : formS s = true := by simpa using h5
    show AWl _ _ _ _ _
    refine aMovA rfl ?_
    refine aC (dec_call (st.rowAcc 0 rfl (by decide) (by simp)) (descR_bytes hs) (by have := descR_len s; omega)) fun v30 H6 ⟨o30, ok30, hv, st1⟩ => ?_
    unfold snV at hv; subst hv
    replace st := st.call st1 rfl
    clear st1
    obtain ⟨e1, e2, e3⟩ := okS hs h5n
    obtain rfl := (ok30 s).1 (by rw [e2]; exact e3)
    refine aN rfl rfl (by constructor) ?_
    refine aN rfl rfl (by constructor) ?_
    refine aN rfl rfl (by constructor) ?_
    refine aNewP st rfl rfl (by repeat constructor) fun b5 H7 st => ?_
    refine aSt st 0 rfl rfl rfl rfl (by first | rfl | simp [cellsOf, *]) (by first | decide | simp [*]) (by repeat constructor) fun H8 st => ?_
    refine aN rfl rfl (by constructor) ?_
    refine sE ?_
    show AWl _ _ _ _ _
    refine aN rfl rfl (by constructor) ?_
    refine aBinV (.bool false) (u := .int .i64 (descE s)) (u' := .int .i64 0) rfl rfl (by rw [e1]; rfl) ?_
    refine aN rfl rfl (by constructor) ?_
    refine gT rfl ?_
    refine aN rfl rfl (by constructor) ?_
    refine gT rfl ?_
    refine aBinV (.bool false) (u := .int .i64 0) (u' := .int .i64 0) rfl rfl (rfl) ?_
    refine aN rfl rfl (by constructor) ?_
    refine aN rfl rfl (by constructor) ?_
    refine gT rfl ?_
    refine aLdA st 0 rfl rfl (by first | decide | simp [*]) (by repeat constructor) ?_
    refine gT rfl ?_
    refine aLdA st 2 rfl rfl (by first | decide | simp [*]) (by repeat constructor) ?_
    refine gT rfl ?_
    refine aEqAV (decide (s = s)) rfl rfl (sn_eqL _ _) ?_
    rw [decide_eq_true rfl]
    refine aN rfl rfl (by constructor) ?_
    refine sE ?_
    show AW _ (.cond _ _ _) _ _ _
    refine cF' rfl ?_
    show AWl _ _ _ _ _
    refine aLdA st 2 rfl rfl (by first | decide | simp [*]) (by repeat constructor) ?_
    refine aC (fixed_call hs) fun v46 H9 ⟨ob46, hv, st1⟩ => ?_
    subst hv
    replace st := st.call st1 rfl
    clear st1
    refine aN rfl rfl (by constructor) ?_
    refine aExtA rfl rfl ?_
    refine aN rfl rfl (by constructor) ?_
    refine aMovA rfl ?_
    refine aN rfl rfl (by constructor) ?_
    refine sE ?_
    show AWl _ _ _ _ _
    refine aN rfl rfl (by constructor) ?_
    refine aLd st 3 rfl rfl rfl (by constructor) ?_
    refine aN rfl rfl (by constructor) ?_
    refine sE ?_
    show AW _ (.cond _ _ _) _ _ _
    refine cC' rfl (fun h10 => ?_) (fun h10 => ?_)
    · have hE : fixE s = 4 := by unfold fixE; rw [if_neg (by simp [h5n]), if_pos (of_decide_eq_true h10)]
      show AWl _ _ _ _ _
      refine aN rfl rfl (by constructor) ?_
      refine aBinV (.bool true) (u := .int .i64 (fixE s)) (u' := .int .i64 4) rfl rfl (by rw [hE]; rfl) ?_
      refine aN rfl rfl (by constructor) ?_
      refine sE ?_
      refine ⟨_, out1 (r_tmp rfl (by constructor)), ?_⟩
      rfl
    · have hE : fixE s = 0 := by unfold fixE; rw [if_neg (by simp [h5n]), if_neg (of_decide_eq_false h10)]
      show AWl _ _ _ _ _
      refine aMovA rfl ?_
      refine aC (dec_call (st.rowAcc 0 rfl (by decide) (by simp)) (fixR_bytes hs) (by have := fixR_len s; omega)) fun v56 H11 ⟨o56, ok56, hv, st1⟩ => ?_
      unfold snV at hv; subst hv
      replace st := st.call st1 rfl
      clear st1
      obtain ⟨f2, f3⟩ := okF hs hE
      obtain rfl := (ok56 s).1 (by rw [f2]; exact f3)
      refine aN rfl rfl (by constructor) ?_
      refine aN rfl rfl (by constructor) ?_
      refine aN rfl rfl (by constructor) ?_
      refine aNewP st rfl rfl (by repeat constructor) fun b9 H12 st => ?_
      refine aSt st 0 rfl rfl rfl rfl (by first | rfl | simp [cellsOf, *]) (by first | decide | simp [*]) (by repeat constructor) fun H13 st => ?_
      refine aN rfl rfl (by constructor) ?_
      refine sE ?_
      show AWl _ _ _ _ _
      refine aN rfl rfl (by constructor) ?_
      refine aBinV (.bool true) (u := .int .i64 (fixE s)) (u' := .int .i64 0) rfl rfl (by rw [hE]; rfl) ?_
      refine aN rfl rfl (by constructor) ?_
      refine gT rfl ?_
      refine aN rfl rfl (by constructor) ?_
      refine gT rfl ?_
      refine aBinV (.bool true) (u := .int .i64 0) (u' := .int .i64 0) rfl rfl (rfl) ?_
      refine aN rfl rfl (by constructor) ?_
      refine aN rfl rfl (by constructor) ?_
      refine gT rfl ?_
      refine aLdA st 0 rfl rfl (by first | decide | simp [*]) (by repeat constructor) ?_
      refine gT rfl ?_
      refine aLdA st 4 rfl rfl (by first | decide | simp [*]) (by repeat constructor) ?_
      refine gT rfl ?_
      refine aEqAV (decide (s = s)) rfl rfl (sn_eqL _ _) ?_
      rw [decide_eq_true rfl]
      refine aN rfl rfl (by constructor) ?_
      refine aN rfl rfl (by constructor) ?_
      refine sE ?_
      refine ⟨_, out1 (r_tmp rfl (by constructor)), ?_⟩
      rfl
end Go.Proofs.Ytloigiieoehimaa.Abs
