/- PiPacks. -/
import Derived.Test.YtbbdggmnjkkjkaaPK6
set_option linter.unusedVariables false
set_option linter.unusedSimpArgs false
set_option maxRecDepth 100000
namespace Go.Proofs.Ytbbdggmnjkkjkaa.Abs
open Go Go.RowKit
theorem unR_ok {w : Bool} {xs : List Int} (h : ByteL xs) : BksOk (unR w xs) := by
  unfold unR
  split
  · exact unL_ok h
  · intro b hb; cases hb
theorem unR_len (w : Bool) (xs : List Int) : (unR w xs).length ≤ xs.length := by
  unfold unR
  split
  · rw [unL_len]; exact Nat.div_le_self _ _
  · exact Nat.zero_le _
theorem packs_false {H : Hp} {bs : List Bk} {xs : List Int} {x y : Value} (hx : Sl H 19 bs.length (encs bs) x) (hb : BksOk bs) (hl : bs.length * 24 ≤ 140737488351232) (hy : Sl H 1 xs.length (xs.map (Value.int .u8)) y) (hb0 : ByteL xs) (hl2 : xs.length * 2 ≤ 140737488351232) :
    ACalls Try.prog 5 [x, y, .bool false] H (fun v _ => v = .bool true) := by
  refine acallsW Try.func5 f5_ok (Nat.le_of_ble_eq_true rfl) fun hw => ?_
  have st : Stt [] H H [] := Stt.start hw
  unfold f5c
  show AWl _ _ _ _ _
  refine aN rfl rfl (by constructor) ?_
  refine sE ?_
  show AWl _ _ _ _ _
  refine aC (awake_call).wf fun v12 H2 ⟨⟨hv1, hF12⟩, hw12⟩ => ?_
  subst hv1
  have st := st.call (Stt.of_frm st.wf hw12 hF12) rfl
  refine aN rfl rfl (by constructor) ?_
  refine aN rfl rfl (by constructor) ?_
  refine gT rfl ?_
  refine aC (size_false_call) fun v15 H3 ⟨hv, st1⟩ => ?_
  subst hv
  replace st := st.call st1 rfl
  clear st1
  refine gT rfl ?_
  refine aBinV (.bool false) rfl rfl rfl ?_
  refine aN rfl rfl (by constructor) ?_
  refine aN rfl rfl (by constructor) ?_
  refine gT rfl ?_
  refine aC (size_true_call) fun v19 H4 ⟨hv, st1⟩ => ?_
  subst hv
  replace st := st.call st1 rfl
  clear st1
  refine gT rfl ?_
  refine aBinV (.bool false) rfl rfl rfl ?_
  refine aN rfl rfl (by constructor) ?_
  refine sE ?_
  show AW _ (.cond _ _ _) _ _ _
  refine cF' rfl ?_
  show AWl _ _ _ _ _
  refine aMovV x rfl ?_
  refine aN rfl rfl (by constructor) ?_
  refine aC (pack_call (w := false) (st.slc hx) hb hl) fun v24 H5 ⟨ob24, hv, st1⟩ => ?_
  subst hv
  replace st := st.call st1 rfl
  clear st1
  refine aMovA rfl ?_
  refine sE ?_
  show AWl _ _ _ _ _
  refine aMovV y rfl ?_
  refine aN rfl rfl (by constructor) ?_
  refine aC (unpack_false_call (st.slc hy) hb0 (by omega) (by omega)) fun v28 H6 ⟨ob28, hv, st1⟩ => ?_
  subst hv
  replace st := st.call st1 rfl
  clear st1
  refine aN rfl rfl (by constructor) ?_
  refine aExtA rfl rfl ?_
  refine aN rfl rfl (by constructor) ?_
  refine aMovA rfl ?_
  refine aN rfl rfl (by constructor) ?_
  refine sE ?_
  show AWl _ _ _ _ _
  refine aMovV y rfl ?_
  refine aN rfl rfl (by constructor) ?_
  refine aC (runpack_false_call (st.slc hy) hb0 (by omega) (by omega)) fun v34 H7 ⟨ob34, hv, st1⟩ => ?_
  subst hv
  replace st := st.call st1 rfl
  clear st1
  refine aN rfl rfl (by constructor) ?_
  refine aExtA rfl rfl ?_
  refine aN rfl rfl (by constructor) ?_
  refine aMovA rfl ?_
  refine aN rfl rfl (by constructor) ?_
  refine sE ?_
  show AWp _ _ _ _ _
  refine aMovA rfl ?_
  refine aText (st.rowAcc 2 rfl (by decide) (by simp)) rfl ?_
  refine aMovV x rfl ?_
  refine aN rfl rfl (by constructor) ?_
  refine ⟨?_, trivial⟩
  refine aC (rpack_call (w := false) (st.slc hx) hb hl) fun v41 H8 ⟨ob41, hv, st1⟩ => ?_
  subst hv
  replace st := st.call st1 rfl
  clear st1
  refine ⟨⟨(h_Text (st.rowAcc 3 rfl (by decide) (by simp)) rfl), trivial⟩, ?_⟩
  refine aText (st.rowAcc 0 rfl (by decide) (by simp)) rfl ?_
  refine aEqSS rfl rfl ?_
  refine aN rfl rfl (by constructor) ?_
  refine gT rfl ?_
  refine aN rfl rfl (by constructor) ?_
  refine gT rfl ?_
  refine aN rfl rfl (by constructor) ?_
  refine gT rfl ?_
  refine aEqBB rfl rfl ?_
  refine aN rfl rfl (by constructor) ?_
  refine aN rfl rfl (by constructor) ?_
  refine gT rfl ?_
  refine aMovA rfl ?_
  refine gT rfl ?_
  refine aMovA rfl ?_
  refine ⟨?_, trivial⟩
  refine gT rfl ?_
  refine aC (same_call (bs := unR false xs) (st.rowAcc 2 rfl (by decide) (by rw [encs_len (unR_ok hb0)])) (st.rowAcc 1 rfl (by decide) (by rw [encs_len (unR_ok hb0)])) (unR_ok hb0) (by have := unR_len false xs; omega)) fun v52 H9 ⟨hv, st1⟩ => ?_
  subst hv
  replace st := st.call st1 rfl
  clear st1
  refine ⟨⟨(h_Text (st.rowAcc 0 rfl (by decide) (by simp)) rfl), (h_Text (st.rowAcc 3 rfl (by decide) (by simp)) rfl), trivial⟩, ?_⟩
  refine aN rfl rfl (by constructor) ?_
  refine aN rfl rfl (by constructor) ?_
  refine pE ?_
  refine ⟨_, out1 (r_tmp rfl (by constructor)), ?_⟩
  rfl
theorem packs_true {H : Hp} {bs : List Bk} {xs : List Int} {x y : Value} (hx : Sl H 19 bs.length (encs bs) x) (hb : BksOk bs) (hl : bs.length * 24 ≤ 140737488351232) (hy : Sl H 1 xs.length (xs.map (Value.int .u8)) y) (hb0 : ByteL xs) (hl2 : xs.length * 2 ≤ 140737488351232) :
    ACalls Try.prog 5 [x, y, .bool true] H (fun v _ => v = .bool true) := by
  refine acallsW Try.func5 f5_ok (Nat.le_of_ble_eq_true rfl) fun hw => ?_
  have st : Stt [] H H [] := Stt.start hw
  unfold f5c
  show AWl _ _ _ _ _
  refine aN rfl rfl (by constructor) ?_
  refine sE ?_
  show AWl _ _ _ _ _
  refine aC (awake_call).wf fun v12 H2 ⟨⟨hv1, hF12⟩, hw12⟩ => ?_
  subst hv1
  have st := st.call (Stt.of_frm st.wf hw12 hF12) rfl
  refine aN rfl rfl (by constructor) ?_
  refine aN rfl rfl (by constructor) ?_
  refine gT rfl ?_
  refine aC (size_false_call) fun v15 H3 ⟨hv, st1⟩ => ?_
  subst hv
  replace st := st.call st1 rfl
  clear st1
  refine gT rfl ?_
  refine aBinV (.bool false) rfl rfl rfl ?_
  refine aN rfl rfl (by constructor) ?_
  refine aN rfl rfl (by constructor) ?_
  refine gT rfl ?_
  refine aC (size_true_call) fun v19 H4 ⟨hv, st1⟩ => ?_
  subst hv
  replace st := st.call st1 rfl
  clear st1
  refine gT rfl ?_
  refine aBinV (.bool false) rfl rfl rfl ?_
  refine aN rfl rfl (by constructor) ?_
  refine sE ?_
  show AW _ (.cond _ _ _) _ _ _
  refine cF' rfl ?_
  show AWl _ _ _ _ _
  refine aMovV x rfl ?_
  refine aN rfl rfl (by constructor) ?_
  refine aC (pack_call (w := true) (st.slc hx) hb hl) fun v24 H5 ⟨ob24, hv, st1⟩ => ?_
  subst hv
  replace st := st.call st1 rfl
  clear st1
  refine aMovA rfl ?_
  refine sE ?_
  show AWl _ _ _ _ _
  refine aMovV y rfl ?_
  refine aN rfl rfl (by constructor) ?_
  refine aC (unpack_true_call (st.slc hy) hb0 (by omega) (by omega)) fun v28 H6 ⟨ob28, hv, st1⟩ => ?_
  subst hv
  replace st := st.call st1 rfl
  clear st1
  refine aN rfl rfl (by constructor) ?_
  refine aExtA rfl rfl ?_
  refine aN rfl rfl (by constructor) ?_
  refine aMovA rfl ?_
  refine aN rfl rfl (by constructor) ?_
  refine sE ?_
  show AWl _ _ _ _ _
  refine aMovV y rfl ?_
  refine aN rfl rfl (by constructor) ?_
  refine aC (runpack_true_call (st.slc hy) hb0 (by omega) (by omega)) fun v34 H7 ⟨ob34, hv, st1⟩ => ?_
  subst hv
  replace st := st.call st1 rfl
  clear st1
  refine aN rfl rfl (by constructor) ?_
  refine aExtA rfl rfl ?_
  refine aN rfl rfl (by constructor) ?_
  refine aMovA rfl ?_
  refine aN rfl rfl (by constructor) ?_
  refine sE ?_
  show AWp _ _ _ _ _
  refine aMovA rfl ?_
  refine aText (st.rowAcc 2 rfl (by decide) (by simp)) rfl ?_
  refine aMovV x rfl ?_
  refine aN rfl rfl (by constructor) ?_
  refine ⟨?_, trivial⟩
  refine aC (rpack_call (w := true) (st.slc hx) hb hl) fun v41 H8 ⟨ob41, hv, st1⟩ => ?_
  subst hv
  replace st := st.call st1 rfl
  clear st1
  refine ⟨⟨(h_Text (st.rowAcc 3 rfl (by decide) (by simp)) rfl), trivial⟩, ?_⟩
  refine aText (st.rowAcc 0 rfl (by decide) (by simp)) rfl ?_
  refine aEqSS rfl rfl ?_
  refine aN rfl rfl (by constructor) ?_
  refine gT rfl ?_
  refine aN rfl rfl (by constructor) ?_
  refine gT rfl ?_
  refine aN rfl rfl (by constructor) ?_
  refine gT rfl ?_
  refine aEqBB rfl rfl ?_
  refine aN rfl rfl (by constructor) ?_
  refine aN rfl rfl (by constructor) ?_
  refine gT rfl ?_
  refine aMovA rfl ?_
  refine gT rfl ?_
  refine aMovA rfl ?_
  refine ⟨?_, trivial⟩
  refine gT rfl ?_
  refine aC (same_call (bs := unR true xs) (st.rowAcc 2 rfl (by decide) (by rw [encs_len (unR_ok hb0)])) (st.rowAcc 1 rfl (by decide) (by rw [encs_len (unR_ok hb0)])) (unR_ok hb0) (by have := unR_len true xs; omega)) fun v52 H9 ⟨hv, st1⟩ => ?_
  subst hv
  replace st := st.call st1 rfl
  clear st1
  refine ⟨⟨(h_Text (st.rowAcc 0 rfl (by decide) (by simp)) rfl), (h_Text (st.rowAcc 3 rfl (by decide) (by simp)) rfl), trivial⟩, ?_⟩
  refine aN rfl rfl (by constructor) ?_
  refine aN rfl rfl (by constructor) ?_
  refine pE ?_
  refine ⟨_, out1 (r_tmp rfl (by constructor)), ?_⟩
  rfl
end Go.Proofs.Ytbbdggmnjkkjkaa.Abs
