/- PDUs: PduReads. -/
import Derived.Test.YtfjlniemgmimnaaU6
set_option linter.unusedVariables false
set_option linter.unusedSimpArgs false
set_option maxRecDepth 100000
namespace Go.Proofs.Ytfjlniemgmimnaa.Abs
open Go Go.RowKit
theorem reads_call {H : Hp} {xs : List Int} {x : Value} {hd dt : Bool} (hx : Sl H 1 xs.length (xs.map (Value.int .u8)) x) (hb : ByteL xs) (hl : xs.length ≤ 140737488351232) :
  ACalls Try.prog 4 [x, .bool hd, .bool dt] H (fun v _ => v = .bool true) := by
 refine acallsW Try.func4 f4_ok (Nat.le_of_ble_eq_true rfl) fun hw => ?_
 have st : Stt [] H H [] := Stt.start hw
 unfold f4c
 show AWl _ _ _ _ _
 refine aN rfl rfl (by constructor) ?_
 refine sE ?_
 show AWl _ _ _ _ _
 refine aC (awake_call) fun v13 H1 ⟨hv, st1⟩ => ?_
 subst hv
 replace st := st.call st1 rfl
 clear st1
 refine aN rfl rfl (by constructor) ?_
 refine sE ?_
 show AW _ (.cond _ _ _) _ _ _
 refine cF' rfl ?_
 show AWl _ _ _ _ _
 refine aMovV x rfl ?_
 iterate 2 refine aN rfl rfl (by constructor) ?_
 refine aC (pdec_call (st.slc hx) hb (hl)) fun v19 H2 ⟨ob19, hv, st1⟩ => ?_
 subst hv
 replace st := st.call st1 rfl
 clear st1
 iterate 4 refine aN rfl rfl (by constructor) ?_
 refine aNewP st rfl rfl (by repeat constructor) fun b7 H3 st => ?_
 refine aSt st 0 rfl rfl rfl rfl (by first | rfl | simp [cellsOf, *]) (by first | decide | (simp [*]; done) | (simp [k8]; done)) (by repeat constructor) fun H4 st => ?_
 iterate 2 refine aN rfl rfl (by constructor) ?_
 refine sE ?_
 show AWl _ _ _ _ _
 refine aMovV x rfl ?_
 iterate 2 refine aN rfl rfl (by constructor) ?_
 refine aC (rdec_call (st.slc hx) hb (hl)) fun v27 H5 ⟨ob27, hv, st1⟩ => ?_
 subst hv
 replace st := st.call st1 rfl
 clear st1
 iterate 4 refine aN rfl rfl (by constructor) ?_
 refine aNewP st rfl rfl (by repeat constructor) fun b10 H6 st => ?_
 refine aSt st 0 rfl rfl rfl rfl (by first | rfl | simp [cellsOf, *]) (by first | decide | (simp [*]; done) | (simp [k8]; done)) (by repeat constructor) fun H7 st => ?_
 iterate 2 refine aN rfl rfl (by constructor) ?_
 refine sE ?_
 show AWl _ _ _ _ _
 iterate 2 refine aN rfl rfl (by constructor) ?_
 refine aEqII rfl rfl ?_
 refine aN rfl rfl (by constructor) ?_
 refine gT rfl ?_
 refine aN rfl rfl (by constructor) ?_
 refine gT rfl ?_
 refine aN rfl rfl (by constructor) ?_
 refine gT rfl ?_
 refine aEqII rfl rfl ?_
 iterate 2 refine aN rfl rfl (by constructor) ?_
 refine gT rfl ?_
 refine aLdA st 2 rfl rfl (by first | decide | simp [*]) (by repeat constructor) ?_
 refine gT rfl ?_
 refine aLdA st 0 rfl rfl (by first | decide | simp [*]) (by repeat constructor) ?_
 refine gT rfl ?_
 refine aC (same_call (p := decP xs hd dt) (st.rowAcc 3 rfl (by decide) (by simp)) (st.rowAcc 1 rfl (by decide) (by simp))) fun v42 H8 ⟨hv, st1⟩ => ?_
 subst hv
 replace st := st.call st1 rfl
 clear st1
 iterate 2 refine aN rfl rfl (by constructor) ?_
 refine sE ?_
 refine ⟨_, out1 (r_tmp rfl (by constructor)), ?_⟩
 rfl
end Go.Proofs.Ytfjlniemgmimnaa.Abs
