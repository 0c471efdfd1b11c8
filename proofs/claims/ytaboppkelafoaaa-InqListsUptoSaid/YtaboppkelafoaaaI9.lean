/- Inq: InqPages. -/
import Derived.Test.YtaboppkelafoaaaI8
set_option linter.unusedVariables false
set_option linter.unusedSimpArgs false
set_option maxRecDepth 100000
namespace Go.Proofs.Ytaboppkelafoaaa.Abs
open Go Go.RowKit
theorem pages_call {H : Hp} {i : Inf} {pg : Int} (hs : i.wf) (hp : 0 ≤ pg ∧ pg < 256) :
    ACalls Try.prog 5 [.agg #[.string (ofInts i.v), .string (ofInts i.p), .string (ofInts i.r), .string (ofInts i.s), .int .u8 i.prot], .int .u8 pg] H (fun v _ => v = .bool true) := by
  refine acallsW Try.func5 f5_ok (Nat.le_of_ble_eq_true rfl) fun hw => ?_
  have st : Stt [] H H [] := Stt.start hw
  unfold f5c
  show AWl _ _ _ _ _
  refine aBoxN st rfl rfl (by repeat constructor) rfl fun b2 H1 st => ?_
  refine aN rfl rfl (by constructor) ?_
  refine sE ?_
  show AWl _ _ _ _ _
  refine aC (awake_call) fun v9 H2 ⟨hv, st1⟩ => ?_
  subst hv
  replace st := st.call st1 rfl
  clear st1
  refine aN rfl rfl (by constructor) ?_
  refine sE ?_
  show AW _ (.cond _ _ _) _ _ _
  refine cF' rfl ?_
  show AWl _ _ _ _ _
  refine aLdA st 0 rfl rfl (by first | decide | simp [*]) (by repeat constructor) ?_
  refine aN rfl rfl (by constructor) ?_
  refine aC (page_call hs) fun v14 H3 ⟨ob14, hv, st1⟩ => ?_
  subst hv
  replace st := st.call st1 rfl
  clear st1
  refine aN rfl rfl (by constructor) ?_
  refine aExtA rfl rfl ?_
  refine aN rfl rfl (by constructor) ?_
  refine aMovA rfl ?_
  refine aN rfl rfl (by constructor) ?_
  refine sE ?_
  show AWl _ _ _ _ _
  refine aLdA st 1 rfl rfl (by first | decide | simp [*]) (by repeat constructor) ?_
  refine aC (of_call hs) fun v19 H4 ⟨hv, st1⟩ => ?_
  subst hv
  replace st := st.call st1 rfl
  clear st1
  refine aN rfl rfl (by constructor) ?_
  refine aC (rpage_call hs hp) fun v21 H5 ⟨hv, st1⟩ => ?_
  subst hv
  replace st := st.call st1 rfl
  clear st1
  refine aN rfl rfl (by constructor) ?_
  refine aN rfl rfl (by constructor) ?_
  refine aN rfl rfl (by constructor) ?_
  refine aN rfl rfl (by constructor) ?_
  refine aN rfl rfl (by constructor) ?_
  refine sE ?_
  show AWp _ _ _ _ _
  refine aLdA st 1 rfl rfl (by first | decide | simp [*]) (by repeat constructor) ?_
  refine aLdA st 1 rfl rfl (by first | decide | simp [*]) (by repeat constructor) ?_
  refine ⟨?_, trivial⟩
  refine aC (form_call hs) fun v25 H6 ⟨hv, st1⟩ => ?_
  subst hv
  replace st := st.call st1 rfl
  clear st1
  refine ⟨⟨(h_LdA st 1 rfl rfl (by first | decide | simp [*]) (by repeat constructor)), trivial⟩, ?_⟩
  refine ⟨?_, trivial⟩
  refine aC (of_call hs) fun v27 H7 ⟨hv, st1⟩ => ?_
  subst hv
  replace st := st.call st1 rfl
  clear st1
  refine ⟨⟨(h_LdA st 1 rfl rfl (by first | decide | simp [*]) (by repeat constructor)), trivial⟩, ?_⟩
  refine ⟨?_, trivial⟩
  refine aC (rform_call hs) fun v28 H8 ⟨hv, st1⟩ => ?_
  subst hv
  replace st := st.call st1 rfl
  clear st1
  refine ⟨⟨(h_LdA st 1 rfl rfl (by first | decide | simp [*]) (by repeat constructor)), (h_LdA st 1 rfl rfl (by first | decide | simp [*]) (by repeat constructor)), trivial⟩, ?_⟩
  refine aEqBB rfl rfl ?_
  refine aN rfl rfl (by constructor) ?_
  refine gT rfl ?_
  refine aLdA st 1 rfl rfl (by first | decide | simp [*]) (by repeat constructor) ?_
  refine gT rfl ?_
  refine aLdA st 1 rfl rfl (by first | decide | simp [*]) (by repeat constructor) ?_
  refine ⟨?_, trivial⟩
  refine gT rfl ?_
  refine aC (std_call hs) fun v32 H9 ⟨ob32, hv, st1⟩ => ?_
  subst hv
  replace st := st.call st1 rfl
  clear st1
  refine ⟨⟨⟨some true, .bool true, (h_LdA st 2 rfl rfl (by first | decide | simp [*]) (by repeat constructor))⟩, (h_LdA st 2 rfl rfl (by first | decide | simp [*]) (by repeat constructor)), (h_LdA st 2 rfl rfl (by first | decide | simp [*]) (by repeat constructor)), trivial⟩, ?_⟩
  refine gT rfl ?_
  refine aText (st.rowAcc 0 rfl (by decide) (by simp)) rfl ?_
  refine ⟨?_, trivial⟩
  refine gT rfl ?_
  refine aC (of_call hs) fun v35 H10 ⟨hv, st1⟩ => ?_
  subst hv
  replace st := st.call st1 rfl
  clear st1
  refine ⟨⟨⟨some true, .bool true, (h_Text (st.rowAcc 0 rfl (by decide) (by simp)) rfl)⟩, ⟨some true, .bool true, (h_LdA st 2 rfl rfl (by first | decide | simp [*]) (by repeat constructor))⟩, (h_LdA st 2 rfl rfl (by first | decide | simp [*]) (by repeat constructor)), (h_LdA st 2 rfl rfl (by first | decide | simp [*]) (by repeat constructor)), trivial⟩, ?_⟩
  refine ⟨?_, trivial⟩
  refine gT rfl ?_
  refine aC (rstd_call hs) fun v36 H11 ⟨hv, st1⟩ => ?_
  subst hv
  replace st := st.call st1 rfl
  clear st1
  refine ⟨⟨⟨some true, .bool true, (h_Text (st.rowAcc 0 rfl (by decide) (by simp)) rfl)⟩, ⟨some true, .bool true, (h_LdA st 2 rfl rfl (by first | decide | simp [*]) (by repeat constructor))⟩, ⟨some true, .bool true, (h_LdA st 2 rfl rfl (by first | decide | simp [*]) (by repeat constructor))⟩, (h_LdA st 2 rfl rfl (by first | decide | simp [*]) (by repeat constructor)), (h_LdA st 2 rfl rfl (by first | decide | simp [*]) (by repeat constructor)), trivial⟩, ?_⟩
  refine gT rfl ?_
  refine aEqSS rfl rfl ?_
  refine aN rfl rfl (by constructor) ?_
  refine aN rfl rfl (by constructor) ?_
  refine gT rfl ?_
  refine aMovA rfl ?_
  refine gT rfl ?_
  refine aText (st.rowAcc 1 rfl (by decide) (by simp)) rfl ?_
  refine gT rfl ?_
  refine aN rfl rfl (by constructor) ?_
  refine gT rfl ?_
  refine aEqSS rfl rfl ?_
  refine aN rfl rfl (by constructor) ?_
  refine aN rfl rfl (by constructor) ?_
  refine gT rfl ?_
  refine aN rfl rfl (by constructor) ?_
  refine gT rfl ?_
  refine aN rfl rfl (by constructor) ?_
  refine gT rfl ?_
  refine aEqBB rfl rfl ?_
  refine aN rfl rfl (by constructor) ?_
  refine aN rfl rfl (by constructor) ?_
  refine pE ?_
  refine ⟨_, out1 (r_tmp rfl (by constructor)), ?_⟩
  rfl
end Go.Proofs.Ytaboppkelafoaaa.Abs
