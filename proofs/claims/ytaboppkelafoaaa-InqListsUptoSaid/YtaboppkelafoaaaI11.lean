/- Inq: InqLists. -/
import Derived.Test.YtaboppkelafoaaaI10
set_option linter.unusedVariables false
set_option linter.unusedSimpArgs false
set_option maxRecDepth 100000
namespace Go.Proofs.Ytaboppkelafoaaa.Abs
open Go Go.RowKit
theorem lists_call {H : Hp} {xs ps : List Int} {x y : Value} {n : Int} (hx : Sl H 1 xs.length (xs.map (Value.int .i64)) x) (hl : xs.length ≤ 1048576) (hy : Sl H 1 ps.length (ps.map (Value.int .u8)) y) (hl2 : ps.length ≤ 140737488351232) :
    ACalls Try.prog 4 [x, y, .int .i64 n] H (fun v _ => v = .bool true) := by
  refine acallsW Try.func4 f4_ok (Nat.le_of_ble_eq_true rfl) fun hw => ?_
  have st : Stt [] H H [] := Stt.start hw
  unfold f4c
  show AWl _ _ _ _ _
  refine aN rfl rfl (by constructor) ?_
  refine sE ?_
  show AWp _ _ _ _ _
  refine ⟨?_, trivial⟩
  refine aC (awake_call) fun v7 H1 ⟨hv, st1⟩ => ?_
  subst hv
  replace st := st.call st1 rfl
  clear st1
  refine ⟨trivial, ?_⟩
  refine aN rfl rfl (by constructor) ?_
  refine gT rfl ?_
  refine aMovV x rfl ?_
  refine gT rfl ?_
  refine aMovV x rfl ?_
  refine ⟨?_, trivial⟩
  refine gT rfl ?_
  refine aC (luns_call (st.slc hx) hl) fun v10 H2 ⟨b10, hv, st1⟩ => ?_
  subst hv
  replace st := st.call st1 rfl
  clear st1
  refine ⟨trivial, ?_⟩
  refine gT rfl ?_
  refine aText (st.rowAll 0 rfl (by simp)) rfl ?_
  refine ⟨?_, trivial⟩
  refine gT rfl ?_
  refine aC (rluns_call (st.slc hx) hl) fun v13 H3 ⟨b13, hv, st1⟩ => ?_
  subst hv
  replace st := st.call st1 rfl
  clear st1
  refine ⟨⟨⟨some true, .bool true, (h_Text (st.rowAll 1 rfl (by simp)) rfl)⟩, trivial⟩, ?_⟩
  refine gT rfl ?_
  refine aText (st.rowAll 0 rfl (by simp)) rfl ?_
  refine gT rfl ?_
  refine aEqSS rfl rfl ?_
  refine aN rfl rfl (by constructor) ?_
  refine aN rfl rfl (by constructor) ?_
  refine gT rfl ?_
  refine aMovV y rfl ?_
  refine gT rfl ?_
  refine aN rfl rfl (by constructor) ?_
  refine gT rfl ?_
  refine aMovV y rfl ?_
  refine gT rfl ?_
  refine aN rfl rfl (by constructor) ?_
  refine ⟨?_, trivial⟩
  refine gT rfl ?_
  refine aC (cut_call (st.slc hy) hl2) fun v20 H4 ⟨ob20, hv, st1⟩ => ?_
  subst hv
  replace st := st.call st1 rfl
  clear st1
  refine ⟨⟨⟨some true, .bool true, (h_Text (st.rowAll 1 rfl (by simp)) rfl)⟩, ⟨some true, .bool true, (h_Text (st.rowAll 2 rfl (by simp)) rfl)⟩, trivial⟩, ?_⟩
  refine gT rfl ?_
  refine aText (st.rowAcc 0 rfl (by decide) (by simp)) rfl ?_
  refine ⟨?_, trivial⟩
  refine gT rfl ?_
  refine aC (rcut_call (st.slc hy) hl2) fun v24 H5 ⟨s24, st1⟩ => ?_
  replace st := st.call st1 rfl
  clear st1
  refine ⟨⟨⟨some true, .bool true, (h_Text (st.rowAcc 0 rfl (by decide) (by simp)) rfl)⟩, ⟨some true, .bool true, (h_Text (st.rowAll 1 rfl (by simp)) rfl)⟩, ⟨some true, .bool true, (h_Text (st.rowAll 2 rfl (by simp)) rfl)⟩, trivial⟩, ?_⟩
  refine gT rfl ?_
  refine aText s24 rfl ?_
  refine gT rfl ?_
  refine aEqSS rfl rfl ?_
  refine aN rfl rfl (by constructor) ?_
  refine aN rfl rfl (by constructor) ?_
  refine pE ?_
  refine ⟨_, out1 (r_tmp rfl (by constructor)), ?_⟩
  rfl
end Go.Proofs.Ytaboppkelafoaaa.Abs
