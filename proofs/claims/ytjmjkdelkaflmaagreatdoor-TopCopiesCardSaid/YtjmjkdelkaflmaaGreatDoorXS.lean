/- A unit is made: its form. -/
import Derived.Test.YtjmjkdelkaflmaaGreatDoorXI
import Derived.Test.YtjmjkdelkaflmaaGreatDoorXR
set_option linter.unusedVariables false
set_option linter.unusedSimpArgs false
set_option maxRecDepth 100000
namespace Go.Proofs.YtjmjkdelkaflmaaGreatDoor.Abs
open Go Go.RowKit
theorem itext_e {H : Hp} {m : Int} (hm : 0 ≤ m) :
  ACalls Tryz.prog 69 [.string ⟨#[]⟩, .int .i64 0, .int .i64 m] H (fun v H' => v = .bool true ∧ Stt [] H H' []) := by
 refine acallsW Tryz.func69 f69_ok (Nat.le_of_ble_eq_true rfl) fun hw => ?_
 have st : Stt [] H H [] := Stt.start hw
 unfold f69c
 refine zw ?_
 refine zm ?_
 refine zw ?_
 refine zm ?_
 refine aN (v := .int .i64 0) rfl rfl (by constructor) ?_
 refine zm ?_
 refine sE ?_
 show AW _ (.loop _) _ _ _
 refine AW_fuel 1 ?_
 show AW _ _ _ _ _
 refine zw ?_
 refine zb (.bool false) ?_
 refine zf ?_
 refine zw ?_
 refine zm ?_
 refine aN (v := .int .i64 0) rfl rfl (by constructor) ?_
 refine zm ?_
 refine zb (.bool true) ?_
 refine zm ?_
 refine zg ?_
 refine zm ?_
 refine zg ?_
 refine aN (v := .int .i64 0) rfl rfl (by constructor) ?_
 refine zg ?_
 refine zm ?_
 refine zg ?_
 refine aBinV (.bool true) rfl rfl (leT (by omega)) ?_
 iterate 2 refine zm ?_
 refine sE ?_
 refine ⟨_, out1 zr, ?_⟩
 exact ⟨rfl, st.drop⟩
theorem itext_S {H : Hp} {m : Int}  :
  ACalls Tryz.prog 69 [.string ⟨#[83]⟩, .int .i64 1, .int .i64 20] H (fun v H' => v = .bool true ∧ Stt [] H H' []) := by
 refine acallsW Tryz.func69 f69_ok (Nat.le_of_ble_eq_true rfl) fun hw => ?_
 have st : Stt [] H H [] := Stt.start hw
 unfold f69c
 refine zw ?_
 refine zm ?_
 refine zw ?_
 refine zm ?_
 refine aN (v := .int .i64 1) rfl rfl (by constructor) ?_
 refine zm ?_
 refine sE ?_
 show AW _ (.loop _) _ _ _
 refine AW_fuel 2 ?_
 show AW _ _ _ _ _
 refine zw ?_
 refine zb (.bool true) ?_
 show AW _ (.cond _ _ _) _ _ _
 refine cT rfl ?_
 refine zw ?_
 iterate 2 refine zm ?_
 refine zw ?_
 iterate 2 refine zm ?_
 refine aN (v := .int .u8 83) rfl rfl (by constructor) ?_
 refine zb (.bool false) ?_
 refine zm ?_
 refine zg ?_
 refine zm ?_
 refine zg ?_
 refine zm ?_
 refine zg ?_
 refine aN (v := .int .u8 83) rfl rfl (by constructor) ?_
 refine zg ?_
 refine zb (.bool false) ?_
 refine zm ?_
 refine zf ?_
 refine zw ?_
 refine zb (.int .i64 1) ?_
 refine zm ?_
 refine sE ?_
 show AW _ _ _ _ _
 refine zw ?_
 refine zb (.bool false) ?_
 refine zf ?_
 refine zw ?_
 refine zm ?_
 refine aN (v := .int .i64 1) rfl rfl (by constructor) ?_
 refine zm ?_
 refine zb (.bool true) ?_
 refine zm ?_
 refine zg ?_
 refine zm ?_
 refine zg ?_
 refine aN (v := .int .i64 1) rfl rfl (by constructor) ?_
 refine zg ?_
 refine zm ?_
 refine zg ?_
 refine zb (.bool true) ?_
 iterate 2 refine zm ?_
 refine sE ?_
 refine ⟨_, out1 zr, ?_⟩
 exact ⟨rfl, st.drop⟩
theorem itext_S0 {H : Hp} {m : Int}  :
  ACalls Tryz.prog 69 [.string ⟨#[83, 48]⟩, .int .i64 1, .int .i64 20] H (fun v H' => v = .bool true ∧ Stt [] H H' []) := by
 refine acallsW Tryz.func69 f69_ok (Nat.le_of_ble_eq_true rfl) fun hw => ?_
 have st : Stt [] H H [] := Stt.start hw
 unfold f69c
 refine zw ?_
 refine zm ?_
 refine zw ?_
 refine zm ?_
 refine aN (v := .int .i64 2) rfl rfl (by constructor) ?_
 refine zm ?_
 refine sE ?_
 show AW _ (.loop _) _ _ _
 refine AW_fuel 3 ?_
 show AW _ _ _ _ _
 refine zw ?_
 refine zb (.bool true) ?_
 show AW _ (.cond _ _ _) _ _ _
 refine cT rfl ?_
 refine zw ?_
 iterate 2 refine zm ?_
 refine zw ?_
 iterate 2 refine zm ?_
 refine aN (v := .int .u8 83) rfl rfl (by constructor) ?_
 refine zb (.bool false) ?_
 refine zm ?_
 refine zg ?_
 refine zm ?_
 refine zg ?_
 refine zm ?_
 refine zg ?_
 refine aN (v := .int .u8 83) rfl rfl (by constructor) ?_
 refine zg ?_
 refine zb (.bool false) ?_
 refine zm ?_
 refine zf ?_
 refine zw ?_
 refine zb (.int .i64 1) ?_
 refine zm ?_
 refine sE ?_
 show AW _ _ _ _ _
 refine zw ?_
 refine zb (.bool true) ?_
 show AW _ (.cond _ _ _) _ _ _
 refine cT rfl ?_
 refine zw ?_
 iterate 2 refine zm ?_
 refine zw ?_
 iterate 2 refine zm ?_
 refine aN (v := .int .u8 48) rfl rfl (by constructor) ?_
 refine zb (.bool false) ?_
 refine zm ?_
 refine zg ?_
 refine zm ?_
 refine zg ?_
 refine zm ?_
 refine zg ?_
 refine aN (v := .int .u8 48) rfl rfl (by constructor) ?_
 refine zg ?_
 refine zb (.bool false) ?_
 refine zm ?_
 refine zf ?_
 refine zw ?_
 refine zb (.int .i64 2) ?_
 refine zm ?_
 refine sE ?_
 show AW _ _ _ _ _
 refine zw ?_
 refine zb (.bool false) ?_
 refine zf ?_
 refine zw ?_
 refine zm ?_
 refine aN (v := .int .i64 2) rfl rfl (by constructor) ?_
 refine zm ?_
 refine zb (.bool true) ?_
 refine zm ?_
 refine zg ?_
 refine zm ?_
 refine zg ?_
 refine aN (v := .int .i64 2) rfl rfl (by constructor) ?_
 refine zg ?_
 refine zm ?_
 refine zg ?_
 refine zb (.bool true) ?_
 iterate 2 refine zm ?_
 refine sE ?_
 refine ⟨_, out1 zr, ?_⟩
 exact ⟨rfl, st.drop⟩
theorem itext_S1 {H : Hp} {m : Int}  :
  ACalls Tryz.prog 69 [.string ⟨#[83, 49]⟩, .int .i64 1, .int .i64 20] H (fun v H' => v = .bool true ∧ Stt [] H H' []) := by
 refine acallsW Tryz.func69 f69_ok (Nat.le_of_ble_eq_true rfl) fun hw => ?_
 have st : Stt [] H H [] := Stt.start hw
 unfold f69c
 refine zw ?_
 refine zm ?_
 refine zw ?_
 refine zm ?_
 refine aN (v := .int .i64 2) rfl rfl (by constructor) ?_
 refine zm ?_
 refine sE ?_
 show AW _ (.loop _) _ _ _
 refine AW_fuel 3 ?_
 show AW _ _ _ _ _
 refine zw ?_
 refine zb (.bool true) ?_
 show AW _ (.cond _ _ _) _ _ _
 refine cT rfl ?_
 refine zw ?_
 iterate 2 refine zm ?_
 refine zw ?_
 iterate 2 refine zm ?_
 refine aN (v := .int .u8 83) rfl rfl (by constructor) ?_
 refine zb (.bool false) ?_
 refine zm ?_
 refine zg ?_
 refine zm ?_
 refine zg ?_
 refine zm ?_
 refine zg ?_
 refine aN (v := .int .u8 83) rfl rfl (by constructor) ?_
 refine zg ?_
 refine zb (.bool false) ?_
 refine zm ?_
 refine zf ?_
 refine zw ?_
 refine zb (.int .i64 1) ?_
 refine zm ?_
 refine sE ?_
 show AW _ _ _ _ _
 refine zw ?_
 refine zb (.bool true) ?_
 show AW _ (.cond _ _ _) _ _ _
 refine cT rfl ?_
 refine zw ?_
 iterate 2 refine zm ?_
 refine zw ?_
 iterate 2 refine zm ?_
 refine aN (v := .int .u8 49) rfl rfl (by constructor) ?_
 refine zb (.bool false) ?_
 refine zm ?_
 refine zg ?_
 refine zm ?_
 refine zg ?_
 refine zm ?_
 refine zg ?_
 refine aN (v := .int .u8 49) rfl rfl (by constructor) ?_
 refine zg ?_
 refine zb (.bool false) ?_
 refine zm ?_
 refine zf ?_
 refine zw ?_
 refine zb (.int .i64 2) ?_
 refine zm ?_
 refine sE ?_
 show AW _ _ _ _ _
 refine zw ?_
 refine zb (.bool false) ?_
 refine zf ?_
 refine zw ?_
 refine zm ?_
 refine aN (v := .int .i64 2) rfl rfl (by constructor) ?_
 refine zm ?_
 refine zb (.bool true) ?_
 refine zm ?_
 refine zg ?_
 refine zm ?_
 refine zg ?_
 refine aN (v := .int .i64 2) rfl rfl (by constructor) ?_
 refine zg ?_
 refine zm ?_
 refine zg ?_
 refine zb (.bool true) ?_
 iterate 2 refine zm ?_
 refine sE ?_
 refine ⟨_, out1 zr, ?_⟩
 exact ⟨rfl, st.drop⟩
theorem tag1_form_all (a : Nat) {p : Prop} (h : a = a → p) : p := h rfl
set_option maxHeartbeats 8000000 in
theorem form_all : (∀ {H : Hp} {pr : Int} (hpr : pr ≤ 3), ACalls Tryz.prog 35 [.agg #[.string ⟨#[]⟩, .string ⟨#[]⟩, .string ⟨#[]⟩, .string ⟨#[83]⟩, .int .u8 pr]] H (fun v H' => v = .bool true ∧ Stt [] H H' [])) ∧
  (∀ {H : Hp} {pr : Int} (hpr : pr ≤ 3), ACalls Tryz.prog 35 [.agg #[.string ⟨#[]⟩, .string ⟨#[]⟩, .string ⟨#[]⟩, .string ⟨#[83, 48]⟩, .int .u8 pr]] H (fun v H' => v = .bool true ∧ Stt [] H H' [])) ∧
  (∀ {H : Hp} {pr : Int} (hpr : pr ≤ 3), ACalls Tryz.prog 35 [.agg #[.string ⟨#[]⟩, .string ⟨#[]⟩, .string ⟨#[]⟩, .string ⟨#[83, 49]⟩, .int .u8 pr]] H (fun v H' => v = .bool true ∧ Stt [] H H' [])) := by
 refine ⟨@tag1_form_all 0 _ ?_, @tag1_form_all 1 _ ?_, @tag1_form_all 2 _ ?_⟩ <;> intro ta H pr hpr
 all_goals
  refine acallsW Tryz.func35 f35_ok (Nat.le_of_ble_eq_true rfl) fun hw => ?_
  have st : Stt [] H H [] := Stt.start hw
  unfold f35c
  refine zw ?_
  refine aBoxN st rfl rfl (by repeat constructor) rfl fun b1 H1 st => ?_
  refine zm ?_
  refine zw ?_
  refine zm ?_
  refine zl st 0 ?_
  refine aC (itext_e (by decide)) fun v5 H2 ⟨hv, st1⟩ => ?_
  subst hv
  replace st := st.call st1 rfl
  clear st1
  refine zm ?_
  refine zg ?_
  refine zm ?_
  refine zg ?_
  refine zl st 0 ?_
  refine zg ?_
  refine aC (itext_e (by decide)) fun v9 H3 ⟨hv, st1⟩ => ?_
  subst hv
  replace st := st.call st1 rfl
  clear st1
  iterate 2 refine zm ?_
  refine zg ?_
  refine zm ?_
  refine zg ?_
  refine zl st 0 ?_
  refine zg ?_
  refine aC (itext_e (by decide)) fun v14 H4 ⟨hv, st1⟩ => ?_
  subst hv
  replace st := st.call st1 rfl
  clear st1
  iterate 2 refine zm ?_
  refine zg ?_
  refine zm ?_
  refine zg ?_
  refine zl st 0 ?_
  refine zg ?_
  first | guard_hyp ta : 0 = 0; refine aC (itext_S (m := 20)) fun v19 H5 ⟨hv, st1⟩ => ?_ | guard_hyp ta : 1 = 1; refine aC (itext_S0 (m := 20)) fun v19 H5 ⟨hv, st1⟩ => ?_ | refine aC (itext_S1 (m := 20)) fun v19 H5 ⟨hv, st1⟩ => ?_
  subst hv
  replace st := st.call st1 rfl
  clear st1
  iterate 2 refine zm ?_
  refine zg ?_
  refine zm ?_
  refine zg ?_
  refine zl st 0 ?_
  refine zg ?_
  refine aBinV (.bool true) rfl rfl (leT (by omega)) ?_
  iterate 2 refine zm ?_
  refine sE ?_
  refine ⟨_, out1 zr, ?_⟩
  exact ⟨rfl, st.drop⟩
theorem sopen_call {H : Hp} {w : Nat} {nm : ByteArray} {nb : Int} {ca : Bool} (h1 : 1 ≤ nm.size) (h2 : nm.size ≤ 32) (h3 : 1 ≤ nb) (h4 : nb ≤ 4096) :
  ACalls Tryz.prog 36 [zP w, .string nm, .int .i64 nb, .bool ca] H (fun v H' => ∃ s, v = .tuple #[zP s, .int .i64 0] ∧ Stt [] H H' [⟨some s, true, ⟨true, 176, [zP w, .string nm, .int .i64 nb, .bool ca]⟩⟩]) := by
 refine acallsW Tryz.func36 f36_ok (Nat.le_of_ble_eq_true rfl) fun hw => ?_
 have st : Stt [] H H [] := Stt.start hw
 unfold f36c
 refine zw ?_
 iterate 2 refine zm ?_
 refine zw ?_
 iterate 2 refine zm ?_
 refine aBinV (.bool false) rfl rfl (ltF (by omega)) ?_
 refine zm ?_
 refine zg ?_
 refine zm ?_
 refine zg ?_
 refine zm ?_
 refine zg ?_
 refine aBinV (.bool false) rfl rfl (gtF (by omega)) ?_
 iterate 2 refine zm ?_
 refine zg ?_
 refine zm ?_
 refine zg ?_
 refine aBinV (.bool false) rfl rfl (ltF (by omega)) ?_
 iterate 2 refine zm ?_
 refine zg ?_
 refine zm ?_
 refine zg ?_
 refine aBinV (.bool false) rfl rfl (gtF (by omega)) ?_
 iterate 2 refine zm ?_
 refine zf ?_
 refine zw ?_
 refine zm ?_
 refine zb (.bool false) ?_
 refine zm ?_
 refine zf ?_
 refine zw ?_
 iterate 4 refine zm ?_
 refine aBld rfl (by repeat constructor) ?_
 refine aBoxN st rfl rfl (by repeat constructor) rfl fun b35 H1 st => ?_
 iterate 2 refine zm ?_
 refine sE ?_
 refine ⟨_, out2 zr zr ⟨rfl, rfl⟩, ?_⟩
 exact ⟨b35, rfl, st.sel [0] (by decide)⟩
theorem kopen_call {H : Hp} {w : Nat} {fp : ByteArray} (h1 : 1 ≤ fp.size) (h2 : fp.size ≤ 30) :
  ACalls Tryz.prog 38 [zP w, .string fp] H (fun v H' => ∃ k, v = .tuple #[zP k, .int .i64 0] ∧ Stt [] H H' [⟨some k, true, ⟨true, 178, [zP w, .string fp, .bool false, .int .i64 (-1), .int .u64 0]⟩⟩]) := by
 refine acallsW Tryz.func38 f38_ok (Nat.le_of_ble_eq_true rfl) fun hw => ?_
 have st : Stt [] H H [] := Stt.start hw
 unfold f38c
 refine zw ?_
 iterate 2 refine zm ?_
 refine zw ?_
 iterate 2 refine zm ?_
 refine aBinV (.bool false) rfl rfl (ltF (by omega)) ?_
 refine zm ?_
 refine zg ?_
 refine zm ?_
 refine zg ?_
 refine zm ?_
 refine zg ?_
 refine aBinV (.bool false) rfl rfl (gtF (by omega)) ?_
 iterate 2 refine zm ?_
 refine zf ?_
 refine zw ?_
 refine zm ?_
 refine zb (.bool false) ?_
 refine zm ?_
 refine zf ?_
 refine zw ?_
 iterate 2 refine zm ?_
 refine aBld rfl (by repeat constructor) ?_
 refine aBoxN st rfl rfl (by repeat constructor) rfl fun b21 H1 st => ?_
 iterate 2 refine zm ?_
 refine sE ?_
 refine ⟨_, out2 zr zr ⟨rfl, rfl⟩, ?_⟩
 exact ⟨b21, rfl, st.sel [0] (by decide)⟩
theorem mdef_call {H : Hp}  :
  ACalls Tryz.prog 37 [] H (fun v H' => v = .agg #[.bool true, .bool false, .bool false] ∧ Stt [] H H' []) := by
 refine acallsW Tryz.func37 f37_ok (Nat.le_of_ble_eq_true rfl) fun hw => ?_
 have st : Stt [] H H [] := Stt.start hw
 unfold f37c
 refine zw ?_
 refine zp st fun b0 H1 st => ?_
 refine zw ?_
 refine aBld rfl (by repeat constructor) ?_
 refine zx st 0 fun H2 st => ?_
 refine sE ?_
 refine ⟨_, out1 (zc st 0), ?_⟩
 exact ⟨rfl, st.drop⟩
theorem mnew_call {H : Hp}  :
  ACalls Tryz.prog 39 [.agg #[.bool true, .bool false, .bool false]] H (fun v H' => ∃ x, v = zP x ∧ Stt [] H H' [⟨some x, true, zG⟩]) := by
 refine acallsW Tryz.func39 f39_ok (Nat.le_of_ble_eq_true rfl) fun hw => ?_
 have st : Stt [] H H [] := Stt.start hw
 unfold f39c
 refine zw ?_
 refine aBoxN st rfl rfl (by repeat constructor) rfl fun b1 H1 st => ?_
 refine zm ?_
 refine zw ?_
 refine aLdA st 0 rfl rfl (by first | decide | simp [*]) (by repeat constructor) ?_
 refine aLdA st 0 rfl rfl (by first | decide | simp [*]) (by repeat constructor) ?_
 refine aBld rfl (by repeat constructor) ?_
 refine aBoxN st rfl rfl (by repeat constructor) rfl fun b6 H2 st => ?_
 refine zm ?_
 refine sE ?_
 refine ⟨_, out1 zr, ?_⟩
 exact ⟨b6, rfl, st.sel [0] (by decide)⟩
theorem prnew_call {H : Hp}  :
  ACalls Tryz.prog 40 [] H (fun v H' => ∃ x, v = zP x ∧ Stt [] H H' [⟨some x, true, zT⟩]) := by
 refine acallsW Tryz.func40 f40_ok (Nat.le_of_ble_eq_true rfl) fun hw => ?_
 have st : Stt [] H H [] := Stt.start hw
 unfold f40c
 refine zw ?_
 refine zm ?_
 refine zw ?_
 refine aBld rfl (by repeat constructor) ?_
 refine aBoxN st rfl rfl (by repeat constructor) rfl fun b2 H1 st => ?_
 refine zm ?_
 refine sE ?_
 refine ⟨_, out1 zr, ?_⟩
 exact ⟨b2, rfl, st.sel [0] (by decide)⟩
theorem anew_call {H : Hp}  :
  ACalls Tryz.prog 41 [] H (fun v H' => ∃ x, v = zP x ∧ Stt [] H H' [⟨some x, true, ⟨true, 154, [.slice none 0 0, .slice none 0 0, .slice none 0 0, .slice none 0 0, .slice none 0 0, .slice none 0 0, .slice none 0 0, .slice none 0 0]⟩⟩]) := by
 refine acallsW Tryz.func41 f41_ok (Nat.le_of_ble_eq_true rfl) fun hw => ?_
 have st : Stt [] H H [] := Stt.start hw
 unfold f41c
 refine zw ?_
 refine zm ?_
 refine zw ?_
 refine aBld rfl (by repeat constructor) ?_
 refine aBoxN st rfl rfl (by repeat constructor) rfl fun b2 H1 st => ?_
 refine zm ?_
 refine sE ?_
 refine ⟨_, out1 zr, ?_⟩
 exact ⟨b2, rfl, st.sel [0] (by decide)⟩
theorem tag1_unew_all (a : Nat) {p : Prop} (h : a = a → p) : p := h rfl
set_option maxHeartbeats 8000000 in
theorem unew_all : (∀ {H : Hp} {w : Nat} {nm : ByteArray} {nb pr : Int} (hpr : pr ≤ 3) (h1 : 1 ≤ nm.size) (h2 : nm.size ≤ 28) (h3 : 1 ≤ nb) (h4 : nb ≤ 4096), ACalls Tryz.prog 19 [zP w, .string nm, .agg #[.string ⟨#[]⟩, .string ⟨#[]⟩, .string ⟨#[]⟩, .string ⟨#[83]⟩, .int .u8 pr, .int .i64 nb]] H (fun v H' => ∃ u dv s k pg tb q, v = .tuple #[zP u, .int .i64 0] ∧ Stt [] H H' [⟨some u, true, zU ⟨#[83]⟩ pr dv k pg tb q (.slice none 0 0) 0 0 0⟩, ⟨some dv, true, zD s pr⟩, ⟨some s, true, zS w (nm ++ ⟨#[46, 100]⟩) nb⟩, ⟨some k, true, ⟨true, 178, [zP w, .string (nm ++ ⟨#[46, 112]⟩), .bool false, .int .i64 (-1), .int .u64 0]⟩⟩, ⟨some pg, true, zG⟩, ⟨some tb, true, zT⟩, ⟨some q, true, ⟨true, 154, [.slice none 0 0, .slice none 0 0, .slice none 0 0, .slice none 0 0, .slice none 0 0, .slice none 0 0, .slice none 0 0, .slice none 0 0]⟩⟩])) ∧
  (∀ {H : Hp} {w : Nat} {nm : ByteArray} {nb pr : Int} (hpr : pr ≤ 3) (h1 : 1 ≤ nm.size) (h2 : nm.size ≤ 28) (h3 : 1 ≤ nb) (h4 : nb ≤ 4096), ACalls Tryz.prog 19 [zP w, .string nm, .agg #[.string ⟨#[]⟩, .string ⟨#[]⟩, .string ⟨#[]⟩, .string ⟨#[83, 48]⟩, .int .u8 pr, .int .i64 nb]] H (fun v H' => ∃ u dv s k pg tb q, v = .tuple #[zP u, .int .i64 0] ∧ Stt [] H H' [⟨some u, true, zU ⟨#[83, 48]⟩ pr dv k pg tb q (.slice none 0 0) 0 0 0⟩, ⟨some dv, true, zD s pr⟩, ⟨some s, true, zS w (nm ++ ⟨#[46, 100]⟩) nb⟩, ⟨some k, true, ⟨true, 178, [zP w, .string (nm ++ ⟨#[46, 112]⟩), .bool false, .int .i64 (-1), .int .u64 0]⟩⟩, ⟨some pg, true, zG⟩, ⟨some tb, true, zT⟩, ⟨some q, true, ⟨true, 154, [.slice none 0 0, .slice none 0 0, .slice none 0 0, .slice none 0 0, .slice none 0 0, .slice none 0 0, .slice none 0 0, .slice none 0 0]⟩⟩])) ∧
  (∀ {H : Hp} {w : Nat} {nm : ByteArray} {nb pr : Int} (hpr : pr ≤ 3) (h1 : 1 ≤ nm.size) (h2 : nm.size ≤ 28) (h3 : 1 ≤ nb) (h4 : nb ≤ 4096), ACalls Tryz.prog 19 [zP w, .string nm, .agg #[.string ⟨#[]⟩, .string ⟨#[]⟩, .string ⟨#[]⟩, .string ⟨#[83, 49]⟩, .int .u8 pr, .int .i64 nb]] H (fun v H' => ∃ u dv s k pg tb q, v = .tuple #[zP u, .int .i64 0] ∧ Stt [] H H' [⟨some u, true, zU ⟨#[83, 49]⟩ pr dv k pg tb q (.slice none 0 0) 0 0 0⟩, ⟨some dv, true, zD s pr⟩, ⟨some s, true, zS w (nm ++ ⟨#[46, 100]⟩) nb⟩, ⟨some k, true, ⟨true, 178, [zP w, .string (nm ++ ⟨#[46, 112]⟩), .bool false, .int .i64 (-1), .int .u64 0]⟩⟩, ⟨some pg, true, zG⟩, ⟨some tb, true, zT⟩, ⟨some q, true, ⟨true, 154, [.slice none 0 0, .slice none 0 0, .slice none 0 0, .slice none 0 0, .slice none 0 0, .slice none 0 0, .slice none 0 0, .slice none 0 0]⟩⟩])) := by
 refine ⟨@tag1_unew_all 0 _ ?_, @tag1_unew_all 1 _ ?_, @tag1_unew_all 2 _ ?_⟩ <;> intro ta H w nm nb pr hpr h1 h2 h3 h4
 all_goals
  refine acallsW Tryz.func19 f19_ok (Nat.le_of_ble_eq_true rfl) fun hw => ?_
  have st : Stt [] H H [] := Stt.start hw
  unfold f19c
  refine zw ?_
  refine aBoxN st rfl rfl (by repeat constructor) rfl fun b5 H1 st => ?_
  iterate 2 refine zm ?_
  refine zw ?_
  iterate 2 refine zm ?_
  refine aBinV (.bool false) rfl rfl (ltF (by omega)) ?_
  refine zm ?_
  refine zg ?_
  refine zm ?_
  refine zg ?_
  refine zm ?_
  refine zg ?_
  refine aBinV (.bool false) rfl rfl (gtF (by omega)) ?_
  iterate 2 refine zm ?_
  refine zg ?_
  refine zm ?_
  refine zg ?_
  refine zl st 0 ?_
  refine zg ?_
  refine aBinV (.bool false) rfl rfl (ltF (by omega)) ?_
  iterate 2 refine zm ?_
  refine zg ?_
  refine zm ?_
  refine zg ?_
  refine zl st 0 ?_
  refine zg ?_
  refine aBinV (.bool false) rfl rfl (gtF (by omega)) ?_
  iterate 2 refine zm ?_
  refine zf ?_
  refine zw ?_
  refine zm ?_
  refine aLdA st 0 rfl rfl (by first | decide | simp [*]) (by repeat constructor) ?_
  first | guard_hyp ta : 0 = 0; refine aC (form_all.1 hpr) fun v34 H2 ⟨hv, st1⟩ => ?_ | guard_hyp ta : 1 = 1; refine aC (form_all.2.1 hpr) fun v34 H2 ⟨hv, st1⟩ => ?_ | refine aC (form_all.2.2 hpr) fun v34 H2 ⟨hv, st1⟩ => ?_
  subst hv
  replace st := st.call st1 rfl
  clear st1
  iterate 2 refine zm ?_
  refine zf ?_
  refine zw ?_
  refine zm ?_
  refine zb (.bool false) ?_
  refine zm ?_
  refine zf ?_
  show AWp _ _ _ _ _
  iterate 2 refine zm ?_
  refine aCatV rfl rfl (by show nm.size + 2 ≤ _; omega) ?_
  refine zm ?_
  refine zl st 0 ?_
  refine ⟨?_, trivial⟩
  refine aC (mdef_call) fun v45 H3 ⟨hv, st1⟩ => ?_
  subst hv
  replace st := st.call st1 rfl
  clear st1
  refine ⟨⟨zh st 0, trivial⟩, ?_⟩
  refine zm ?_
  refine ⟨?_, trivial⟩
  refine aC (sopen_call (by rw [ByteArray.size_append]; show 1 ≤ nm.size + 2; omega) (by rw [ByteArray.size_append]; show nm.size + 2 ≤ 32; omega) h3 h4) fun v47 H4 ⟨s47, hv, st1⟩ => ?_
  subst hv
  replace st := st.call st1 rfl
  clear st1
  refine ⟨trivial, ?_⟩
  iterate 5 refine zm ?_
  refine zw ?_
  iterate 2 refine zm ?_
  refine aCatV rfl rfl (by show nm.size + 2 ≤ _; omega) ?_
  refine aC (kopen_call (by rw [ByteArray.size_append]; show 1 ≤ nm.size + 2; omega) (by rw [ByteArray.size_append]; show nm.size + 2 ≤ 30; omega)) fun v54 H5 ⟨k54, hv, st1⟩ => ?_
  subst hv
  replace st := st.call st1 rfl
  clear st1
  iterate 5 refine zm ?_
  refine sE ?_
  show AWp _ _ _ _ _
  refine zm ?_
  refine aLdA st 2 rfl rfl (by first | decide | simp [*]) (by repeat constructor) ?_
  iterate 3 refine zm ?_
  refine zl st 2 ?_
  refine aBld rfl (by repeat constructor) ?_
  refine zm ?_
  refine ⟨?_, ?_⟩
  ·refine aBoxN st rfl rfl (by repeat constructor) rfl fun b64 H6 st => ?_
   refine ⟨⟨zh st 3, (h_LdA st 3 rfl rfl (by first | decide | simp [*]) (by repeat constructor)), trivial⟩, ?_⟩
   refine ⟨?_, trivial⟩
   refine aC (mdef_call) fun v66 H7 ⟨hv, st1⟩ => ?_
   subst hv
   replace st := st.call st1 rfl
   clear st1
   refine ⟨⟨zh st 3, (h_LdA st 3 rfl rfl (by first | decide | simp [*]) (by repeat constructor)), trivial⟩, ?_⟩
   refine ⟨?_, trivial⟩
   refine aC (mnew_call) fun v67 H8 ⟨x67, hv, st1⟩ => ?_
   subst hv
   replace st := st.call st1 rfl
   clear st1
   refine ⟨⟨zh st 4, (h_LdA st 4 rfl rfl (by first | decide | simp [*]) (by repeat constructor)), trivial⟩, ?_⟩
   refine ⟨?_, trivial⟩
   refine aC (prnew_call) fun v68 H9 ⟨x68, hv, st1⟩ => ?_
   subst hv
   replace st := st.call st1 rfl
   clear st1
   refine ⟨⟨zh st 5, (h_LdA st 5 rfl rfl (by first | decide | simp [*]) (by repeat constructor)), trivial⟩, ?_⟩
   refine ⟨?_, trivial⟩
   refine aC (anew_call) fun v69 H10 ⟨x69, hv, st1⟩ => ?_
   subst hv
   replace st := st.call st1 rfl
   clear st1
   refine ⟨⟨zh st 6, (h_LdA st 6 rfl rfl (by first | decide | simp [*]) (by repeat constructor)), trivial⟩, ?_⟩
   refine aBld rfl (by repeat constructor) ?_
   refine ⟨?_, trivial⟩
   refine aBoxN st rfl rfl (by repeat constructor) rfl fun b71 H11 st => ?_
   refine ⟨⟨zh st 7, (h_LdA st 7 rfl rfl (by first | decide | simp [*]) (by repeat constructor)), trivial⟩, ?_⟩
   iterate 2 refine zm ?_
   refine pE ?_
   refine ⟨_, out2 zr zr ⟨rfl, rfl⟩, ?_⟩
   exact ⟨b71, b64, s47, k54, x67, x68, x69, rfl, st.sel [0, 4, 6, 5, 3, 2, 1] (by decide)⟩
  ·refine ⟨?_, trivial⟩
   refine aC (mdef_call) fun v66 H12 ⟨hv, st1⟩ => ?_
   subst hv
   replace st := st.call st1 rfl
   clear st1
   refine ⟨⟨zh st 2, (h_LdA st 2 rfl rfl (by first | decide | simp [*]) (by repeat constructor)), trivial⟩, ?_⟩
   refine ⟨?_, ?_⟩
   ·refine aBoxN st rfl rfl (by repeat constructor) rfl fun b64 H13 st => ?_
    refine ⟨⟨zh st 3, (h_LdA st 3 rfl rfl (by first | decide | simp [*]) (by repeat constructor)), trivial⟩, ?_⟩
    refine ⟨?_, trivial⟩
    refine aC (mnew_call) fun v67 H14 ⟨x67, hv, st1⟩ => ?_
    subst hv
    replace st := st.call st1 rfl
    clear st1
    refine ⟨⟨zh st 4, (h_LdA st 4 rfl rfl (by first | decide | simp [*]) (by repeat constructor)), trivial⟩, ?_⟩
    refine ⟨?_, trivial⟩
    refine aC (prnew_call) fun v68 H15 ⟨x68, hv, st1⟩ => ?_
    subst hv
    replace st := st.call st1 rfl
    clear st1
    refine ⟨⟨zh st 5, (h_LdA st 5 rfl rfl (by first | decide | simp [*]) (by repeat constructor)), trivial⟩, ?_⟩
    refine ⟨?_, trivial⟩
    refine aC (anew_call) fun v69 H16 ⟨x69, hv, st1⟩ => ?_
    subst hv
    replace st := st.call st1 rfl
    clear st1
    refine ⟨⟨zh st 6, (h_LdA st 6 rfl rfl (by first | decide | simp [*]) (by repeat constructor)), trivial⟩, ?_⟩
    refine aBld rfl (by repeat constructor) ?_
    refine ⟨?_, trivial⟩
    refine aBoxN st rfl rfl (by repeat constructor) rfl fun b71 H17 st => ?_
    refine ⟨⟨zh st 7, (h_LdA st 7 rfl rfl (by first | decide | simp [*]) (by repeat constructor)), trivial⟩, ?_⟩
    iterate 2 refine zm ?_
    refine pE ?_
    refine ⟨_, out2 zr zr ⟨rfl, rfl⟩, ?_⟩
    exact ⟨b71, b64, s47, k54, x67, x68, x69, rfl, st.sel [0, 4, 6, 5, 3, 2, 1] (by decide)⟩
   ·refine ⟨?_, trivial⟩
    refine aC (mnew_call) fun v67 H18 ⟨x67, hv, st1⟩ => ?_
    subst hv
    replace st := st.call st1 rfl
    clear st1
    refine ⟨⟨zh st 3, (h_LdA st 3 rfl rfl (by first | decide | simp [*]) (by repeat constructor)), trivial⟩, ?_⟩
    refine ⟨?_, ?_⟩
    ·refine aBoxN st rfl rfl (by repeat constructor) rfl fun b64 H19 st => ?_
     refine ⟨⟨zh st 4, (h_LdA st 4 rfl rfl (by first | decide | simp [*]) (by repeat constructor)), trivial⟩, ?_⟩
     refine ⟨?_, trivial⟩
     refine aC (prnew_call) fun v68 H20 ⟨x68, hv, st1⟩ => ?_
     subst hv
     replace st := st.call st1 rfl
     clear st1
     refine ⟨⟨zh st 5, (h_LdA st 5 rfl rfl (by first | decide | simp [*]) (by repeat constructor)), trivial⟩, ?_⟩
     refine ⟨?_, trivial⟩
     refine aC (anew_call) fun v69 H21 ⟨x69, hv, st1⟩ => ?_
     subst hv
     replace st := st.call st1 rfl
     clear st1
     refine ⟨⟨zh st 6, (h_LdA st 6 rfl rfl (by first | decide | simp [*]) (by repeat constructor)), trivial⟩, ?_⟩
     refine aBld rfl (by repeat constructor) ?_
     refine ⟨?_, trivial⟩
     refine aBoxN st rfl rfl (by repeat constructor) rfl fun b71 H22 st => ?_
     refine ⟨⟨zh st 7, (h_LdA st 7 rfl rfl (by first | decide | simp [*]) (by repeat constructor)), trivial⟩, ?_⟩
     iterate 2 refine zm ?_
     refine pE ?_
     refine ⟨_, out2 zr zr ⟨rfl, rfl⟩, ?_⟩
     exact ⟨b71, b64, s47, k54, x67, x68, x69, rfl, st.sel [0, 3, 6, 5, 4, 2, 1] (by decide)⟩
    ·refine ⟨?_, trivial⟩
     refine aC (prnew_call) fun v68 H23 ⟨x68, hv, st1⟩ => ?_
     subst hv
     replace st := st.call st1 rfl
     clear st1
     refine ⟨⟨zh st 4, (h_LdA st 4 rfl rfl (by first | decide | simp [*]) (by repeat constructor)), trivial⟩, ?_⟩
     refine ⟨?_, ?_⟩
     ·refine aBoxN st rfl rfl (by repeat constructor) rfl fun b64 H24 st => ?_
      refine ⟨⟨zh st 5, (h_LdA st 5 rfl rfl (by first | decide | simp [*]) (by repeat constructor)), trivial⟩, ?_⟩
      refine ⟨?_, trivial⟩
      refine aC (anew_call) fun v69 H25 ⟨x69, hv, st1⟩ => ?_
      subst hv
      replace st := st.call st1 rfl
      clear st1
      refine ⟨⟨zh st 6, (h_LdA st 6 rfl rfl (by first | decide | simp [*]) (by repeat constructor)), trivial⟩, ?_⟩
      refine aBld rfl (by repeat constructor) ?_
      refine ⟨?_, trivial⟩
      refine aBoxN st rfl rfl (by repeat constructor) rfl fun b71 H26 st => ?_
      refine ⟨⟨zh st 7, (h_LdA st 7 rfl rfl (by first | decide | simp [*]) (by repeat constructor)), trivial⟩, ?_⟩
      iterate 2 refine zm ?_
      refine pE ?_
      refine ⟨_, out2 zr zr ⟨rfl, rfl⟩, ?_⟩
      exact ⟨b71, b64, s47, k54, x67, x68, x69, rfl, st.sel [0, 2, 6, 5, 4, 3, 1] (by decide)⟩
     ·refine ⟨?_, trivial⟩
      refine aC (anew_call) fun v69 H27 ⟨x69, hv, st1⟩ => ?_
      subst hv
      replace st := st.call st1 rfl
      clear st1
      refine ⟨⟨zh st 5, (h_LdA st 5 rfl rfl (by first | decide | simp [*]) (by repeat constructor)), trivial⟩, ?_⟩
      refine ⟨?_, trivial⟩
      refine aBoxN st rfl rfl (by repeat constructor) rfl fun b64 H28 st => ?_
      refine ⟨⟨zh st 6, (h_LdA st 6 rfl rfl (by first | decide | simp [*]) (by repeat constructor)), trivial⟩, ?_⟩
      refine aBld rfl (by repeat constructor) ?_
      refine ⟨?_, trivial⟩
      refine aBoxN st rfl rfl (by repeat constructor) rfl fun b71 H29 st => ?_
      refine ⟨⟨zh st 7, (h_LdA st 7 rfl rfl (by first | decide | simp [*]) (by repeat constructor)), trivial⟩, ?_⟩
      iterate 2 refine zm ?_
      refine pE ?_
      refine ⟨_, out2 zr zr ⟨rfl, rfl⟩, ?_⟩
      exact ⟨b71, b64, s47, k54, x67, x68, x69, rfl, st.sel [0, 1, 6, 5, 4, 3, 2] (by decide)⟩
end Go.Proofs.YtjmjkdelkaflmaaGreatDoor.Abs
