/- Texts: one pair. -/
import Derived.Shelf.Strings.Search2
import Derived.Test.YtloeadlmcdddnaaZJ
set_option linter.unusedVariables false
set_option linter.unusedSimpArgs false
set_option maxRecDepth 100000
namespace Go.Proofs.Ytloeadlmcdddnaa.Abs
open Go Go.RowKit
variable {tg sg bu : Int}
theorem wf_of {ρ : Rho} {H : Hp} {w0 w : World} (h : RH ρ H w0 w) : Wf H := fun b k hk => h.live hk
theorem rv_str {ρ : Rho} {s : ByteArray} {y : Value} (h : RV ρ (.string s) y) : y = .string s := by
  cases h with
  | one h =>
    cases h with
    | one h => cases h with | string s => rfl
open Go.Shelf in
def lays219_ren : Go.Shelf.Ren := ⟨fun | 219 => 51 | 217 => 52 | 225 => 53 | 224 => 54 | 267 => 55 | 266 => 56 | 314 => 57 | n => n, fun | 9 => 9 | 3 => 3 | 4 => 4 | 5 => 5 | 46 => 73 | 146 => 104 | 51 => 22 | n => n, fun | 1 => 0 | n => n⟩
open Go.Shelf in
theorem lays219 : Lays.n219 Try.prog lays219_ren := { mixed := by kernel_rfl, f217 := Eq.trans Try.func52 (congrArg some (by kernel_rfl)), f219 := Eq.trans Try.func51 (congrArg some (by kernel_rfl)), f224 := Eq.trans Try.func54 (congrArg some (by kernel_rfl)), f225 := Eq.trans Try.func53 (congrArg some (by kernel_rfl)), f266 := Eq.trans Try.func56 (congrArg some (by kernel_rfl)), f267 := Eq.trans Try.func55 (congrArg some (by kernel_rfl)), f314 := Eq.trans Try.func57 (congrArg some (by kernel_rfl)), t3 := Try.underlying3, a3 := Try.isAgg3, z3 := Try.sizeOf3, v3 := Try.zeroValue3, t4 := Try.underlying4, a4 := Try.isAgg4, z4 := Try.sizeOf4, v4 := Try.zeroValue4, t5 := Try.underlying5, a5 := Try.isAgg5, z5 := Try.sizeOf5, v5 := Try.zeroValue5, t9 := Try.underlying9, a9 := Try.isAgg9, z9 := Try.sizeOf9, v9 := Try.zeroValue9, t46 := Try.underlying73, a46 := Try.isAgg73, z46 := Try.sizeOf73, v46 := Try.zeroValue73, t51 := Try.underlying22, a51 := Try.isAgg22, z51 := Try.sizeOf22, v51 := Try.zeroValue22, t146 := Try.underlying104, a146 := Try.isAgg104, z146 := Try.sizeOf104, v146 := Try.zeroValue104, g1 := by kernel_rfl }
theorem index_call {H : Hp} {s : ByteArray} {c : UInt8} {r : Int} (hr : Lib.indexByte s.data.toList c = r) : ACalls Try.prog 51 [.string s, .string ⟨#[c]⟩] H fun v H' => v = .int .i64 r ∧ Stt [] H H' [] := by
  subst hr
  intro ρ w0 w ys hxy h
  match ys, hxy with
  | [y1, y2], .cons h1 (.cons h2 .nil) =>
    have e1 := rv_str h1
    have e2 := rv_str h2
    subst e1 e2
    refine (Any.stringslite_Index_one lays219 s c w).mono ?_
    rintro e w' ⟨rfl, rfl⟩
    exact ⟨ρ, _, H, Ext.refl ρ, .one (.one (.int _ _)), h, rfl, Stt.start (wf_of h)⟩
section
variable {P : Program} {R : Tm → Hp → Prop} {t : Tm} {H H' : Hp} {d : Option Nat} {x : Opd}
theorem aTextV {n : Nat} {xs : List Int} {u : Value} {r : ByteArray} (hs : Sl H 1 n (xs.map (Value.int .u8)) u) (hr : ofInts xs = r) (hx : ev t x = u) (kk : R (upd t d (.string r)) H) : aStep P ⟨d, .str x, none⟩ R t H := by
  subst hr
  exact aText hs hx kk
end
theorem cut_a0 {H : Hp}  :
  ACalls Try.prog 50 [.string ⟨#[97, 61, 98, 0]⟩, .string ⟨#[0]⟩] H (fun v H' => v = .tuple #[.string ⟨#[97, 61, 98]⟩, .string ⟨#[]⟩, .bool true] ∧ Stt [] H H' []) := by
 refine acallsW Try.func50 f50_ok (Nat.le_of_ble_eq_true rfl) fun hw => ?_
 have st : Stt [] H H [] := Stt.start hw
 unfold f50c
 show AWl _ _ _ _ _
 iterate 3 refine aN rfl rfl (by constructor) ?_
 refine sE ?_
 show AWl _ _ _ _ _
 iterate 2 refine aN rfl rfl (by constructor) ?_
 refine aC (index_call (s := ⟨#[97, 61, 98, 0]⟩) (c := 0) (r := 3) (by decide)) fun v10 H1 ⟨hv, st1⟩ => ?_
 subst hv
 replace st := st.call st1 rfl
 clear st1
 refine aN rfl rfl (by constructor) ?_
 refine sE ?_
 show AWl _ _ _ _ _
 refine aN rfl rfl (by constructor) ?_
 refine aBinV (.bool true) rfl rfl rfl ?_
 refine sE ?_
 show AW _ (.cond _ _ _) _ _ _
 refine cT rfl ?_
 show AWp _ _ _ _ _
 iterate 2 refine aN rfl rfl (by constructor) ?_
 refine aN (v := .string ⟨#[97, 61, 98]⟩) rfl rfl (by constructor) ?_
 iterate 3 refine aN rfl rfl (by constructor) ?_
 refine aN (v := .int .i64 1) rfl rfl (by constructor) ?_
 refine aN (v := .int .i64 4) rfl rfl (by constructor) ?_
 refine aN (v := .string ⟨#[]⟩) rfl rfl (by constructor) ?_
 iterate 3 refine aN rfl rfl (by constructor) ?_
 refine pE ?_
 refine ⟨_, out3 (r_tmp rfl (by constructor)) (r_tmp rfl (by constructor)) (r_tmp rfl (by constructor)) ⟨rfl, rfl, rfl⟩, ?_⟩
 exact ⟨rfl, st.drop⟩
theorem cut_a {H : Hp}  :
  ACalls Try.prog 45 [.string ⟨#[97, 61, 98, 0]⟩, .string ⟨#[0]⟩] H (fun v H' => v = .tuple #[.string ⟨#[97, 61, 98]⟩, .string ⟨#[]⟩, .bool true] ∧ Stt [] H H' []) := by
 refine acallsW Try.func45 f45_ok (Nat.le_of_ble_eq_true rfl) fun hw => ?_
 have st : Stt [] H H [] := Stt.start hw
 unfold f45c
 show AWl _ _ _ _ _
 iterate 3 refine aN rfl rfl (by constructor) ?_
 refine sE ?_
 show AWl _ _ _ _ _
 iterate 2 refine aN rfl rfl (by constructor) ?_
 refine aC (cut_a0) fun v9 H1 ⟨hv, st1⟩ => ?_
 subst hv
 replace st := st.call st1 rfl
 clear st1
 iterate 6 refine aN rfl rfl (by constructor) ?_
 refine sE ?_
 refine ⟨_, out3 (r_tmp rfl (by constructor)) (r_tmp rfl (by constructor)) (r_tmp rfl (by constructor)) ⟨rfl, rfl, rfl⟩, ?_⟩
 exact ⟨rfl, st.drop⟩
theorem cut_b0 {H : Hp}  :
  ACalls Try.prog 50 [.string ⟨#[97, 61, 98]⟩, .string ⟨#[61]⟩] H (fun v H' => v = .tuple #[.string ⟨#[97]⟩, .string ⟨#[98]⟩, .bool true] ∧ Stt [] H H' []) := by
 refine acallsW Try.func50 f50_ok (Nat.le_of_ble_eq_true rfl) fun hw => ?_
 have st : Stt [] H H [] := Stt.start hw
 unfold f50c
 show AWl _ _ _ _ _
 iterate 3 refine aN rfl rfl (by constructor) ?_
 refine sE ?_
 show AWl _ _ _ _ _
 iterate 2 refine aN rfl rfl (by constructor) ?_
 refine aC (index_call (s := ⟨#[97, 61, 98]⟩) (c := 61) (r := 1) (by decide)) fun v10 H1 ⟨hv, st1⟩ => ?_
 subst hv
 replace st := st.call st1 rfl
 clear st1
 refine aN rfl rfl (by constructor) ?_
 refine sE ?_
 show AWl _ _ _ _ _
 refine aN rfl rfl (by constructor) ?_
 refine aBinV (.bool true) rfl rfl rfl ?_
 refine sE ?_
 show AW _ (.cond _ _ _) _ _ _
 refine cT rfl ?_
 show AWp _ _ _ _ _
 iterate 2 refine aN rfl rfl (by constructor) ?_
 refine aN (v := .string ⟨#[97]⟩) rfl rfl (by constructor) ?_
 iterate 3 refine aN rfl rfl (by constructor) ?_
 refine aN (v := .int .i64 1) rfl rfl (by constructor) ?_
 refine aN (v := .int .i64 2) rfl rfl (by constructor) ?_
 refine aN (v := .string ⟨#[98]⟩) rfl rfl (by constructor) ?_
 iterate 3 refine aN rfl rfl (by constructor) ?_
 refine pE ?_
 refine ⟨_, out3 (r_tmp rfl (by constructor)) (r_tmp rfl (by constructor)) (r_tmp rfl (by constructor)) ⟨rfl, rfl, rfl⟩, ?_⟩
 exact ⟨rfl, st.drop⟩
theorem cut_b {H : Hp}  :
  ACalls Try.prog 45 [.string ⟨#[97, 61, 98]⟩, .string ⟨#[61]⟩] H (fun v H' => v = .tuple #[.string ⟨#[97]⟩, .string ⟨#[98]⟩, .bool true] ∧ Stt [] H H' []) := by
 refine acallsW Try.func45 f45_ok (Nat.le_of_ble_eq_true rfl) fun hw => ?_
 have st : Stt [] H H [] := Stt.start hw
 unfold f45c
 show AWl _ _ _ _ _
 iterate 3 refine aN rfl rfl (by constructor) ?_
 refine sE ?_
 show AWl _ _ _ _ _
 iterate 2 refine aN rfl rfl (by constructor) ?_
 refine aC (cut_b0) fun v9 H1 ⟨hv, st1⟩ => ?_
 subst hv
 replace st := st.call st1 rfl
 clear st1
 iterate 6 refine aN rfl rfl (by constructor) ?_
 refine sE ?_
 refine ⟨_, out3 (r_tmp rfl (by constructor)) (r_tmp rfl (by constructor)) (r_tmp rfl (by constructor)) ⟨rfl, rfl, rfl⟩, ?_⟩
 exact ⟨rfl, st.drop⟩
theorem key_a {H : Hp}  :
  ACalls Try.prog 46 [.string ⟨#[97]⟩] H (fun v H' => v = .bool true ∧ Stt [] H H' []) := by
 refine acallsW Try.func46 f46_ok (Nat.le_of_ble_eq_true rfl) fun hw => ?_
 have st : Stt [] H H [] := Stt.start hw
 unfold f46c
 show AWl _ _ _ _ _
 refine aN rfl rfl (by constructor) ?_
 refine sE ?_
 show AWl _ _ _ _ _
 refine aN rfl rfl (by constructor) ?_
 refine aN (v := .int .i64 1) rfl rfl (by constructor) ?_
 refine aN rfl rfl (by constructor) ?_
 refine sE ?_
 show AW _ (.loop _) _ _ _
 refine AW_loopN (fun m t1 H1 => (m = 1 ∧ t1 7 = .int .i64 0 ∧ Stt [] H H1 []) ∨ (m = 0 ∧ t1 7 = .int .i64 1 ∧ Stt [] H H1 [])) _ (.inl ⟨rfl, rfl, (st.sel [] (by decide))⟩) [2, 3, 4, 7, 8, 9, 10, 11, 12, 13, 14, 15, 16, 17, 18, 19, 20, 21, 22, 23, 24, 25, 26, 27, 28, 29, 30, 31, 32, 33, 34, 35, 36, 37, 38, 39, 40, 41, 42, 43, 44, 45, 46, 47, 48, 49, 50, 51, 52] (by decide) ?_
 rintro m t1 H1 hk hI
 rcases hI with hI | hI
 ·obtain ⟨rfl, ht7, st⟩ := hI
  obtain ⟨u, rfl⟩ : ∃ u, t1 = (upd (mix [2, 3, 4, 7, 8, 9, 10, 11, 12, 13, 14, 15, 16, 17, 18, 19, 20, 21, 22, 23, 24, 25, 26, 27, 28, 29, 30, 31, 32, 33, 34, 35, 36, 37, 38, 39, 40, 41, 42, 43, 44, 45, 46, 47, 48, 49, 50, 51, 52] _ u) (some 7) _) := ⟨t1, by rw [← hk, upd_self ht7]⟩
  clear hk ht7
  show AWl _ _ _ _ _
  refine aBinV (.bool true) rfl rfl rfl ?_
  refine sE ?_
  show AW _ (.cond _ _ _) _ _ _
  refine cT rfl ?_
  show AWl _ _ _ _ _
  iterate 2 refine aN rfl rfl (by constructor) ?_
  refine sE ?_
  show AWl _ _ _ _ _
  iterate 2 refine aN rfl rfl (by constructor) ?_
  refine aN (v := .int .u8 97) rfl rfl (by constructor) ?_
  refine aN rfl rfl (by constructor) ?_
  refine sE ?_
  show AWl _ _ _ _ _
  refine aN rfl rfl (by constructor) ?_
  refine aBinV (.bool true) rfl rfl rfl ?_
  refine aN rfl rfl (by constructor) ?_
  refine gT rfl ?_
  refine aN rfl rfl (by constructor) ?_
  refine gT rfl ?_
  refine aBinV (.bool false) rfl rfl rfl ?_
  iterate 2 refine aN rfl rfl (by constructor) ?_
  refine gT rfl ?_
  refine aN rfl rfl (by constructor) ?_
  refine gT rfl ?_
  refine aBinV (.bool true) rfl rfl rfl ?_
  refine gT rfl ?_
  refine aN rfl rfl (by constructor) ?_
  refine gT rfl ?_
  refine aN rfl rfl (by constructor) ?_
  refine gT rfl ?_
  refine aBinV (.bool true) rfl rfl rfl ?_
  refine gT rfl ?_
  iterate 3 refine aN rfl rfl (by constructor) ?_
  refine gF rfl (by decide) ?_
  refine gF rfl (by decide) ?_
  refine gF rfl (by decide) ?_
  refine gU rfl ?_
  refine gU rfl ?_
  refine gF rfl (by decide) ?_
  iterate 2 refine aN rfl rfl (by constructor) ?_
  refine gF rfl (by decide) ?_
  refine gF rfl (by decide) ?_
  iterate 2 refine aN rfl rfl (by constructor) ?_
  refine gF rfl (by decide) ?_
  refine gF rfl (by decide) ?_
  iterate 2 refine aN rfl rfl (by constructor) ?_
  refine gF rfl (by decide) ?_
  refine gF rfl (by decide) ?_
  iterate 2 refine aN rfl rfl (by constructor) ?_
  refine gF rfl (by decide) ?_
  refine gF rfl (by decide) ?_
  iterate 2 refine aN rfl rfl (by constructor) ?_
  refine sE ?_
  show AW _ (.cond _ _ _) _ _ _
  refine cF' rfl ?_
  show AWl _ _ _ _ _
  refine aN (v := .int .i64 1) rfl rfl (by constructor) ?_
  refine aN rfl rfl (by constructor) ?_
  refine sE ?_
  exact ⟨_, by decide, .inr (⟨rfl, rfl, (st.sel [] (by decide))⟩)⟩
 ·obtain ⟨rfl, ht7, st⟩ := hI
  obtain ⟨u, rfl⟩ : ∃ u, t1 = (upd (mix [2, 3, 4, 7, 8, 9, 10, 11, 12, 13, 14, 15, 16, 17, 18, 19, 20, 21, 22, 23, 24, 25, 26, 27, 28, 29, 30, 31, 32, 33, 34, 35, 36, 37, 38, 39, 40, 41, 42, 43, 44, 45, 46, 47, 48, 49, 50, 51, 52] _ u) (some 7) _) := ⟨t1, by rw [← hk, upd_self ht7]⟩
  clear hk ht7
  show AWl _ _ _ _ _
  refine aBinV (.bool false) rfl rfl rfl ?_
  refine sE ?_
  show AW _ (.cond _ _ _) _ _ _
  refine cF' rfl ?_
  show AWl _ _ _ _ _
  refine aN rfl rfl (by constructor) ?_
  refine aN (v := .int .i64 1) rfl rfl (by constructor) ?_
  refine aBinV (.bool true) rfl rfl rfl ?_
  refine aN rfl rfl (by constructor) ?_
  refine gT rfl ?_
  refine aN rfl rfl (by constructor) ?_
  refine gT rfl ?_
  refine aN (v := .int .i64 1) rfl rfl (by constructor) ?_
  refine gT rfl ?_
  refine aBinV (.bool true) rfl rfl rfl ?_
  iterate 2 refine aN rfl rfl (by constructor) ?_
  refine sE ?_
  refine ⟨_, out1 (r_tmp rfl (by constructor)), ?_⟩
  exact ⟨rfl, st.drop⟩
theorem value_b {H : Hp}  :
  ACalls Try.prog 47 [.string ⟨#[98]⟩] H (fun v H' => v = .bool true ∧ Stt [] H H' []) := by
 refine acallsW Try.func47 f47_ok (Nat.le_of_ble_eq_true rfl) fun hw => ?_
 have st : Stt [] H H [] := Stt.start hw
 unfold f47c
 show AWl _ _ _ _ _
 refine aN rfl rfl (by constructor) ?_
 refine sE ?_
 show AWl _ _ _ _ _
 refine aN rfl rfl (by constructor) ?_
 refine aN (v := .int .i64 1) rfl rfl (by constructor) ?_
 refine aN rfl rfl (by constructor) ?_
 refine sE ?_
 show AW _ (.loop _) _ _ _
 refine AW_loopN (fun m t1 H1 => (m = 1 ∧ t1 6 = .int .i64 0 ∧ Stt [] H H1 []) ∨ (m = 0 ∧ t1 6 = .int .i64 1 ∧ Stt [] H H1 [])) _ (.inl ⟨rfl, rfl, (st.sel [] (by decide))⟩) [2, 3, 6, 7, 8, 9, 10, 11, 12, 13, 14, 15, 16, 17, 18, 19] (by decide) ?_
 rintro m t1 H1 hk hI
 rcases hI with hI | hI
 ·obtain ⟨rfl, ht6, st⟩ := hI
  obtain ⟨u, rfl⟩ : ∃ u, t1 = (upd (mix [2, 3, 6, 7, 8, 9, 10, 11, 12, 13, 14, 15, 16, 17, 18, 19] _ u) (some 6) _) := ⟨t1, by rw [← hk, upd_self ht6]⟩
  clear hk ht6
  show AWl _ _ _ _ _
  refine aBinV (.bool true) rfl rfl rfl ?_
  refine sE ?_
  show AW _ (.cond _ _ _) _ _ _
  refine cT rfl ?_
  show AWl _ _ _ _ _
  iterate 2 refine aN rfl rfl (by constructor) ?_
  refine sE ?_
  show AWl _ _ _ _ _
  iterate 2 refine aN rfl rfl (by constructor) ?_
  refine aN (v := .int .u8 98) rfl rfl (by constructor) ?_
  refine aBinV (.bool false) rfl rfl rfl ?_
  refine aN rfl rfl (by constructor) ?_
  refine gT rfl ?_
  refine aN rfl rfl (by constructor) ?_
  refine gT rfl ?_
  refine aN rfl rfl (by constructor) ?_
  refine gT rfl ?_
  refine aN (v := .int .u8 98) rfl rfl (by constructor) ?_
  refine gT rfl ?_
  refine aBinV (.bool false) rfl rfl rfl ?_
  refine aN rfl rfl (by constructor) ?_
  refine sE ?_
  show AW _ (.cond _ _ _) _ _ _
  refine cF' rfl ?_
  show AWl _ _ _ _ _
  refine aN (v := .int .i64 1) rfl rfl (by constructor) ?_
  refine aN rfl rfl (by constructor) ?_
  refine sE ?_
  exact ⟨_, by decide, .inr (⟨rfl, rfl, (st.sel [] (by decide))⟩)⟩
 ·obtain ⟨rfl, ht6, st⟩ := hI
  obtain ⟨u, rfl⟩ : ∃ u, t1 = (upd (mix [2, 3, 6, 7, 8, 9, 10, 11, 12, 13, 14, 15, 16, 17, 18, 19] _ u) (some 6) _) := ⟨t1, by rw [← hk, upd_self ht6]⟩
  clear hk ht6
  show AWl _ _ _ _ _
  refine aBinV (.bool false) rfl rfl rfl ?_
  refine sE ?_
  show AW _ (.cond _ _ _) _ _ _
  refine cF' rfl ?_
  show AWl _ _ _ _ _
  refine aN rfl rfl (by constructor) ?_
  refine aN (v := .int .i64 1) rfl rfl (by constructor) ?_
  refine aBinV (.bool true) rfl rfl rfl ?_
  refine aN rfl rfl (by constructor) ?_
  refine sE ?_
  refine ⟨_, out1 (r_tmp rfl (by constructor)), ?_⟩
  exact ⟨rfl, st.drop⟩
theorem find0_call {H : Hp}  :
  ACalls Try.prog 48 [.slice none 0 0, .string ⟨#[97]⟩] H (fun v H' => v = .tuple #[.string ⟨#[]⟩, .bool false] ∧ Stt [] H H' []) := by
 refine acallsW Try.func48 f48_ok (Nat.le_of_ble_eq_true rfl) fun hw => ?_
 have st : Stt [] H H [] := Stt.start hw
 unfold f48c
 show AWl _ _ _ _ _
 iterate 2 refine aN rfl rfl (by constructor) ?_
 refine sE ?_
 show AWl _ _ _ _ _
 refine aN rfl rfl (by constructor) ?_
 refine aN (v := .int .i64 0) rfl rfl (by constructor) ?_
 refine aN rfl rfl (by constructor) ?_
 refine sE ?_
 show AW _ (.loop _) _ _ _
 refine AW_loopN (fun m t1 H1 => m = 0 ∧ t1 10 = .int .i64 0 ∧ Stt [] H H1 []) 0 ⟨rfl, rfl, (st.sel [] (by decide))⟩ [4, 5, 7, 10, 11, 12, 13, 14, 15, 16, 17, 18, 19, 20] (by decide) ?_
 rintro m t1 H1 hk hI
 obtain ⟨rfl, ht10, st⟩ := hI
 obtain ⟨u, rfl⟩ : ∃ u, t1 = (upd (mix [4, 5, 7, 10, 11, 12, 13, 14, 15, 16, 17, 18, 19, 20] _ u) (some 10) _) := ⟨t1, by rw [← hk, upd_self ht10]⟩
 clear hk ht10
 show AWl _ _ _ _ _
 refine aBinV (.bool false) rfl rfl rfl ?_
 refine sE ?_
 show AW _ (.cond _ _ _) _ _ _
 refine cF' rfl ?_
 show AWl _ _ _ _ _
 iterate 2 refine aN rfl rfl (by constructor) ?_
 refine sE ?_
 refine ⟨_, out2 (r_tmp rfl (by constructor)) (r_tmp rfl (by constructor)) ⟨rfl, rfl⟩, ?_⟩
 exact ⟨rfl, st.drop⟩
theorem parse_call {H : Hp} {x : Value} (hx : Sl H 1 4 (([97, 61, 98, 0] : List Int).map (Value.int .u8)) x) :
  ACalls Try.prog 41 [x] H (fun v H' => ∃ op, v = .tuple #[.slice (some ⟨op, 0, none⟩) 1 2, .int .i64 0] ∧ Stt [] H H' [⟨some op, true, ⟨true, 91, [.string ⟨#[97]⟩, .string ⟨#[98]⟩]⟩⟩]) := by
 refine acallsW Try.func41 f41_ok (Nat.le_of_ble_eq_true rfl) fun hw => ?_
 have st : Stt [] H H [] := Stt.start hw
 obtain ⟨px, cx, rfl⟩ := hx.shape
 unfold f41c
 show AWl _ _ _ _ _
 iterate 2 refine aN rfl rfl (by constructor) ?_
 refine sE ?_
 show AWl _ _ _ _ _
 refine aMovV (Value.slice px 4 cx) rfl ?_
 refine aN (v := .int .i64 4) rfl rfl (by constructor) ?_
 refine aBinV (.bool false) rfl rfl rfl ?_
 refine sE ?_
 show AW _ (.cond _ _ _) _ _ _
 refine cF' rfl ?_
 show AWl _ _ _ _ _
 refine aN rfl rfl (by constructor) ?_
 refine sE ?_
 show AWl _ _ _ _ _
 refine aN rfl rfl (by constructor) ?_
 refine sE ?_
 show AWl _ _ _ _ _
 refine aMovV (Value.slice px 4 cx) rfl ?_
 refine aTextV (r := ⟨#[97, 61, 98, 0]⟩) (st.slc hx) (by decide) rfl ?_
 refine aN rfl rfl (by constructor) ?_
 refine sE ?_
 show AW _ (.loop _) _ _ _
 refine AW_loopN (fun m t1 H1 => (m = 1 ∧ t1 6 = .string ⟨#[97, 61, 98, 0]⟩ ∧ t1 4 = .slice none 0 0 ∧ t1 5 = .int .i64 0 ∧ Stt [] H H1 []) ∨ (∃ (op : Nat), m = 0 ∧ t1 6 = .string ⟨#[]⟩ ∧ t1 4 = .slice (some ⟨op, 0, none⟩) 1 2 ∧ t1 5 = .int .i64 0 ∧ Stt [] H H1 [⟨some op, true, ⟨true, 91, [.string ⟨#[97]⟩, .string ⟨#[98]⟩]⟩⟩])) _ (.inl ⟨rfl, rfl, rfl, rfl, (st.sel [] (by decide))⟩) [2, 3, 4, 5, 6, 7, 8, 9, 10, 11, 12, 13, 14, 20, 21, 22, 23, 24, 25, 26, 27, 28, 29, 30, 31, 32, 33, 34, 35, 36, 37, 38, 39, 40, 41, 42, 43, 44, 45, 46, 47, 48, 49, 50, 51, 52, 53, 54, 55, 56, 57, 58, 59, 60, 61, 62, 63] (by decide) ?_
 rintro m t1 H1 hk hI
 rcases hI with hI | hI
 ·obtain ⟨rfl, ht6, ht4, ht5, st⟩ := hI
  obtain ⟨u, rfl⟩ : ∃ u, t1 = (upd (upd (upd (mix [2, 3, 4, 5, 6, 7, 8, 9, 10, 11, 12, 13, 14, 20, 21, 22, 23, 24, 25, 26, 27, 28, 29, 30, 31, 32, 33, 34, 35, 36, 37, 38, 39, 40, 41, 42, 43, 44, 45, 46, 47, 48, 49, 50, 51, 52, 53, 54, 55, 56, 57, 58, 59, 60, 61, 62, 63] _ u) (some 6) _) (some 4) _) (some 5) _) := ⟨t1, by rw [← hk, upd_self ht6, upd_self ht4, upd_self ht5]⟩
  clear hk ht6 ht4 ht5
  show AWl _ _ _ _ _
  refine aN rfl rfl (by constructor) ?_
  refine aBinV (u := .string ⟨#[97, 61, 98, 0]⟩) (u' := .string ⟨#[]⟩) (.bool true) rfl rfl (by simp [aBin, aStr, ByteArray.toList_eq]) ?_
  refine sE ?_
  show AW _ (.cond _ _ _) _ _ _
  refine cT rfl ?_
  show AWl _ _ _ _ _
  refine aN rfl rfl (by constructor) ?_
  refine aC (cut_a) fun v24 H1 ⟨hv, st1⟩ => ?_
  subst hv
  replace st := st.call st1 rfl
  clear st1
  iterate 7 refine aN rfl rfl (by constructor) ?_
  refine sE ?_
  show AWl _ _ _ _ _
  refine aN rfl rfl (by constructor) ?_
  refine aC (cut_b) fun v30 H2 ⟨hv, st1⟩ => ?_
  subst hv
  replace st := st.call st1 rfl
  clear st1
  iterate 7 refine aN rfl rfl (by constructor) ?_
  refine sE ?_
  show AWl _ _ _ _ _
  iterate 3 refine aN rfl rfl (by constructor) ?_
  refine gT rfl ?_
  refine aN rfl rfl (by constructor) ?_
  refine gT rfl ?_
  iterate 3 refine aN rfl rfl (by constructor) ?_
  refine gT rfl ?_
  refine aN rfl rfl (by constructor) ?_
  refine gT rfl ?_
  refine aC (key_a) fun v42 H3 ⟨hv, st1⟩ => ?_
  subst hv
  replace st := st.call st1 rfl
  clear st1
  refine gT rfl ?_
  iterate 3 refine aN rfl rfl (by constructor) ?_
  refine gT rfl ?_
  refine aN rfl rfl (by constructor) ?_
  refine gT rfl ?_
  refine aC (value_b) fun v47 H4 ⟨hv, st1⟩ => ?_
  subst hv
  replace st := st.call st1 rfl
  clear st1
  refine gT rfl ?_
  iterate 2 refine aN rfl rfl (by constructor) ?_
  refine sE ?_
  show AW _ (.cond _ _ _) _ _ _
  refine cF' rfl ?_
  show AWl _ _ _ _ _
  iterate 2 refine aN rfl rfl (by constructor) ?_
  refine aC (find0_call) fun v53 H5 ⟨hv, st1⟩ => ?_
  subst hv
  replace st := st.call st1 rfl
  clear st1
  iterate 5 refine aN rfl rfl (by constructor) ?_
  refine sE ?_
  show AWl _ _ _ _ _
  refine aN rfl rfl (by constructor) ?_
  refine sE ?_
  show AW _ (.cond _ _ _) _ _ _
  refine cF' rfl ?_
  show AWl _ _ _ _ _
  iterate 3 refine aN rfl rfl (by constructor) ?_
  refine aBld rfl (by repeat constructor) ?_
  refine aLit st rfl (by repeat constructor) fun b61 H6 st => ?_
  have st := st.nil 91
  have hnil : (Value.slice none 0 0) = accV none 0 2 := rfl
  refine aAppP st 0 (ob := none) (n := 0) rfl rfl rfl (by decide) (rfl) (st.rowAll 1 rfl (by first | rfl | (simp [beB_len, *]; done) | (simp [beB_len, *]; omega))).src (rfl) (by decide) (by decide) (by decide) (by repeat constructor) fun b62 H7 st => ?_
  refine aN rfl rfl (by constructor) ?_
  refine sE ?_
  show AWl _ _ _ _ _
  iterate 2 refine aN rfl rfl (by constructor) ?_
  refine sE ?_
  exact ⟨_, by decide, .inr (⟨b62, rfl, rfl, rfl, rfl, (st.sel [0] (by decide))⟩)⟩
 ·obtain ⟨op, rfl, ht6, ht4, ht5, st⟩ := hI
  obtain ⟨u, rfl⟩ : ∃ u, t1 = (upd (upd (upd (mix [2, 3, 4, 5, 6, 7, 8, 9, 10, 11, 12, 13, 14, 20, 21, 22, 23, 24, 25, 26, 27, 28, 29, 30, 31, 32, 33, 34, 35, 36, 37, 38, 39, 40, 41, 42, 43, 44, 45, 46, 47, 48, 49, 50, 51, 52, 53, 54, 55, 56, 57, 58, 59, 60, 61, 62, 63] _ u) (some 6) _) (some 4) _) (some 5) _) := ⟨t1, by rw [← hk, upd_self ht6, upd_self ht4, upd_self ht5]⟩
  clear hk ht6 ht4 ht5
  show AWl _ _ _ _ _
  refine aN rfl rfl (by constructor) ?_
  refine aBinV (u := .string ⟨#[]⟩) (u' := .string ⟨#[]⟩) (.bool false) rfl rfl (by simp [aBin, aStr, ByteArray.toList_eq]) ?_
  refine sE ?_
  show AW _ (.cond _ _ _) _ _ _
  refine cF' rfl ?_
  show AWl _ _ _ _ _
  refine aN rfl rfl (by constructor) ?_
  refine aN (v := .int .i64 1) rfl rfl (by constructor) ?_
  refine aBinV (.bool false) rfl rfl rfl ?_
  refine aN rfl rfl (by constructor) ?_
  refine sE ?_
  show AW _ (.cond _ _ _) _ _ _
  refine cF' rfl ?_
  show AWl _ _ _ _ _
  refine aN rfl rfl (by constructor) ?_
  refine aBinV (.bool false) rfl rfl rfl ?_
  refine aN rfl rfl (by constructor) ?_
  refine sE ?_
  show AW _ (.cond _ _ _) _ _ _
  refine cF' rfl ?_
  show AWl _ _ _ _ _
  iterate 3 refine aN rfl rfl (by constructor) ?_
  refine sE ?_
  refine ⟨_, out2 (r_tmp rfl (by constructor)) (r_tmp rfl (by constructor)) ⟨rfl, rfl⟩, ?_⟩
  exact ⟨op, rfl, st.sel [0] (by decide)⟩
theorem sends_call {H : Hp} {x : Value} {b : Nat} (hx : Sl H 1 4 (([97, 61, 98, 0] : List Int).map (Value.int .u8)) x) :
  ACalls Try.prog 33 [.pointer (some ⟨b, 0, none⟩), x] H (fun v H' => ∃ bo, v = .slice (some ⟨bo, 0, none⟩) 16 1 ∧ Stt [] H H' []) := by
 refine acallsW Try.func33 f33_ok (Nat.le_of_ble_eq_true rfl) fun hw => ?_
 have st : Stt [] H H [] := Stt.start hw
 obtain ⟨px, cx, rfl⟩ := hx.shape
 unfold f33c
 show AWl _ _ _ _ _
 refine aN rfl rfl (by constructor) ?_
 refine sE ?_
 show AWl _ _ _ _ _
 refine aMovV (Value.slice px 4 cx) rfl ?_
 refine aC (parse_call (st.slc hx)) fun v14 H1 ⟨op14, hv, st1⟩ => ?_
 subst hv
 replace st := st.call st1 rfl
 clear st1
 iterate 5 refine aN rfl rfl (by constructor) ?_
 refine sE ?_
 show AWl _ _ _ _ _
 refine aN rfl rfl (by constructor) ?_
 refine aBinV (.bool false) rfl rfl rfl ?_
 refine sE ?_
 show AW _ (.cond _ _ _) _ _ _
 refine cF' rfl ?_
 show AWl _ _ _ _ _
 refine aN rfl rfl (by constructor) ?_
 refine sE ?_
 show AWl _ _ _ _ _
 refine aN rfl rfl (by constructor) ?_
 refine aN (v := .int .i64 1) rfl rfl (by constructor) ?_
 refine aN rfl rfl (by constructor) ?_
 refine sE ?_
 show AW _ (.loop _) _ _ _
 refine AW_loopN (fun m t1 H1 => (m = 1 ∧ t1 21 = .int .i64 0 ∧ t1 7 = .slice none 0 0 ∧ Stt [] H H1 [⟨some op14, true, ⟨true, 91, [.string ⟨#[97]⟩, .string ⟨#[98]⟩]⟩⟩]) ∨ (∃ (bo : Nat), m = 0 ∧ t1 21 = .int .i64 1 ∧ t1 7 = .slice (some ⟨bo, 0, none⟩) 16 1 ∧ Stt [] H H1 [⟨some op14, true, ⟨true, 91, [.string ⟨#[97]⟩, .string ⟨#[98]⟩]⟩⟩])) _ (.inl ⟨rfl, rfl, rfl, (st.sel [0] (by decide))⟩) [7, 9, 11, 21, 22, 23, 24, 25, 26, 27, 28, 29, 30, 31, 32, 33, 34, 35, 36, 37, 38, 39, 40, 41, 42, 43, 44, 45, 46, 47, 48, 49, 50, 51, 52, 53, 54, 55, 56, 57, 58, 59, 60, 61, 62, 63, 64, 65, 66, 67, 68, 69, 70, 71, 72, 73, 74, 75, 76, 77, 78, 79, 80, 81, 82, 83, 84, 85, 86, 87, 88, 89, 90, 91, 92, 93, 94, 95] (by decide) ?_
 rintro m t1 H1 hk hI
 rcases hI with hI | hI
 ·obtain ⟨rfl, ht21, ht7, st⟩ := hI
  obtain ⟨u, rfl⟩ : ∃ u, t1 = (upd (upd (mix [7, 9, 11, 21, 22, 23, 24, 25, 26, 27, 28, 29, 30, 31, 32, 33, 34, 35, 36, 37, 38, 39, 40, 41, 42, 43, 44, 45, 46, 47, 48, 49, 50, 51, 52, 53, 54, 55, 56, 57, 58, 59, 60, 61, 62, 63, 64, 65, 66, 67, 68, 69, 70, 71, 72, 73, 74, 75, 76, 77, 78, 79, 80, 81, 82, 83, 84, 85, 86, 87, 88, 89, 90, 91, 92, 93, 94, 95] _ u) (some 21) _) (some 7) _) := ⟨t1, by rw [← hk, upd_self ht21, upd_self ht7]⟩
  clear hk ht21 ht7
  show AWl _ _ _ _ _
  refine aBinV (.bool true) rfl rfl rfl ?_
  refine sE ?_
  show AW _ (.cond _ _ _) _ _ _
  refine cT rfl ?_
  show AWl _ _ _ _ _
  refine aN rfl rfl (by constructor) ?_
  refine aLdA st 0 rfl rfl (by first | decide | simp [*]) (by repeat constructor) ?_
  refine aNewP st rfl rfl (by repeat constructor) fun b9 H2 st => ?_
  refine aSt st 0 rfl rfl rfl rfl (by first | rfl | simp [cellsOf, *]) (by first | decide | (simp [*]; done) | (simp [k8]; done)) (by repeat constructor) fun H3 st => ?_
  refine sE ?_
  show AWl _ _ _ _ _
  refine aN rfl rfl (by constructor) ?_
  refine aLd st 0 rfl rfl rfl (by constructor) ?_
  refine aBinV (u := .string ⟨#[97]⟩) (u' := .string ⟨#[83, 101, 110, 100, 84, 97, 114, 103, 101, 116, 115]⟩) (.bool false) rfl rfl (by simp [aBin, aStr, ByteArray.toList_eq]) ?_
  refine aN rfl rfl (by constructor) ?_
  refine gF rfl (by decide) ?_
  refine gF rfl (by decide) ?_
  refine gF rfl (by decide) ?_
  refine gF rfl (by decide) ?_
  refine gU rfl ?_
  refine gU rfl ?_
  refine gU rfl ?_
  refine gU rfl ?_
  refine gU rfl ?_
  refine gF rfl (by decide) ?_
  refine gF rfl (by decide) ?_
  refine gU rfl ?_
  refine gU rfl ?_
  refine gU rfl ?_
  refine gU rfl ?_
  refine gU rfl ?_
  refine gU rfl ?_
  refine gU rfl ?_
  refine gU rfl ?_
  refine gU rfl ?_
  refine gU rfl ?_
  refine gU rfl ?_
  refine gF rfl (by decide) ?_
  iterate 2 refine aN rfl rfl (by constructor) ?_
  refine sE ?_
  show AW _ (.cond _ _ _) _ _ _
  refine cF' rfl ?_
  show AWl _ _ _ _ _
  refine aN rfl rfl (by constructor) ?_
  refine aLd st 0 rfl rfl rfl (by constructor) ?_
  refine aBinV (u := .string ⟨#[97]⟩) (u' := .string ⟨#[83, 101, 110, 100, 84, 97, 114, 103, 101, 116, 115]⟩) (.bool false) rfl rfl (by simp [aBin, aStr, ByteArray.toList_eq]) ?_
  refine aN rfl rfl (by constructor) ?_
  refine sE ?_
  show AW _ (.cond _ _ _) _ _ _
  refine cF' rfl ?_
  show AWl _ _ _ _ _
  iterate 2 refine aN rfl rfl (by constructor) ?_
  refine aLd st 0 rfl rfl rfl (by constructor) ?_
  have st := st.nil 5
  have hnil : (Value.slice none 0 0) = accV none 0 1 := rfl
  refine aAppP st 0 (ob := none) (n := 0) rfl rfl rfl (by decide) (rfl) (src_str (xs := [97]) (by simp only [byteL_cons, byteL_nil, and_true]; decide)) (rfl) (by decide) (by decide) (by decide) (by repeat constructor) fun b28 H4 st => ?_
  refine aAppP st 0 (ob := some b28) rfl rfl rfl (by decide) (rfl) (src_str (xs := [61, 78, 111, 116, 85, 110, 100, 101, 114, 115, 116, 111, 111, 100, 0]) (by simp only [byteL_cons, byteL_nil, and_true]; decide)) (rfl) (by decide) (by decide) (by decide) (by repeat constructor) fun b29 H5 st => ?_
  refine aN rfl rfl (by constructor) ?_
  refine sE ?_
  show AWl _ _ _ _ _
  refine aN (v := .int .i64 1) rfl rfl (by constructor) ?_
  refine aN rfl rfl (by constructor) ?_
  refine sE ?_
  exact ⟨_, by decide, .inr (⟨b29, rfl, rfl, rfl, (st.sel [2] (by decide))⟩)⟩
 ·obtain ⟨bo, rfl, ht21, ht7, st⟩ := hI
  obtain ⟨u, rfl⟩ : ∃ u, t1 = (upd (upd (mix [7, 9, 11, 21, 22, 23, 24, 25, 26, 27, 28, 29, 30, 31, 32, 33, 34, 35, 36, 37, 38, 39, 40, 41, 42, 43, 44, 45, 46, 47, 48, 49, 50, 51, 52, 53, 54, 55, 56, 57, 58, 59, 60, 61, 62, 63, 64, 65, 66, 67, 68, 69, 70, 71, 72, 73, 74, 75, 76, 77, 78, 79, 80, 81, 82, 83, 84, 85, 86, 87, 88, 89, 90, 91, 92, 93, 94, 95] _ u) (some 21) _) (some 7) _) := ⟨t1, by rw [← hk, upd_self ht21, upd_self ht7]⟩
  clear hk ht21 ht7
  show AWl _ _ _ _ _
  refine aBinV (.bool false) rfl rfl rfl ?_
  refine sE ?_
  show AW _ (.cond _ _ _) _ _ _
  refine cF' rfl ?_
  show AWl _ _ _ _ _
  iterate 2 refine aN rfl rfl (by constructor) ?_
  refine sE ?_
  refine ⟨_, out1 (r_tmp rfl (by constructor)), ?_⟩
  exact ⟨bo, rfl, st.drop⟩
end Go.Proofs.Ytloeadlmcdddnaa.Abs
