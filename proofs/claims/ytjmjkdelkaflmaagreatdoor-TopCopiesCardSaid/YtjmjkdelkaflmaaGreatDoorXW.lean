/- Texts are trimmed; numbers in parameters. -/
import Derived.Test.YtjmjkdelkaflmaaGreatDoorXI
import Derived.Test.YtjmjkdelkaflmaaGreatDoorXT
set_option linter.unusedVariables false
set_option linter.unusedSimpArgs false
set_option maxRecDepth 100000
namespace Go.Proofs.YtjmjkdelkaflmaaGreatDoor.Abs
open Go Go.RowKit
theorem ofInts_cut {xs : List Int} {l h : Nat} : (ofInts xs).extract l h = ofInts ((xs.drop l).take (h - l)) := by
  apply ByteArray.ext
  rw [ByteArray.data_extract]
  apply Array.ext'
  rw [Array.toList_extract, ofInts_toList, ofInts_toList, List.extract_eq_take_drop, List.map_take, List.map_drop]
section
variable {P : Program} {R : Tm → Hp → Prop} {t : Tm} {H : Hp} {d : Option Nat} {x y : Opd}
theorem aCutSH {xs ys : List Int} {k : IntKind} {h : Int} {hi : Opd} (hx : ev t x = .string (ofInts xs)) (hh : ev t hi = .int k h) (hb : 0 ≤ h ∧ h ≤ xs.length) (hy : xs.take h.toNat = ys) (kk : R (upd t d (.string (ofInts ys))) H) : aStep P ⟨d, .cutS x none (some hi), none⟩ R t H := by
  subst hy
  refine ⟨.string (ofInts (xs.take h.toNat)), H, ?_, kk⟩
  simp only [aI, hx, Option.map_some, hh, Option.map_none]
  rw [bound_h (by rw [ofInts_size]; exact hb)]
  simp only [ofInts_cut, List.drop_zero, Nat.sub_zero]
theorem aCutSL {xs ys : List Int} {k : IntKind} {l : Int} {lo : Opd} (hx : ev t x = .string (ofInts xs)) (hh : ev t lo = .int k l) (hb : 0 ≤ l ∧ l ≤ xs.length) (hy : xs.drop l.toNat = ys) (kk : R (upd t d (.string (ofInts ys))) H) : aStep P ⟨d, .cutS x (some lo) none, none⟩ R t H := by
  subst hy
  refine ⟨.string (ofInts (xs.drop l.toNat)), H, ?_, kk⟩
  simp only [aI, hx, Option.map_some, hh, Option.map_none]
  rw [bound_l (by rw [ofInts_size]; exact hb)]
  simp only [ofInts_cut, ofInts_size]
  rw [List.take_of_length_le (by simp)]
theorem strT {tk : Nat} {a b : ByteArray} (h : a = b) : aBin tk .eql (.string a) (.string b) = some (.bool true) := by
  subst h
  simp [aBin, aStr]
theorem strF {tk : Nat} {a b : ByteArray} (h : a ≠ b) : aBin tk .eql (.string a) (.string b) = some (.bool false) := by
  simp only [aBin, aStr]
  rw [beq_false_of_ne (fun e => h (by rw [ByteArray.toList_eq, ByteArray.toList_eq] at e; exact ByteArray.ext (Array.ext' e)))]
end
theorem beB2 {v : Int} (h : 0 ≤ v ∧ v < 256) : beB 2 v = [0, v] := by simp only [beB, List.nil_append, List.cons_append]; rw [show v / 256 = 0 by omega, show v % 256 = v by omega]; rfl
theorem beB4 {v : Int} (h : 0 ≤ v ∧ v < 256) : beB 4 v = [0, 0, 0, v] := by simp only [beB, List.nil_append, List.cons_append]; rw [show v / 256 = 0 by omega, show v % 256 = v by omega]; rfl
theorem beB8 {v : Int} (h : 0 ≤ v ∧ v < 256) : beB 8 v = [0, 0, 0, 0, 0, 0, 0, v] := by simp only [beB, List.nil_append, List.cons_append]; rw [show v / 256 = 0 by omega, show v % 256 = v by omega]; rfl
theorem byte_app {xs : List Int} (h : ByteL xs) (k : Nat) : ByteL (xs ++ List.replicate k 32) := fun x hx => by
  rcases List.mem_append.1 hx with hx | hx
  · exact h x hx
  · rw [List.eq_of_mem_replicate hx]; omega
theorem trim_get (c : Int) (k : Nat) : (([83, c] ++ List.replicate (k + 1) 32 : List Int)).getD (((k + 1 + 1 : Nat) : Int)).toNat 0 = 32 := by
  rw [show (((k + 1 + 1 : Nat) : Int)).toNat = k + 2 from rfl, List.getD, List.getElem?_append_right (by simp)]
  simp
theorem trim_cut (c : Int) (k : Nat) : (([83, c] ++ List.replicate (k + 1) 32 : List Int)).take (((k + 2 : Nat) : Int)).toNat = [83, c] ++ List.replicate k 32 := by
  rw [show (((k + 2 : Nat) : Int)).toNat = k + 2 from rfl, List.replicate_succ', ← List.append_assoc, List.take_left' (by simp)]
theorem hsufi_0 {H : Hp}  :
  ACalls Tryz.prog 68 [.string ⟨#[83, 48]⟩, .string ⟨#[32]⟩] H (fun v H' => v = .bool false ∧ Stt [] H H' []) := by
 refine acallsW Tryz.func68 f68_ok (Nat.le_of_ble_eq_true rfl) fun hw => ?_
 have st : Stt [] H H [] := Stt.start hw
 unfold f68c
 refine zw ?_
 refine zm ?_
 refine zw ?_
 refine zm ?_
 refine aN (v := .int .i64 2) rfl rfl (by constructor) ?_
 refine zm ?_
 refine aN (v := .int .i64 1) rfl rfl (by constructor) ?_
 refine zb (.bool true) ?_
 refine zm ?_
 refine zg ?_
 refine zm ?_
 refine zg ?_
 refine zm ?_
 refine zg ?_
 refine aN (v := .int .i64 2) rfl rfl (by constructor) ?_
 refine zg ?_
 refine zm ?_
 refine zg ?_
 refine aN (v := .int .i64 1) rfl rfl (by constructor) ?_
 refine zg ?_
 refine zb (.int .i64 1) ?_
 refine zg ?_
 refine aCutSL (xs := [83, 48]) (ys := [48]) rfl rfl (by decide) rfl ?_
 refine zg ?_
 refine zm ?_
 refine zg ?_
 refine aBinV (.bool false) rfl rfl (strF (by decide)) ?_
 iterate 2 refine zm ?_
 refine sE ?_
 refine ⟨_, out1 zr, ?_⟩
 exact ⟨rfl, st.drop⟩
theorem hsuf_0 {H : Hp}  :
  ACalls Tryz.prog 34 [.string ⟨#[83, 48]⟩, .string ⟨#[32]⟩] H (fun v H' => v = .bool false ∧ Stt [] H H' []) := by
 refine acallsW Tryz.func34 f34_ok (Nat.le_of_ble_eq_true rfl) fun hw => ?_
 have st : Stt [] H H [] := Stt.start hw
 unfold f34c
 refine zw ?_
 refine zm ?_
 refine zw ?_
 iterate 2 refine zm ?_
 refine aC (hsufi_0) fun v7 H1 ⟨hv, st1⟩ => ?_
 subst hv
 replace st := st.call st1 rfl
 clear st1
 refine zm ?_
 refine sE ?_
 refine ⟨_, out1 zr, ?_⟩
 exact ⟨rfl, st.drop⟩
theorem hsufi_1 {H : Hp}  :
  ACalls Tryz.prog 68 [.string ⟨#[83, 49]⟩, .string ⟨#[32]⟩] H (fun v H' => v = .bool false ∧ Stt [] H H' []) := by
 refine acallsW Tryz.func68 f68_ok (Nat.le_of_ble_eq_true rfl) fun hw => ?_
 have st : Stt [] H H [] := Stt.start hw
 unfold f68c
 refine zw ?_
 refine zm ?_
 refine zw ?_
 refine zm ?_
 refine aN (v := .int .i64 2) rfl rfl (by constructor) ?_
 refine zm ?_
 refine aN (v := .int .i64 1) rfl rfl (by constructor) ?_
 refine zb (.bool true) ?_
 refine zm ?_
 refine zg ?_
 refine zm ?_
 refine zg ?_
 refine zm ?_
 refine zg ?_
 refine aN (v := .int .i64 2) rfl rfl (by constructor) ?_
 refine zg ?_
 refine zm ?_
 refine zg ?_
 refine aN (v := .int .i64 1) rfl rfl (by constructor) ?_
 refine zg ?_
 refine zb (.int .i64 1) ?_
 refine zg ?_
 refine aCutSL (xs := [83, 49]) (ys := [49]) rfl rfl (by decide) rfl ?_
 refine zg ?_
 refine zm ?_
 refine zg ?_
 refine aBinV (.bool false) rfl rfl (strF (by decide)) ?_
 iterate 2 refine zm ?_
 refine sE ?_
 refine ⟨_, out1 zr, ?_⟩
 exact ⟨rfl, st.drop⟩
theorem hsuf_1 {H : Hp}  :
  ACalls Tryz.prog 34 [.string ⟨#[83, 49]⟩, .string ⟨#[32]⟩] H (fun v H' => v = .bool false ∧ Stt [] H H' []) := by
 refine acallsW Tryz.func34 f34_ok (Nat.le_of_ble_eq_true rfl) fun hw => ?_
 have st : Stt [] H H [] := Stt.start hw
 unfold f34c
 refine zw ?_
 refine zm ?_
 refine zw ?_
 iterate 2 refine zm ?_
 refine aC (hsufi_1) fun v7 H1 ⟨hv, st1⟩ => ?_
 subst hv
 replace st := st.call st1 rfl
 clear st1
 refine zm ?_
 refine sE ?_
 refine ⟨_, out1 zr, ?_⟩
 exact ⟨rfl, st.drop⟩
theorem trimb_0 {H : Hp}  :
  ACalls Tryz.prog 179 [.string (ofInts ([83, 48] ++ List.replicate 18 32 : List Int)), .int .u8 32] H (fun v H' => v = .string (ofInts [83, 48]) ∧ Stt [] H H' []) := by
 refine acallsW Tryz.func179 f179_ok (Nat.le_of_ble_eq_true rfl) fun hw => ?_
 have st : Stt [] H H [] := Stt.start hw
 unfold f179c
 refine zw ?_
 refine zm ?_
 refine sE ?_
 show AW _ (.loop _) _ _ _
 refine AW_loopN (fun m t1 H1 => ∃ (k : Nat), m = k + 1 ∧ (k ≤ 18) ∧ t1 0 = .string (ofInts ([83, 48] ++ List.replicate k 32 : List Int)) ∧ Stt [] H H1 []) (18 + 1) ⟨18, rfl, Nat.le_refl _, rfl, (st.sel [] (by decide))⟩ [0, 5, 6, 7, 8, 9, 10, 11, 12, 13, 14, 15, 16, 17, 18, 19, 20, 21] (by decide) ?_
 rintro m t1 H1 hk hI
 obtain ⟨k, rfl, hk9, ht0, st⟩ := hI
 obtain ⟨u, rfl⟩ : ∃ u, t1 = (upd (mix [0, 5, 6, 7, 8, 9, 10, 11, 12, 13, 14, 15, 16, 17, 18, 19, 20, 21] _ u) (some 0) _) := ⟨t1, by rw [← hk, upd_self ht0]⟩
 clear hk ht0
 refine zw ?_
 refine zm ?_
 refine aLenS (xs := ([83, 48] ++ List.replicate k 32 : List Int)) rfl ?_
 rw [show (([83, 48] ++ List.replicate k 32 : List Int).length) = k + 2 by simp]
 refine aBinV (.bool true) rfl rfl (gtT (by omega)) ?_
 refine zm ?_
 refine zg ?_
 refine zm ?_
 refine zg ?_
 refine zm ?_
 refine zg ?_
 refine aLenS (xs := ([83, 48] ++ List.replicate k 32 : List Int)) rfl ?_
 rw [show (([83, 48] ++ List.replicate k 32 : List Int).length) = k + 2 by simp]
 refine zg ?_
 refine aBinV (.int .i64 ((k + 1 : Nat) : Int)) rfl rfl (subI (by omega) (by omega)) ?_
 refine zg ?_
 refine aIdxS (xs := ([83, 48] ++ List.replicate k 32 : List Int)) (byte_app (by simp only [byteL_cons, byteL_nil, and_true]; decide) k) rfl rfl (by simp; omega) ?_
 refine zg ?_
 refine zm ?_
 refine zg ?_
 rcases k with _ | k
 ·refine aBinV (.bool false) rfl rfl (eqF (by decide)) ?_
  refine zm ?_
  refine zf ?_
  refine zw ?_
  iterate 2 refine zm ?_
  refine sE ?_
  refine ⟨_, out1 zr, ?_⟩
  exact ⟨rfl, st.drop⟩
 ·refine aBinV (.bool true) rfl rfl (eqT (trim_get _ _)) ?_
  refine zm ?_
  show AW _ (.cond _ _ _) _ _ _
  refine cT rfl ?_
  refine zw ?_
  iterate 2 refine zm ?_
  refine aLenS (xs := ([83, 48] ++ List.replicate (k + 1) 32 : List Int)) rfl ?_
  rw [show (([83, 48] ++ List.replicate (k + 1) 32 : List Int).length) = k + 3 by simp]
  refine aBinV (.int .i64 ((k + 2 : Nat) : Int)) rfl rfl (subI (by omega) (by omega)) ?_
  refine aCutSH (xs := ([83, 48] ++ List.replicate (k + 1) 32 : List Int)) (ys := ([83, 48] ++ List.replicate k 32 : List Int)) rfl rfl (by simp; omega) (trim_cut _ _) ?_
  refine zm ?_
  refine sE ?_
  exact ⟨_, by omega, k, rfl, by omega, rfl, (st.sel [] (by decide))⟩
theorem trim_0 {H : Hp}  :
  ACalls Tryz.prog 160 [.string (ofInts ([83, 48] ++ List.replicate 18 32 : List Int)), .string ⟨#[32]⟩] H (fun v H' => v = .string (ofInts [83, 48]) ∧ Stt [] H H' []) := by
 refine acallsW Tryz.func160 f160_ok (Nat.le_of_ble_eq_true rfl) fun hw => ?_
 have st : Stt [] H H [] := Stt.start hw
 unfold f160c
 refine zw ?_
 refine zm ?_
 refine zw ?_
 refine zm ?_
 refine aBinV (.bool false) rfl rfl (strF (by decide)) ?_
 refine zm ?_
 refine zg ?_
 refine zm ?_
 refine zg ?_
 refine aBinV (.bool false) rfl rfl (strF (by decide)) ?_
 refine zm ?_
 refine zf ?_
 refine zw ?_
 refine zm ?_
 refine aN (v := .int .i64 1) rfl rfl (by constructor) ?_
 refine zb (.bool true) ?_
 refine zm ?_
 refine zg ?_
 refine zm ?_
 refine zg ?_
 refine aN (v := .int .u8 32) rfl rfl (by constructor) ?_
 refine zg ?_
 refine zb (.bool true) ?_
 refine zm ?_
 show AW _ (.cond _ _ _) _ _ _
 refine cT rfl ?_
 refine zw ?_
 iterate 2 refine zm ?_
 refine aN (v := .int .u8 32) rfl rfl (by constructor) ?_
 refine aC (trimb_0) fun v25 H1 ⟨hv, st1⟩ => ?_
 subst hv
 replace st := st.call st1 rfl
 clear st1
 refine zm ?_
 refine sE ?_
 refine ⟨_, out1 zr, ?_⟩
 exact ⟨rfl, st.drop⟩
theorem trimb_1 {H : Hp}  :
  ACalls Tryz.prog 179 [.string (ofInts ([83, 49] ++ List.replicate 18 32 : List Int)), .int .u8 32] H (fun v H' => v = .string (ofInts [83, 49]) ∧ Stt [] H H' []) := by
 refine acallsW Tryz.func179 f179_ok (Nat.le_of_ble_eq_true rfl) fun hw => ?_
 have st : Stt [] H H [] := Stt.start hw
 unfold f179c
 refine zw ?_
 refine zm ?_
 refine sE ?_
 show AW _ (.loop _) _ _ _
 refine AW_loopN (fun m t1 H1 => ∃ (k : Nat), m = k + 1 ∧ (k ≤ 18) ∧ t1 0 = .string (ofInts ([83, 49] ++ List.replicate k 32 : List Int)) ∧ Stt [] H H1 []) (18 + 1) ⟨18, rfl, Nat.le_refl _, rfl, (st.sel [] (by decide))⟩ [0, 5, 6, 7, 8, 9, 10, 11, 12, 13, 14, 15, 16, 17, 18, 19, 20, 21] (by decide) ?_
 rintro m t1 H1 hk hI
 obtain ⟨k, rfl, hk9, ht0, st⟩ := hI
 obtain ⟨u, rfl⟩ : ∃ u, t1 = (upd (mix [0, 5, 6, 7, 8, 9, 10, 11, 12, 13, 14, 15, 16, 17, 18, 19, 20, 21] _ u) (some 0) _) := ⟨t1, by rw [← hk, upd_self ht0]⟩
 clear hk ht0
 refine zw ?_
 refine zm ?_
 refine aLenS (xs := ([83, 49] ++ List.replicate k 32 : List Int)) rfl ?_
 rw [show (([83, 49] ++ List.replicate k 32 : List Int).length) = k + 2 by simp]
 refine aBinV (.bool true) rfl rfl (gtT (by omega)) ?_
 refine zm ?_
 refine zg ?_
 refine zm ?_
 refine zg ?_
 refine zm ?_
 refine zg ?_
 refine aLenS (xs := ([83, 49] ++ List.replicate k 32 : List Int)) rfl ?_
 rw [show (([83, 49] ++ List.replicate k 32 : List Int).length) = k + 2 by simp]
 refine zg ?_
 refine aBinV (.int .i64 ((k + 1 : Nat) : Int)) rfl rfl (subI (by omega) (by omega)) ?_
 refine zg ?_
 refine aIdxS (xs := ([83, 49] ++ List.replicate k 32 : List Int)) (byte_app (by simp only [byteL_cons, byteL_nil, and_true]; decide) k) rfl rfl (by simp; omega) ?_
 refine zg ?_
 refine zm ?_
 refine zg ?_
 rcases k with _ | k
 ·refine aBinV (.bool false) rfl rfl (eqF (by decide)) ?_
  refine zm ?_
  refine zf ?_
  refine zw ?_
  iterate 2 refine zm ?_
  refine sE ?_
  refine ⟨_, out1 zr, ?_⟩
  exact ⟨rfl, st.drop⟩
 ·refine aBinV (.bool true) rfl rfl (eqT (trim_get _ _)) ?_
  refine zm ?_
  show AW _ (.cond _ _ _) _ _ _
  refine cT rfl ?_
  refine zw ?_
  iterate 2 refine zm ?_
  refine aLenS (xs := ([83, 49] ++ List.replicate (k + 1) 32 : List Int)) rfl ?_
  rw [show (([83, 49] ++ List.replicate (k + 1) 32 : List Int).length) = k + 3 by simp]
  refine aBinV (.int .i64 ((k + 2 : Nat) : Int)) rfl rfl (subI (by omega) (by omega)) ?_
  refine aCutSH (xs := ([83, 49] ++ List.replicate (k + 1) 32 : List Int)) (ys := ([83, 49] ++ List.replicate k 32 : List Int)) rfl rfl (by simp; omega) (trim_cut _ _) ?_
  refine zm ?_
  refine sE ?_
  exact ⟨_, by omega, k, rfl, by omega, rfl, (st.sel [] (by decide))⟩
theorem trim_1 {H : Hp}  :
  ACalls Tryz.prog 160 [.string (ofInts ([83, 49] ++ List.replicate 18 32 : List Int)), .string ⟨#[32]⟩] H (fun v H' => v = .string (ofInts [83, 49]) ∧ Stt [] H H' []) := by
 refine acallsW Tryz.func160 f160_ok (Nat.le_of_ble_eq_true rfl) fun hw => ?_
 have st : Stt [] H H [] := Stt.start hw
 unfold f160c
 refine zw ?_
 refine zm ?_
 refine zw ?_
 refine zm ?_
 refine aBinV (.bool false) rfl rfl (strF (by decide)) ?_
 refine zm ?_
 refine zg ?_
 refine zm ?_
 refine zg ?_
 refine aBinV (.bool false) rfl rfl (strF (by decide)) ?_
 refine zm ?_
 refine zf ?_
 refine zw ?_
 refine zm ?_
 refine aN (v := .int .i64 1) rfl rfl (by constructor) ?_
 refine zb (.bool true) ?_
 refine zm ?_
 refine zg ?_
 refine zm ?_
 refine zg ?_
 refine aN (v := .int .u8 32) rfl rfl (by constructor) ?_
 refine zg ?_
 refine zb (.bool true) ?_
 refine zm ?_
 show AW _ (.cond _ _ _) _ _ _
 refine cT rfl ?_
 refine zw ?_
 iterate 2 refine zm ?_
 refine aN (v := .int .u8 32) rfl rfl (by constructor) ?_
 refine aC (trimb_1) fun v25 H1 ⟨hv, st1⟩ => ?_
 subst hv
 replace st := st.call st1 rfl
 clear st1
 refine zm ?_
 refine sE ?_
 refine ⟨_, out1 zr, ?_⟩
 exact ⟨rfl, st.drop⟩
theorem xnum_call {H : Hp} {xs : List Int} {x : Value} {at_ n r : Int} (hx : Sl H 1 xs.length (xs.map (Value.int .u8)) x) (hb : ByteL xs) (hl : xs.length ≤ 1000000000000000) (hn : -9000000000000000000 ≤ n ∧ n ≤ 9000000000000000000) (hr : IntKind.i64.wrap (rgetV xs at_ n) = r) :
  ACalls Tryz.prog 135 [x, .int .i64 at_, .int .i64 n] H (fun v H' => v = .int .i64 r ∧ Stt [] H H' []) := by
 refine acallsW Tryz.func135 f135_ok (Nat.le_of_ble_eq_true rfl) fun hw => ?_
 have st : Stt [] H H [] := Stt.start hw
 unfold f135c
 refine zw ?_
 refine zm ?_
 refine zw ?_
 refine aMovV x rfl ?_
 iterate 2 refine zm ?_
 refine aC (get_call (st.slc hx) hb hl hn) fun v13 H1 ⟨hv, st1⟩ => ?_
 subst hv
 replace st := st.call st1 rfl
 clear st1
 iterate 5 refine zm ?_
 refine zw ?_
 iterate 3 refine zm ?_
 refine sE ?_
 refine ⟨_, out1 zr, ?_⟩
 exact ⟨congrArg (Value.int .i64) hr, st.drop⟩
theorem xunit_0 {H : Hp} {x : Value} (hx : Sl H 1 32 (([228, 0, 0, 0, 2, 1, 0, 20, 83, 48, 32, 32, 32, 32, 32, 32, 32, 32, 32, 32, 32, 32, 32, 32, 32, 32, 32, 32, 0, 0, 0, 16] : List Int).map (Value.int .u8)) x) :
  ACalls Tryz.prog 136 [x] H (fun v H' => v = .tuple #[.string (ofInts [83, 48]), .int .i64 (-1)] ∧ Stt [] H H' []) := by
 refine acallsW Tryz.func136 f136_ok (Nat.le_of_ble_eq_true rfl) fun hw => ?_
 have st : Stt [] H H [] := Stt.start hw
 unfold f136c
 refine zw ?_
 iterate 2 refine zm ?_
 refine zw ?_
 refine aLit st rfl (by repeat constructor) fun b7 H1 st => ?_
 refine zm ?_
 refine zw ?_
 refine zm ?_
 refine aN (v := .int .i64 8) rfl rfl (by constructor) ?_
 refine zm ?_
 refine sE ?_
 show AW _ (.loop _) _ _ _
 refine AW_fuel 9 ?_
 show AW _ _ _ _ _
 refine zw ?_
 refine zb (.bool true) ?_
 show AW _ (.cond _ _ _) _ _ _
 refine cT rfl ?_
 refine zw ?_
 iterate 2 refine zm ?_
 refine zl st 0 ?_
 iterate 2 refine zm ?_
 refine zw ?_
 refine aMovV x rfl ?_
 refine zm ?_
 refine aIxB (st.slc hx) rfl rfl (by first | decide | omega) fun b17 o17 g17 => ?_
 refine aLdG rfl g17 ?_
 refine zm ?_
 refine aBinV (.bool false) rfl rfl (neF rfl) ?_
 refine zf ?_
 refine zw ?_
 refine zb (.int .i64 1) ?_
 refine zm ?_
 refine sE ?_
 show AW _ _ _ _ _
 refine zw ?_
 refine zb (.bool true) ?_
 show AW _ (.cond _ _ _) _ _ _
 refine cT rfl ?_
 refine zw ?_
 iterate 2 refine zm ?_
 refine zl st 0 ?_
 iterate 2 refine zm ?_
 refine zw ?_
 refine aMovV x rfl ?_
 refine zm ?_
 refine aIxB (st.slc hx) rfl rfl (by first | decide | omega) fun b17 o17 g17 => ?_
 refine aLdG rfl g17 ?_
 refine zm ?_
 refine aBinV (.bool false) rfl rfl (neF rfl) ?_
 refine zf ?_
 refine zw ?_
 refine zb (.int .i64 2) ?_
 refine zm ?_
 refine sE ?_
 show AW _ _ _ _ _
 refine zw ?_
 refine zb (.bool true) ?_
 show AW _ (.cond _ _ _) _ _ _
 refine cT rfl ?_
 refine zw ?_
 iterate 2 refine zm ?_
 refine zl st 0 ?_
 iterate 2 refine zm ?_
 refine zw ?_
 refine aMovV x rfl ?_
 refine zm ?_
 refine aIxB (st.slc hx) rfl rfl (by first | decide | omega) fun b17 o17 g17 => ?_
 refine aLdG rfl g17 ?_
 refine zm ?_
 refine aBinV (.bool false) rfl rfl (neF rfl) ?_
 refine zf ?_
 refine zw ?_
 refine zb (.int .i64 3) ?_
 refine zm ?_
 refine sE ?_
 show AW _ _ _ _ _
 refine zw ?_
 refine zb (.bool true) ?_
 show AW _ (.cond _ _ _) _ _ _
 refine cT rfl ?_
 refine zw ?_
 iterate 2 refine zm ?_
 refine zl st 0 ?_
 iterate 2 refine zm ?_
 refine zw ?_
 refine aMovV x rfl ?_
 refine zm ?_
 refine aIxB (st.slc hx) rfl rfl (by first | decide | omega) fun b17 o17 g17 => ?_
 refine aLdG rfl g17 ?_
 refine zm ?_
 refine aBinV (.bool false) rfl rfl (neF rfl) ?_
 refine zf ?_
 refine zw ?_
 refine zb (.int .i64 4) ?_
 refine zm ?_
 refine sE ?_
 show AW _ _ _ _ _
 refine zw ?_
 refine zb (.bool true) ?_
 show AW _ (.cond _ _ _) _ _ _
 refine cT rfl ?_
 refine zw ?_
 iterate 2 refine zm ?_
 refine zl st 0 ?_
 iterate 2 refine zm ?_
 refine zw ?_
 refine aMovV x rfl ?_
 refine zm ?_
 refine aIxB (st.slc hx) rfl rfl (by first | decide | omega) fun b17 o17 g17 => ?_
 refine aLdG rfl g17 ?_
 refine zm ?_
 refine aBinV (.bool false) rfl rfl (neF rfl) ?_
 refine zf ?_
 refine zw ?_
 refine zb (.int .i64 5) ?_
 refine zm ?_
 refine sE ?_
 show AW _ _ _ _ _
 refine zw ?_
 refine zb (.bool true) ?_
 show AW _ (.cond _ _ _) _ _ _
 refine cT rfl ?_
 refine zw ?_
 iterate 2 refine zm ?_
 refine zl st 0 ?_
 iterate 2 refine zm ?_
 refine zw ?_
 refine aMovV x rfl ?_
 refine zm ?_
 refine aIxB (st.slc hx) rfl rfl (by first | decide | omega) fun b17 o17 g17 => ?_
 refine aLdG rfl g17 ?_
 refine zm ?_
 refine aBinV (.bool false) rfl rfl (neF rfl) ?_
 refine zf ?_
 refine zw ?_
 refine zb (.int .i64 6) ?_
 refine zm ?_
 refine sE ?_
 show AW _ _ _ _ _
 refine zw ?_
 refine zb (.bool true) ?_
 show AW _ (.cond _ _ _) _ _ _
 refine cT rfl ?_
 refine zw ?_
 iterate 2 refine zm ?_
 refine zl st 0 ?_
 iterate 2 refine zm ?_
 refine zw ?_
 refine aMovV x rfl ?_
 refine zm ?_
 refine aIxB (st.slc hx) rfl rfl (by first | decide | omega) fun b17 o17 g17 => ?_
 refine aLdG rfl g17 ?_
 refine zm ?_
 refine aBinV (.bool false) rfl rfl (neF rfl) ?_
 refine zf ?_
 refine zw ?_
 refine zb (.int .i64 7) ?_
 refine zm ?_
 refine sE ?_
 show AW _ _ _ _ _
 refine zw ?_
 refine zb (.bool true) ?_
 show AW _ (.cond _ _ _) _ _ _
 refine cT rfl ?_
 refine zw ?_
 iterate 2 refine zm ?_
 refine zl st 0 ?_
 iterate 2 refine zm ?_
 refine zw ?_
 refine aMovV x rfl ?_
 refine zm ?_
 refine aIxB (st.slc hx) rfl rfl (by first | decide | omega) fun b17 o17 g17 => ?_
 refine aLdG rfl g17 ?_
 refine zm ?_
 refine aBinV (.bool false) rfl rfl (neF rfl) ?_
 refine zf ?_
 refine zw ?_
 refine zb (.int .i64 8) ?_
 refine zm ?_
 refine sE ?_
 show AW _ _ _ _ _
 refine zw ?_
 refine zb (.bool false) ?_
 refine zf ?_
 refine zw ?_
 refine aMovV x rfl ?_
 refine aC (xnum_call (xs := [228, 0, 0, 0, 2, 1, 0, 20, 83, 48, 32, 32, 32, 32, 32, 32, 32, 32, 32, 32, 32, 32, 32, 32, 32, 32, 32, 32, 0, 0, 0, 16]) (at_ := 28) (n := 1) (r := 0) ((st.slc hx)) (by simp only [byteL_cons, byteL_nil, and_true]; decide) (Nat.le_of_ble_eq_true rfl) (by decide) rfl) fun v24 H2 ⟨hv, st1⟩ => ?_
 subst hv
 replace st := st.call st1 rfl
 clear st1
 refine zb (.bool false) ?_
 refine zf ?_
 refine zw ?_
 refine aMovV x rfl ?_
 refine aC (xnum_call (xs := [228, 0, 0, 0, 2, 1, 0, 20, 83, 48, 32, 32, 32, 32, 32, 32, 32, 32, 32, 32, 32, 32, 32, 32, 32, 32, 32, 32, 0, 0, 0, 16]) (at_ := 29) (n := 3) (r := 16) ((st.slc hx)) (by simp only [byteL_cons, byteL_nil, and_true]; decide) (Nat.le_of_ble_eq_true rfl) (by decide) rfl) fun v27 H3 ⟨hv, st1⟩ => ?_
 subst hv
 replace st := st.call st1 rfl
 clear st1
 refine zb (.bool false) ?_
 refine zf ?_
 refine zw ?_
 refine aMovV x rfl ?_
 refine aCutLH (xs := [228, 0, 0, 0, 2, 1, 0, 20, 83, 48, 32, 32, 32, 32, 32, 32, 32, 32, 32, 32, 32, 32, 32, 32, 32, 32, 32, 32, 0, 0, 0, 16]) (st.slc hx) rfl rfl rfl (by decide) fun v30 s30 => ?_
 replace s30 := s30 _ hx
 refine aTextV (n := 20) (xs := [83, 48, 32, 32, 32, 32, 32, 32, 32, 32, 32, 32, 32, 32, 32, 32, 32, 32, 32, 32]) (ys := ofInts ([83, 48] ++ List.replicate 18 32)) (by have s9 := (st.slc s30); exact s9) rfl rfl ?_
 refine aC (trim_0) fun v32 H4 ⟨hv, st1⟩ => ?_
 subst hv
 replace st := st.call st1 rfl
 clear st1
 iterate 2 refine zm ?_
 refine sE ?_
 refine ⟨_, out2 zr zr ⟨rfl, rfl⟩, ?_⟩
 exact ⟨rfl, st.drop⟩
theorem xunit_1 {H : Hp} {x : Value} (hx : Sl H 1 32 (([228, 0, 0, 0, 2, 1, 0, 20, 83, 49, 32, 32, 32, 32, 32, 32, 32, 32, 32, 32, 32, 32, 32, 32, 32, 32, 32, 32, 0, 0, 0, 16] : List Int).map (Value.int .u8)) x) :
  ACalls Tryz.prog 136 [x] H (fun v H' => v = .tuple #[.string (ofInts [83, 49]), .int .i64 (-1)] ∧ Stt [] H H' []) := by
 refine acallsW Tryz.func136 f136_ok (Nat.le_of_ble_eq_true rfl) fun hw => ?_
 have st : Stt [] H H [] := Stt.start hw
 unfold f136c
 refine zw ?_
 iterate 2 refine zm ?_
 refine zw ?_
 refine aLit st rfl (by repeat constructor) fun b7 H1 st => ?_
 refine zm ?_
 refine zw ?_
 refine zm ?_
 refine aN (v := .int .i64 8) rfl rfl (by constructor) ?_
 refine zm ?_
 refine sE ?_
 show AW _ (.loop _) _ _ _
 refine AW_fuel 9 ?_
 show AW _ _ _ _ _
 refine zw ?_
 refine zb (.bool true) ?_
 show AW _ (.cond _ _ _) _ _ _
 refine cT rfl ?_
 refine zw ?_
 iterate 2 refine zm ?_
 refine zl st 0 ?_
 iterate 2 refine zm ?_
 refine zw ?_
 refine aMovV x rfl ?_
 refine zm ?_
 refine aIxB (st.slc hx) rfl rfl (by first | decide | omega) fun b17 o17 g17 => ?_
 refine aLdG rfl g17 ?_
 refine zm ?_
 refine aBinV (.bool false) rfl rfl (neF rfl) ?_
 refine zf ?_
 refine zw ?_
 refine zb (.int .i64 1) ?_
 refine zm ?_
 refine sE ?_
 show AW _ _ _ _ _
 refine zw ?_
 refine zb (.bool true) ?_
 show AW _ (.cond _ _ _) _ _ _
 refine cT rfl ?_
 refine zw ?_
 iterate 2 refine zm ?_
 refine zl st 0 ?_
 iterate 2 refine zm ?_
 refine zw ?_
 refine aMovV x rfl ?_
 refine zm ?_
 refine aIxB (st.slc hx) rfl rfl (by first | decide | omega) fun b17 o17 g17 => ?_
 refine aLdG rfl g17 ?_
 refine zm ?_
 refine aBinV (.bool false) rfl rfl (neF rfl) ?_
 refine zf ?_
 refine zw ?_
 refine zb (.int .i64 2) ?_
 refine zm ?_
 refine sE ?_
 show AW _ _ _ _ _
 refine zw ?_
 refine zb (.bool true) ?_
 show AW _ (.cond _ _ _) _ _ _
 refine cT rfl ?_
 refine zw ?_
 iterate 2 refine zm ?_
 refine zl st 0 ?_
 iterate 2 refine zm ?_
 refine zw ?_
 refine aMovV x rfl ?_
 refine zm ?_
 refine aIxB (st.slc hx) rfl rfl (by first | decide | omega) fun b17 o17 g17 => ?_
 refine aLdG rfl g17 ?_
 refine zm ?_
 refine aBinV (.bool false) rfl rfl (neF rfl) ?_
 refine zf ?_
 refine zw ?_
 refine zb (.int .i64 3) ?_
 refine zm ?_
 refine sE ?_
 show AW _ _ _ _ _
 refine zw ?_
 refine zb (.bool true) ?_
 show AW _ (.cond _ _ _) _ _ _
 refine cT rfl ?_
 refine zw ?_
 iterate 2 refine zm ?_
 refine zl st 0 ?_
 iterate 2 refine zm ?_
 refine zw ?_
 refine aMovV x rfl ?_
 refine zm ?_
 refine aIxB (st.slc hx) rfl rfl (by first | decide | omega) fun b17 o17 g17 => ?_
 refine aLdG rfl g17 ?_
 refine zm ?_
 refine aBinV (.bool false) rfl rfl (neF rfl) ?_
 refine zf ?_
 refine zw ?_
 refine zb (.int .i64 4) ?_
 refine zm ?_
 refine sE ?_
 show AW _ _ _ _ _
 refine zw ?_
 refine zb (.bool true) ?_
 show AW _ (.cond _ _ _) _ _ _
 refine cT rfl ?_
 refine zw ?_
 iterate 2 refine zm ?_
 refine zl st 0 ?_
 iterate 2 refine zm ?_
 refine zw ?_
 refine aMovV x rfl ?_
 refine zm ?_
 refine aIxB (st.slc hx) rfl rfl (by first | decide | omega) fun b17 o17 g17 => ?_
 refine aLdG rfl g17 ?_
 refine zm ?_
 refine aBinV (.bool false) rfl rfl (neF rfl) ?_
 refine zf ?_
 refine zw ?_
 refine zb (.int .i64 5) ?_
 refine zm ?_
 refine sE ?_
 show AW _ _ _ _ _
 refine zw ?_
 refine zb (.bool true) ?_
 show AW _ (.cond _ _ _) _ _ _
 refine cT rfl ?_
 refine zw ?_
 iterate 2 refine zm ?_
 refine zl st 0 ?_
 iterate 2 refine zm ?_
 refine zw ?_
 refine aMovV x rfl ?_
 refine zm ?_
 refine aIxB (st.slc hx) rfl rfl (by first | decide | omega) fun b17 o17 g17 => ?_
 refine aLdG rfl g17 ?_
 refine zm ?_
 refine aBinV (.bool false) rfl rfl (neF rfl) ?_
 refine zf ?_
 refine zw ?_
 refine zb (.int .i64 6) ?_
 refine zm ?_
 refine sE ?_
 show AW _ _ _ _ _
 refine zw ?_
 refine zb (.bool true) ?_
 show AW _ (.cond _ _ _) _ _ _
 refine cT rfl ?_
 refine zw ?_
 iterate 2 refine zm ?_
 refine zl st 0 ?_
 iterate 2 refine zm ?_
 refine zw ?_
 refine aMovV x rfl ?_
 refine zm ?_
 refine aIxB (st.slc hx) rfl rfl (by first | decide | omega) fun b17 o17 g17 => ?_
 refine aLdG rfl g17 ?_
 refine zm ?_
 refine aBinV (.bool false) rfl rfl (neF rfl) ?_
 refine zf ?_
 refine zw ?_
 refine zb (.int .i64 7) ?_
 refine zm ?_
 refine sE ?_
 show AW _ _ _ _ _
 refine zw ?_
 refine zb (.bool true) ?_
 show AW _ (.cond _ _ _) _ _ _
 refine cT rfl ?_
 refine zw ?_
 iterate 2 refine zm ?_
 refine zl st 0 ?_
 iterate 2 refine zm ?_
 refine zw ?_
 refine aMovV x rfl ?_
 refine zm ?_
 refine aIxB (st.slc hx) rfl rfl (by first | decide | omega) fun b17 o17 g17 => ?_
 refine aLdG rfl g17 ?_
 refine zm ?_
 refine aBinV (.bool false) rfl rfl (neF rfl) ?_
 refine zf ?_
 refine zw ?_
 refine zb (.int .i64 8) ?_
 refine zm ?_
 refine sE ?_
 show AW _ _ _ _ _
 refine zw ?_
 refine zb (.bool false) ?_
 refine zf ?_
 refine zw ?_
 refine aMovV x rfl ?_
 refine aC (xnum_call (xs := [228, 0, 0, 0, 2, 1, 0, 20, 83, 49, 32, 32, 32, 32, 32, 32, 32, 32, 32, 32, 32, 32, 32, 32, 32, 32, 32, 32, 0, 0, 0, 16]) (at_ := 28) (n := 1) (r := 0) ((st.slc hx)) (by simp only [byteL_cons, byteL_nil, and_true]; decide) (Nat.le_of_ble_eq_true rfl) (by decide) rfl) fun v24 H2 ⟨hv, st1⟩ => ?_
 subst hv
 replace st := st.call st1 rfl
 clear st1
 refine zb (.bool false) ?_
 refine zf ?_
 refine zw ?_
 refine aMovV x rfl ?_
 refine aC (xnum_call (xs := [228, 0, 0, 0, 2, 1, 0, 20, 83, 49, 32, 32, 32, 32, 32, 32, 32, 32, 32, 32, 32, 32, 32, 32, 32, 32, 32, 32, 0, 0, 0, 16]) (at_ := 29) (n := 3) (r := 16) ((st.slc hx)) (by simp only [byteL_cons, byteL_nil, and_true]; decide) (Nat.le_of_ble_eq_true rfl) (by decide) rfl) fun v27 H3 ⟨hv, st1⟩ => ?_
 subst hv
 replace st := st.call st1 rfl
 clear st1
 refine zb (.bool false) ?_
 refine zf ?_
 refine zw ?_
 refine aMovV x rfl ?_
 refine aCutLH (xs := [228, 0, 0, 0, 2, 1, 0, 20, 83, 49, 32, 32, 32, 32, 32, 32, 32, 32, 32, 32, 32, 32, 32, 32, 32, 32, 32, 32, 0, 0, 0, 16]) (st.slc hx) rfl rfl rfl (by decide) fun v30 s30 => ?_
 replace s30 := s30 _ hx
 refine aTextV (n := 20) (xs := [83, 49, 32, 32, 32, 32, 32, 32, 32, 32, 32, 32, 32, 32, 32, 32, 32, 32, 32, 32]) (ys := ofInts ([83, 49] ++ List.replicate 18 32)) (by have s9 := (st.slc s30); exact s9) rfl rfl ?_
 refine aC (trim_1) fun v32 H4 ⟨hv, st1⟩ => ?_
 subst hv
 replace st := st.call st1 rfl
 clear st1
 iterate 2 refine zm ?_
 refine sE ?_
 refine ⟨_, out2 zr zr ⟨rfl, rfl⟩, ?_⟩
 exact ⟨rfl, st.drop⟩
end Go.Proofs.YtjmjkdelkaflmaaGreatDoor.Abs
