/- The parameters of a copy, read. -/
import Derived.Test.YtjmjkdelkaflmaaGreatDoorXI
import Derived.Test.YtjmjkdelkaflmaaGreatDoorXW
import Derived.Test.YtjmjkdelkaflmaaGreatDoorXX
import Derived.Test.YtjmjkdelkaflmaaGreatDoorXT
set_option linter.unusedVariables false
set_option linter.unusedSimpArgs false
set_option maxRecDepth 100000
namespace Go.Proofs.YtjmjkdelkaflmaaGreatDoor.Abs
open Go Go.RowKit
set_option maxHeartbeats 2000000 in
theorem xparse_call {H : Hp} {x : Value} {f t n sr ds : Nat} (hx : Sl H 1 108 (([0, 0, 0, 64, 0, 0, 0, 0, 0, 0, 0, 28, 0, 0, 0, 0, 228, 0, 0, 0, 2, 1, 0, 20, 83, 48, 32, 32, 32, 32, 32, 32, 32, 32, 32, 32, 32, 32, 32, 32, 32, 32, 32, 32, 0, 0, 0, 16, 228, 0, 0, 0, 2, 1, 0, 20, 83, 49, 32, 32, 32, 32, 32, 32, 32, 32, 32, 32, 32, 32, 32, 32, 32, 32, 32, 32, 0, 0, 0, 16, 2, 0, 0, 24, 0, (f : Int), 0, (t : Int), 0, 0, 0, (n : Int), 0, 0, 0, 0, 0, 0, 0, (sr : Int), 0, 0, 0, 0, 0, 0, 0, (ds : Int)] : List Int).map (Value.int .u8)) x) (hf : f < 2) (ht : t < 2) (hn : n ≤ 16) (hsr : sr < 16) (hds : ds < 16) :
  ACalls Tryz.prog 98 [x] H (fun v H' => ∃ ub sg, v = .tuple #[.agg #[.slice (some ⟨ub, 0, none⟩) 2 1, .slice (some ⟨sg, 0, none⟩) 1 5], .agg #[.int .u8 0, .int .u16 0, .int .u64 0, .bool false, .int .i64 0, .int .i64 0, .bool false, .bool false], .bool true] ∧ Stt [] H H' [⟨some ub, true, ⟨true, 9, [.string (ofInts [83, 48]), .string (ofInts [83, 49])]⟩⟩, ⟨some sg, true, ⟨true, 61, [.int .i64 (f : Int), .int .i64 (t : Int), .int .i64 (n : Int), .int .u64 (sr : Int), .int .u64 (ds : Int)]⟩⟩]) := by
 refine acallsW Tryz.func98 f98_ok (Nat.le_of_ble_eq_true rfl) fun hw => ?_
 have st : Stt [] H H [] := Stt.start hw
 unfold f98c
 refine zw ?_
 refine zp st fun b2 H1 st => ?_
 refine zp st fun b3 H2 st => ?_
 refine zm ?_
 refine zw ?_
 refine aMovV x rfl ?_
 refine aLen (st.slc hx) rfl ?_
 refine zb (.bool false) ?_
 refine zf ?_
 refine zw ?_
 refine aMovV x rfl ?_
 refine aLen (st.slc hx) rfl ?_
 refine zb (.bool false) ?_
 refine zf ?_
 refine zw ?_
 refine aMovV x rfl ?_
 refine aC (xnum_call (xs := [0, 0, 0, 64, 0, 0, 0, 0, 0, 0, 0, 28, 0, 0, 0, 0, 228, 0, 0, 0, 2, 1, 0, 20, 83, 48, 32, 32, 32, 32, 32, 32, 32, 32, 32, 32, 32, 32, 32, 32, 32, 32, 32, 32, 0, 0, 0, 16, 228, 0, 0, 0, 2, 1, 0, 20, 83, 49, 32, 32, 32, 32, 32, 32, 32, 32, 32, 32, 32, 32, 32, 32, 32, 32, 32, 32, 0, 0, 0, 16, 2, 0, 0, 24, 0, (f : Int), 0, (t : Int), 0, 0, 0, (n : Int), 0, 0, 0, 0, 0, 0, 0, (sr : Int), 0, 0, 0, 0, 0, 0, 0, (ds : Int)]) (at_ := 2) (n := 2) (r := 64) ((st.slc hx)) (by simp only [byteL_cons, byteL_nil, and_true]; omega) (Nat.le_of_ble_eq_true rfl) (by decide) rfl) fun v25 H3 ⟨hv, st1⟩ => ?_
 subst hv
 replace st := st.call st1 rfl
 clear st1
 refine aMovV x rfl ?_
 refine aC (xnum_call (xs := [0, 0, 0, 64, 0, 0, 0, 0, 0, 0, 0, 28, 0, 0, 0, 0, 228, 0, 0, 0, 2, 1, 0, 20, 83, 48, 32, 32, 32, 32, 32, 32, 32, 32, 32, 32, 32, 32, 32, 32, 32, 32, 32, 32, 0, 0, 0, 16, 228, 0, 0, 0, 2, 1, 0, 20, 83, 49, 32, 32, 32, 32, 32, 32, 32, 32, 32, 32, 32, 32, 32, 32, 32, 32, 32, 32, 0, 0, 0, 16, 2, 0, 0, 24, 0, (f : Int), 0, (t : Int), 0, 0, 0, (n : Int), 0, 0, 0, 0, 0, 0, 0, (sr : Int), 0, 0, 0, 0, 0, 0, 0, (ds : Int)]) (at_ := 8) (n := 4) (r := 28) ((st.slc hx)) (by simp only [byteL_cons, byteL_nil, and_true]; omega) (Nat.le_of_ble_eq_true rfl) (by decide) rfl) fun v27 H4 ⟨hv, st1⟩ => ?_
 subst hv
 replace st := st.call st1 rfl
 clear st1
 iterate 2 refine zm ?_
 refine zw ?_
 refine aMovV x rfl ?_
 refine aIxB (st.slc hx) rfl rfl (by first | decide | omega) fun b30 o30 g30 => ?_
 refine aLdG rfl g30 ?_
 refine aBinV (.bool false) rfl rfl (neF rfl) ?_
 refine zm ?_
 refine zg ?_
 refine aMovV x rfl ?_
 refine zg ?_
 refine aIxB (st.slc hx) rfl rfl (by first | decide | omega) fun b35 o35 g35 => ?_
 refine zg ?_
 refine aLdG rfl g35 ?_
 refine zg ?_
 refine aBinV (.bool false) rfl rfl (neF rfl) ?_
 iterate 2 refine zm ?_
 refine zf ?_
 refine zw ?_
 refine aMovV x rfl ?_
 refine aC (xnum_call (xs := [0, 0, 0, 64, 0, 0, 0, 0, 0, 0, 0, 28, 0, 0, 0, 0, 228, 0, 0, 0, 2, 1, 0, 20, 83, 48, 32, 32, 32, 32, 32, 32, 32, 32, 32, 32, 32, 32, 32, 32, 32, 32, 32, 32, 0, 0, 0, 16, 228, 0, 0, 0, 2, 1, 0, 20, 83, 49, 32, 32, 32, 32, 32, 32, 32, 32, 32, 32, 32, 32, 32, 32, 32, 32, 32, 32, 0, 0, 0, 16, 2, 0, 0, 24, 0, (f : Int), 0, (t : Int), 0, 0, 0, (n : Int), 0, 0, 0, 0, 0, 0, 0, (sr : Int), 0, 0, 0, 0, 0, 0, 0, (ds : Int)]) (at_ := 4) (n := 4) (r := 0) ((st.slc hx)) (by simp only [byteL_cons, byteL_nil, and_true]; omega) (Nat.le_of_ble_eq_true rfl) (by decide) rfl) fun v43 H5 ⟨hv, st1⟩ => ?_
 subst hv
 replace st := st.call st1 rfl
 clear st1
 refine zb (.bool false) ?_
 refine zm ?_
 refine zf ?_
 refine zw ?_
 refine aMovV x rfl ?_
 refine aC (xnum_call (xs := [0, 0, 0, 64, 0, 0, 0, 0, 0, 0, 0, 28, 0, 0, 0, 0, 228, 0, 0, 0, 2, 1, 0, 20, 83, 48, 32, 32, 32, 32, 32, 32, 32, 32, 32, 32, 32, 32, 32, 32, 32, 32, 32, 32, 0, 0, 0, 16, 228, 0, 0, 0, 2, 1, 0, 20, 83, 49, 32, 32, 32, 32, 32, 32, 32, 32, 32, 32, 32, 32, 32, 32, 32, 32, 32, 32, 0, 0, 0, 16, 2, 0, 0, 24, 0, (f : Int), 0, (t : Int), 0, 0, 0, (n : Int), 0, 0, 0, 0, 0, 0, 0, (sr : Int), 0, 0, 0, 0, 0, 0, 0, (ds : Int)]) (at_ := 12) (n := 4) (r := 0) ((st.slc hx)) (by simp only [byteL_cons, byteL_nil, and_true]; omega) (Nat.le_of_ble_eq_true rfl) (by decide) rfl) fun v49 H6 ⟨hv, st1⟩ => ?_
 subst hv
 replace st := st.call st1 rfl
 clear st1
 refine zb (.bool false) ?_
 refine zm ?_
 refine zf ?_
 refine zw ?_
 refine zm ?_
 refine zb (.int .i64 0) ?_
 refine zb (.bool false) ?_
 refine zm ?_
 refine zf ?_
 refine zw ?_
 refine zm ?_
 refine zb (.int .i64 0) ?_
 refine zb (.bool false) ?_
 refine zm ?_
 refine zf ?_
 refine zw ?_
 refine aMovV x rfl ?_
 refine aLen (st.slc hx) rfl ?_
 refine zm ?_
 refine zb (.int .i64 80) ?_
 refine zm ?_
 refine zb (.int .i64 108) ?_
 refine zb (.bool false) ?_
 refine zm ?_
 refine zf ?_
 refine zw ?_
 refine zm ?_
 refine zb (.int .i64 1) ?_
 refine zb (.bool false) ?_
 refine zm ?_
 refine zg ?_
 refine zm ?_
 refine zg ?_
 refine zb (.int .i64 2) ?_
 refine zg ?_
 refine zb (.bool false) ?_
 iterate 2 refine zm ?_
 refine zf ?_
 refine zw ?_
 refine zp st fun b7 H7 st => ?_
 refine zw ?_
 refine zm ?_
 refine sE ?_
 show AW _ (.loop _) _ _ _
 refine AW_fuel 3 ?_
 show AW _ _ _ _ _
 refine zw ?_
 iterate 2 refine zm ?_
 refine zb (.int .i64 80) ?_
 refine zb (.bool true) ?_
 show AW _ (.cond _ _ _) _ _ _
 refine cT rfl ?_
 refine zw ?_
 refine aMovV x rfl ?_
 iterate 2 refine zm ?_
 refine zb (.int .i64 48) ?_
 refine aCutLH (xs := [0, 0, 0, 64, 0, 0, 0, 0, 0, 0, 0, 28, 0, 0, 0, 0, 228, 0, 0, 0, 2, 1, 0, 20, 83, 48, 32, 32, 32, 32, 32, 32, 32, 32, 32, 32, 32, 32, 32, 32, 32, 32, 32, 32, 0, 0, 0, 16, 228, 0, 0, 0, 2, 1, 0, 20, 83, 49, 32, 32, 32, 32, 32, 32, 32, 32, 32, 32, 32, 32, 32, 32, 32, 32, 32, 32, 0, 0, 0, 16, 2, 0, 0, 24, 0, (f : Int), 0, (t : Int), 0, 0, 0, (n : Int), 0, 0, 0, 0, 0, 0, 0, (sr : Int), 0, 0, 0, 0, 0, 0, 0, (ds : Int)]) (st.slc hx) rfl rfl rfl (by decide) fun v97_16 s97_16 => ?_
 replace s97_16 : Sl H 1 32 (([228, 0, 0, 0, 2, 1, 0, 20, 83, 48, 32, 32, 32, 32, 32, 32, 32, 32, 32, 32, 32, 32, 32, 32, 32, 32, 32, 32, 0, 0, 0, 16] : List Int).map (Value.int .u8)) v97_16 := s97_16 _ hx
 refine aC (xunit_0 (st.slc s97_16)) fun v98 H8 ⟨hv, st1⟩ => ?_
 subst hv
 replace st := st.call st1 rfl
 clear st1
 iterate 5 refine zm ?_
 refine zw ?_
 refine zm ?_
 refine zb (.bool false) ?_
 refine zf ?_
 refine zw ?_
 refine zm ?_
 refine zl st 0 ?_
 refine zm ?_
 refine aLit st rfl (by repeat constructor) fun b111 H9 st => ?_
 have st := st.nil 9
 have hnil : (Value.slice none 0 0) = accV none 0 1 := rfl
 refine aAppP st 0 (ob := none) (n := 0) rfl rfl rfl (by decide) (rfl) (st.rowAll 1 rfl (by first | rfl | (simp [beB_len, *]; done) | (simp [beB_len, *]; omega))).src (rfl) (by decide) (by decide) (by decide) (by repeat constructor) fun b112 H10 st => ?_
 refine zm ?_
 refine zx st 2 fun H11 st => ?_
 refine zw ?_
 refine zm ?_
 refine zb (.int .i64 48) ?_
 refine zm ?_
 refine sE ?_
 show AW _ _ _ _ _
 refine zw ?_
 iterate 2 refine zm ?_
 refine zb (.int .i64 80) ?_
 refine zb (.bool true) ?_
 show AW _ (.cond _ _ _) _ _ _
 refine cT rfl ?_
 refine zw ?_
 refine aMovV x rfl ?_
 iterate 2 refine zm ?_
 refine zb (.int .i64 80) ?_
 refine aCutLH (xs := [0, 0, 0, 64, 0, 0, 0, 0, 0, 0, 0, 28, 0, 0, 0, 0, 228, 0, 0, 0, 2, 1, 0, 20, 83, 48, 32, 32, 32, 32, 32, 32, 32, 32, 32, 32, 32, 32, 32, 32, 32, 32, 32, 32, 0, 0, 0, 16, 228, 0, 0, 0, 2, 1, 0, 20, 83, 49, 32, 32, 32, 32, 32, 32, 32, 32, 32, 32, 32, 32, 32, 32, 32, 32, 32, 32, 0, 0, 0, 16, 2, 0, 0, 24, 0, (f : Int), 0, (t : Int), 0, 0, 0, (n : Int), 0, 0, 0, 0, 0, 0, 0, (sr : Int), 0, 0, 0, 0, 0, 0, 0, (ds : Int)]) (st.slc hx) rfl rfl rfl (by decide) fun v97_48 s97_48 => ?_
 replace s97_48 : Sl H 1 32 (([228, 0, 0, 0, 2, 1, 0, 20, 83, 49, 32, 32, 32, 32, 32, 32, 32, 32, 32, 32, 32, 32, 32, 32, 32, 32, 32, 32, 0, 0, 0, 16] : List Int).map (Value.int .u8)) v97_48 := s97_48 _ hx
 refine aC (xunit_1 (st.slc s97_48)) fun v98 H12 ⟨hv, st1⟩ => ?_
 subst hv
 replace st := st.call st1 rfl
 clear st1
 iterate 5 refine zm ?_
 refine zw ?_
 refine zm ?_
 refine zb (.bool false) ?_
 refine zf ?_
 refine zw ?_
 refine zm ?_
 refine zl st 2 ?_
 refine zm ?_
 refine aLit st rfl (by repeat constructor) fun b111 H13 st => ?_
 refine aAppP st 1 (ob := some b112) rfl rfl rfl (by decide) (rfl) (st.rowAll 0 rfl (by first | rfl | (simp [beB_len, *]; done) | (simp [beB_len, *]; omega))).src (rfl) (by decide) (by decide) (by decide) (by repeat constructor) fun b112 H14 st => ?_
 refine zm ?_
 refine zx st 3 fun H15 st => ?_
 refine zw ?_
 refine zm ?_
 refine zb (.int .i64 80) ?_
 refine zm ?_
 refine sE ?_
 show AW _ _ _ _ _
 refine zw ?_
 iterate 2 refine zm ?_
 refine zb (.int .i64 80) ?_
 refine zb (.bool false) ?_
 refine zf ?_
 refine zw ?_
 refine zm ?_
 refine zb (.int .i64 80) ?_
 refine zm ?_
 refine sE ?_
 show AW _ (.loop _) _ _ _
 refine AW_fuel 2 ?_
 show AW _ _ _ _ _
 refine zw ?_
 refine zm ?_
 refine aMovV x rfl ?_
 refine aLen (st.slc hx) rfl ?_
 refine zb (.bool true) ?_
 show AW _ (.cond _ _ _) _ _ _
 refine cT rfl ?_
 refine zw ?_
 refine aMovV x rfl ?_
 iterate 2 refine zm ?_
 refine zb (.int .i64 108) ?_
 refine aCutLH (xs := [0, 0, 0, 64, 0, 0, 0, 0, 0, 0, 0, 28, 0, 0, 0, 0, 228, 0, 0, 0, 2, 1, 0, 20, 83, 48, 32, 32, 32, 32, 32, 32, 32, 32, 32, 32, 32, 32, 32, 32, 32, 32, 32, 32, 0, 0, 0, 16, 228, 0, 0, 0, 2, 1, 0, 20, 83, 49, 32, 32, 32, 32, 32, 32, 32, 32, 32, 32, 32, 32, 32, 32, 32, 32, 32, 32, 0, 0, 0, 16, 2, 0, 0, 24, 0, (f : Int), 0, (t : Int), 0, 0, 0, (n : Int), 0, 0, 0, 0, 0, 0, 0, (sr : Int), 0, 0, 0, 0, 0, 0, 0, (ds : Int)]) (st.slc hx) rfl rfl rfl (by decide) fun v126_80 s126_80 => ?_
 replace s126_80 : Sl H 1 28 (([2, 0, 0, 24, 0, (f : Int), 0, (t : Int), 0, 0, 0, (n : Int), 0, 0, 0, 0, 0, 0, 0, (sr : Int), 0, 0, 0, 0, 0, 0, 0, (ds : Int)] : List Int).map (Value.int .u8)) v126_80 := s126_80 _ hx
 refine aMovV v126_80 rfl ?_
 refine zw ?_
 refine aMovV v126_80 rfl ?_
 refine aC (xnum_call (xs := [2, 0, 0, 24, 0, (f : Int), 0, (t : Int), 0, 0, 0, (n : Int), 0, 0, 0, 0, 0, 0, 0, (sr : Int), 0, 0, 0, 0, 0, 0, 0, (ds : Int)]) (at_ := 4) (n := 2) (r := (f : Int)) ((st.slc s126_80)) (by simp only [byteL_cons, byteL_nil, and_true]; omega) (Nat.le_of_ble_eq_true rfl) (by decide) (by show IntKind.i64.wrap (((0 : Int) * 256 + 0) * 256 + (f : Int)) = _; rw [wi _ (by omega)]; omega)) fun v128 H16 ⟨hv, st1⟩ => ?_
 subst hv
 replace st := st.call st1 rfl
 clear st1
 refine aMovV v126_80 rfl ?_
 refine aC (xnum_call (xs := [2, 0, 0, 24, 0, (f : Int), 0, (t : Int), 0, 0, 0, (n : Int), 0, 0, 0, 0, 0, 0, 0, (sr : Int), 0, 0, 0, 0, 0, 0, 0, (ds : Int)]) (at_ := 6) (n := 2) (r := (t : Int)) ((st.slc s126_80)) (by simp only [byteL_cons, byteL_nil, and_true]; omega) (Nat.le_of_ble_eq_true rfl) (by decide) (by show IntKind.i64.wrap (((0 : Int) * 256 + 0) * 256 + (t : Int)) = _; rw [wi _ (by omega)]; omega)) fun v130 H17 ⟨hv, st1⟩ => ?_
 subst hv
 replace st := st.call st1 rfl
 clear st1
 refine aMovV v126_80 rfl ?_
 refine aC (xnum_call (xs := [2, 0, 0, 24, 0, (f : Int), 0, (t : Int), 0, 0, 0, (n : Int), 0, 0, 0, 0, 0, 0, 0, (sr : Int), 0, 0, 0, 0, 0, 0, 0, (ds : Int)]) (at_ := 10) (n := 2) (r := (n : Int)) ((st.slc s126_80)) (by simp only [byteL_cons, byteL_nil, and_true]; omega) (Nat.le_of_ble_eq_true rfl) (by decide) (by show IntKind.i64.wrap (((0 : Int) * 256 + 0) * 256 + (n : Int)) = _; rw [wi _ (by omega)]; omega)) fun v132 H18 ⟨hv, st1⟩ => ?_
 subst hv
 replace st := st.call st1 rfl
 clear st1
 refine aBld rfl (by repeat constructor) ?_
 refine zp st fun b13 H19 st => ?_
 refine zx st 0 fun H20 st => ?_
 refine zw ?_
 refine aMovV v126_80 rfl ?_
 refine aC (get_call (xs := [2, 0, 0, 24, 0, (f : Int), 0, (t : Int), 0, 0, 0, (n : Int), 0, 0, 0, 0, 0, 0, 0, (sr : Int), 0, 0, 0, 0, 0, 0, 0, (ds : Int)]) (at_ := 12) (n := 8) ((st.slc s126_80)) (by simp only [byteL_cons, byteL_nil, and_true]; omega) (Nat.le_of_ble_eq_true rfl) (by decide)) fun v136 H21 ⟨hv, st1⟩ => ?_
 rw [show rgetV [2, 0, 0, 24, 0, (f : Int), 0, (t : Int), 0, 0, 0, (n : Int), 0, 0, 0, 0, 0, 0, 0, (sr : Int), 0, 0, 0, 0, 0, 0, 0, (ds : Int)] 12 8 = (sr : Int) by (show (((((((((0 : Int) * 256 + 0) * 256 + 0) * 256 + 0) * 256 + 0) * 256 + 0) * 256 + 0) * 256 + 0) * 256 + (sr : Int)) = _; omega)] at hv; subst hv
 replace st := st.call st1 rfl
 clear st1
 iterate 4 refine zm ?_
 refine zx st 0 fun H22 st => ?_
 refine zw ?_
 refine aMovV v126_80 rfl ?_
 refine aC (get_call (xs := [2, 0, 0, 24, 0, (f : Int), 0, (t : Int), 0, 0, 0, (n : Int), 0, 0, 0, 0, 0, 0, 0, (sr : Int), 0, 0, 0, 0, 0, 0, 0, (ds : Int)]) (at_ := 20) (n := 8) ((st.slc s126_80)) (by simp only [byteL_cons, byteL_nil, and_true]; omega) (Nat.le_of_ble_eq_true rfl) (by decide)) fun v142 H23 ⟨hv, st1⟩ => ?_
 rw [show rgetV [2, 0, 0, 24, 0, (f : Int), 0, (t : Int), 0, 0, 0, (n : Int), 0, 0, 0, 0, 0, 0, 0, (sr : Int), 0, 0, 0, 0, 0, 0, 0, (ds : Int)] 20 8 = (ds : Int) by (show (((((((((0 : Int) * 256 + 0) * 256 + 0) * 256 + 0) * 256 + 0) * 256 + 0) * 256 + 0) * 256 + 0) * 256 + (ds : Int)) = _; omega)] at hv; subst hv
 replace st := st.call st1 rfl
 clear st1
 iterate 4 refine zm ?_
 refine zx st 0 fun H24 st => ?_
 refine zw ?_
 refine aMovV v126_80 rfl ?_
 refine aC (xnum_call (xs := [2, 0, 0, 24, 0, (f : Int), 0, (t : Int), 0, 0, 0, (n : Int), 0, 0, 0, 0, 0, 0, 0, (sr : Int), 0, 0, 0, 0, 0, 0, 0, (ds : Int)]) (at_ := 0) (n := 4) (r := 33554456) ((st.slc s126_80)) (by simp only [byteL_cons, byteL_nil, and_true]; omega) (Nat.le_of_ble_eq_true rfl) (by decide) rfl) fun v148 H25 ⟨hv, st1⟩ => ?_
 subst hv
 replace st := st.call st1 rfl
 clear st1
 refine aBinV (.bool false) rfl rfl (neF rfl) ?_
 refine zm ?_
 refine zf ?_
 refine zw ?_
 refine aMovV v126_80 rfl ?_
 refine aC (xnum_call (xs := [2, 0, 0, 24, 0, (f : Int), 0, (t : Int), 0, 0, 0, (n : Int), 0, 0, 0, 0, 0, 0, 0, (sr : Int), 0, 0, 0, 0, 0, 0, 0, (ds : Int)]) (at_ := 8) (n := 2) (r := 0) ((st.slc s126_80)) (by simp only [byteL_cons, byteL_nil, and_true]; omega) (Nat.le_of_ble_eq_true rfl) (by decide) rfl) fun v155 H26 ⟨hv, st1⟩ => ?_
 subst hv
 replace st := st.call st1 rfl
 clear st1
 refine aBinV (.bool false) rfl rfl (neF rfl) ?_
 refine zm ?_
 refine zf ?_
 refine zw ?_
 refine zm ?_
 refine zl st 0 ?_
 refine zm ?_
 refine zl st 4 ?_
 refine aN (v := .int .i64 2) rfl rfl (by constructor) ?_
 refine aBinV (.bool false) rfl rfl (geF (by omega)) ?_
 refine zm ?_
 refine zf ?_
 refine zw ?_
 refine zm ?_
 refine zl st 0 ?_
 refine zm ?_
 refine zl st 4 ?_
 refine aN (v := .int .i64 2) rfl rfl (by constructor) ?_
 refine aBinV (.bool false) rfl rfl (geF (by omega)) ?_
 refine zm ?_
 refine zf ?_
 refine zw ?_
 refine zm ?_
 refine zl st 0 ?_
 refine aBinV (.bool false) rfl rfl (gtF (by omega)) ?_
 refine zm ?_
 refine zf ?_
 refine zw ?_
 refine zm ?_
 refine zl st 4 ?_
 refine aLdA st 0 rfl rfl (by first | decide | simp [*]) (by repeat constructor) ?_
 refine aLit st rfl (by repeat constructor) fun b194 H27 st => ?_
 have st := st.nil 61
 have hnil : (Value.slice none 0 0) = accV none 0 5 := rfl
 refine aAppP st 0 (ob := none) (n := 0) rfl rfl rfl (by decide) (rfl) (st.rowAll 1 rfl (by first | rfl | (simp [beB_len, *]; done) | (simp [beB_len, *]; omega))).src (rfl) (by decide) (by decide) (by decide) (by repeat constructor) fun b195 H28 st => ?_
 refine zm ?_
 refine zx st 6 fun H29 st => ?_
 refine zw ?_
 refine zm ?_
 refine zb (.int .i64 108) ?_
 refine zm ?_
 refine sE ?_
 show AW _ _ _ _ _
 refine zw ?_
 refine zm ?_
 refine aMovV x rfl ?_
 refine aLen (st.slc hx) rfl ?_
 refine zb (.bool false) ?_
 refine zf ?_
 refine zw ?_
 refine aLdA st 6 rfl rfl (by first | decide | simp [*]) (by repeat constructor) ?_
 refine aBld rfl (by repeat constructor) ?_
 refine zx st 8 fun H30 st => ?_
 refine zx st 7 fun H31 st => ?_
 refine zm ?_
 refine sE ?_
 refine ⟨_, out3 (zc st 8) (zc st 7) zr ⟨rfl, rfl, rfl⟩, ?_⟩
 exact ⟨b112, b195, rfl, st.sel [4, 0] (by decide)⟩
set_option maxHeartbeats 2000000 in
theorem tag3_ucopy_all (a b c : Nat) {p : Prop} (h : a = a → b = b → c = c → p) : p := h rfl rfl rfl
set_option maxHeartbeats 8000000 in
theorem ucopy_all : (∀ {H : Hp} {w sb db nw n sr ds s0 s1 dv0 dv1 : Nat} {wb ob0 ob1 : Option Nat} {c : List (Value × Value)} {cs : List Value} {nm0 nm1 : ByteArray} {fs0 fs1 : List (Option Bk)} {ops stop : Int} {u0 u1 pe0 pe1 tb0 tb1 pg0 pg1 k0 k1 q0 q1 pb : Nat} {ct0 ct1 : Int} (st0 : Stt ([w] ++ [sb] ++ wb.toList ++ ob0.toList) H H [⟨some w, true, zW sb db (accV wb nw 5) ops stop⟩, ⟨some sb, true, ⟨true, .mp c, []⟩⟩, ⟨wb, true, ⟨true, 121, cs⟩⟩, ⟨ob0, true, ⟨true, 5, (fileL fs0).map (Value.int .u8)⟩⟩, ⟨ob1, false, ⟨true, 5, (fileL fs1).map (Value.int .u8)⟩⟩, ⟨some s0, false, zS w nm0 (16 : Int)⟩, ⟨some s1, false, zS w nm1 (16 : Int)⟩, ⟨some dv0, false, zD s0 0⟩, ⟨some dv1, false, zD s1 1⟩, ⟨some u0, false, zU ⟨#[83, 48]⟩ 0 dv0 k0 pg0 tb0 q0 (.slice (some ⟨pe0, 0, none⟩) 1 1) 1 0 ct0⟩, ⟨some u1, false, zU ⟨#[83, 49]⟩ 1 dv1 k1 pg1 tb1 q1 (.slice (some ⟨pe1, 0, none⟩) 1 1) 1 0 ct1⟩, ⟨some pe0, false, ⟨true, 27, [zP u1]⟩⟩, ⟨some tb0, false, zT⟩, ⟨some tb1, false, zT⟩, ⟨some pg0, false, zG⟩, ⟨some pg1, false, zG⟩, ⟨some pb, false, ⟨true, 5, ([0, 0, 0, 64, 0, 0, 0, 0, 0, 0, 0, 28, 0, 0, 0, 0, 228, 0, 0, 0, 2, 1, 0, 20, 83, 48, 32, 32, 32, 32, 32, 32, 32, 32, 32, 32, 32, 32, 32, 32, 32, 32, 32, 32, 0, 0, 0, 16, 228, 0, 0, 0, 2, 1, 0, 20, 83, 49, 32, 32, 32, 32, 32, 32, 32, 32, 32, 32, 32, 32, 32, 32, 32, 32, 32, 32, 0, 0, 0, 16, 2, 0, 0, 24, 0, 0, 0, 0, 0, 0, 0, (n : Int), 0, 0, 0, 0, 0, 0, 0, (sr : Int), 0, 0, 0, 0, 0, 0, 0, (ds : Int)] : List Int).map (Value.int .u8)⟩⟩]) (hm10 : 1 ≤ nm0.size) (hm20 : nm0.size ≤ 32) (hm11 : 1 ≤ nm1.size) (hm21 : nm1.size ≤ 32) (hcs : cs.length = nw * 5) (hnw : nw + 16 ≤ 1000000) (hF0 : FileAt c nm0 ob0 fs0) (hfs0 : FsOk fs0) (hfl0 : fs0.length ≤ 16) (hF1 : FileAt c nm1 ob1 fs1) (hfs1 : FsOk fs1) (hfl1 : fs1.length ≤ 16) (hn : n ≤ 16) (hsr : sr + n ≤ 16) (hds : ds + n ≤ 16) (hsr9 : sr < 16) (hds9 : ds < 16) (ho : 0 ≤ ops ∧ ops ≤ 800000000) (hs : stop < 0) (hgood : ∀ i, i < n → GoodB 0 (sr + i) (blkAt fs0 (sr + i))), ACalls Tryz.prog 64 [zP u0, .int .i64 1, .agg #[.int .u8 18, .bool false, .int .u64 0, .int .u64 0, .int .i64 108, .bool false, .int .u8 0, .bool false, .bool false, .int .u8 0, .int .u8 0, .bool false, .int .u8 0, .int .u8 0, .bool false], .slice (some ⟨pb, 0, none⟩) 108 1] H (fun v H' => ∃ wb1 ot1 c1 cs1 nw1 ops1, v = zR ∧ cs1.length = nw1 * 5 ∧ nw1 ≤ nw + n ∧ (0 ≤ ops1 ∧ ops1 ≤ ops + 2 * (n : Int)) ∧ FileAt c1 nm0 ot1 (setN fs0 ds (mkN 0 ds (unL false (pkL false (bsR fs0 sr n))) n) n) ∧ (∀ n2 u2, n2 ≠ nm0 → Found c n2 u2 → Found c1 n2 u2) ∧ Stt ([w] ++ [sb] ++ wb.toList ++ ob0.toList) H H' [⟨some w, true, zW sb db (accV wb1 nw1 5) ops1 stop⟩, ⟨some sb, true, ⟨true, .mp c1, []⟩⟩, ⟨wb1, true, ⟨true, 121, cs1⟩⟩, ⟨ot1, true, ⟨true, 5, (fileL (setN fs0 ds (mkN 0 ds (unL false (pkL false (bsR fs0 sr n))) n) n)).map (Value.int .u8)⟩⟩])) ∧
  (∀ {H : Hp} {w sb db nw n sr ds s0 s1 dv0 dv1 : Nat} {wb ob0 ob1 : Option Nat} {c : List (Value × Value)} {cs : List Value} {nm0 nm1 : ByteArray} {fs0 fs1 : List (Option Bk)} {ops stop : Int} {u0 u1 pe0 pe1 tb0 tb1 pg0 pg1 k0 k1 q0 q1 pb : Nat} {ct0 ct1 : Int} (st0 : Stt ([w] ++ [sb] ++ wb.toList ++ ob1.toList) H H [⟨some w, true, zW sb db (accV wb nw 5) ops stop⟩, ⟨some sb, true, ⟨true, .mp c, []⟩⟩, ⟨wb, true, ⟨true, 121, cs⟩⟩, ⟨ob1, true, ⟨true, 5, (fileL fs1).map (Value.int .u8)⟩⟩, ⟨ob0, false, ⟨true, 5, (fileL fs0).map (Value.int .u8)⟩⟩, ⟨some s0, false, zS w nm0 (16 : Int)⟩, ⟨some s1, false, zS w nm1 (16 : Int)⟩, ⟨some dv0, false, zD s0 0⟩, ⟨some dv1, false, zD s1 1⟩, ⟨some u0, false, zU ⟨#[83, 48]⟩ 0 dv0 k0 pg0 tb0 q0 (.slice (some ⟨pe0, 0, none⟩) 1 1) 1 0 ct0⟩, ⟨some u1, false, zU ⟨#[83, 49]⟩ 1 dv1 k1 pg1 tb1 q1 (.slice (some ⟨pe1, 0, none⟩) 1 1) 1 0 ct1⟩, ⟨some pe0, false, ⟨true, 27, [zP u1]⟩⟩, ⟨some tb0, false, zT⟩, ⟨some tb1, false, zT⟩, ⟨some pg0, false, zG⟩, ⟨some pg1, false, zG⟩, ⟨some pb, false, ⟨true, 5, ([0, 0, 0, 64, 0, 0, 0, 0, 0, 0, 0, 28, 0, 0, 0, 0, 228, 0, 0, 0, 2, 1, 0, 20, 83, 48, 32, 32, 32, 32, 32, 32, 32, 32, 32, 32, 32, 32, 32, 32, 32, 32, 32, 32, 0, 0, 0, 16, 228, 0, 0, 0, 2, 1, 0, 20, 83, 49, 32, 32, 32, 32, 32, 32, 32, 32, 32, 32, 32, 32, 32, 32, 32, 32, 32, 32, 0, 0, 0, 16, 2, 0, 0, 24, 0, 0, 0, 1, 0, 0, 0, (n : Int), 0, 0, 0, 0, 0, 0, 0, (sr : Int), 0, 0, 0, 0, 0, 0, 0, (ds : Int)] : List Int).map (Value.int .u8)⟩⟩]) (hm10 : 1 ≤ nm0.size) (hm20 : nm0.size ≤ 32) (hm11 : 1 ≤ nm1.size) (hm21 : nm1.size ≤ 32) (hcs : cs.length = nw * 5) (hnw : nw + 16 ≤ 1000000) (hF0 : FileAt c nm0 ob0 fs0) (hfs0 : FsOk fs0) (hfl0 : fs0.length ≤ 16) (hF1 : FileAt c nm1 ob1 fs1) (hfs1 : FsOk fs1) (hfl1 : fs1.length ≤ 16) (hn : n ≤ 16) (hsr : sr + n ≤ 16) (hds : ds + n ≤ 16) (hsr9 : sr < 16) (hds9 : ds < 16) (ho : 0 ≤ ops ∧ ops ≤ 800000000) (hs : stop < 0) (hgood : ∀ i, i < n → GoodB 0 (sr + i) (blkAt fs0 (sr + i))), ACalls Tryz.prog 64 [zP u0, .int .i64 1, .agg #[.int .u8 18, .bool false, .int .u64 0, .int .u64 0, .int .i64 108, .bool false, .int .u8 0, .bool false, .bool false, .int .u8 0, .int .u8 0, .bool false, .int .u8 0, .int .u8 0, .bool false], .slice (some ⟨pb, 0, none⟩) 108 1] H (fun v H' => ∃ wb1 ot1 c1 cs1 nw1 ops1, v = zR ∧ cs1.length = nw1 * 5 ∧ nw1 ≤ nw + n ∧ (0 ≤ ops1 ∧ ops1 ≤ ops + 2 * (n : Int)) ∧ FileAt c1 nm1 ot1 (setN fs1 ds (mkN 1 ds (unL false (pkL false (bsR fs0 sr n))) n) n) ∧ (∀ n2 u2, n2 ≠ nm1 → Found c n2 u2 → Found c1 n2 u2) ∧ Stt ([w] ++ [sb] ++ wb.toList ++ ob1.toList) H H' [⟨some w, true, zW sb db (accV wb1 nw1 5) ops1 stop⟩, ⟨some sb, true, ⟨true, .mp c1, []⟩⟩, ⟨wb1, true, ⟨true, 121, cs1⟩⟩, ⟨ot1, true, ⟨true, 5, (fileL (setN fs1 ds (mkN 1 ds (unL false (pkL false (bsR fs0 sr n))) n) n)).map (Value.int .u8)⟩⟩])) ∧
  (∀ {H : Hp} {w sb db nw n sr ds s0 s1 dv0 dv1 : Nat} {wb ob0 ob1 : Option Nat} {c : List (Value × Value)} {cs : List Value} {nm0 nm1 : ByteArray} {fs0 fs1 : List (Option Bk)} {ops stop : Int} {u0 u1 pe0 pe1 tb0 tb1 pg0 pg1 k0 k1 q0 q1 pb : Nat} {ct0 ct1 : Int} (st0 : Stt ([w] ++ [sb] ++ wb.toList ++ ob0.toList) H H [⟨some w, true, zW sb db (accV wb nw 5) ops stop⟩, ⟨some sb, true, ⟨true, .mp c, []⟩⟩, ⟨wb, true, ⟨true, 121, cs⟩⟩, ⟨ob0, true, ⟨true, 5, (fileL fs0).map (Value.int .u8)⟩⟩, ⟨ob1, false, ⟨true, 5, (fileL fs1).map (Value.int .u8)⟩⟩, ⟨some s0, false, zS w nm0 (16 : Int)⟩, ⟨some s1, false, zS w nm1 (16 : Int)⟩, ⟨some dv0, false, zD s0 0⟩, ⟨some dv1, false, zD s1 1⟩, ⟨some u0, false, zU ⟨#[83, 48]⟩ 0 dv0 k0 pg0 tb0 q0 (.slice (some ⟨pe0, 0, none⟩) 1 1) 1 0 ct0⟩, ⟨some u1, false, zU ⟨#[83, 49]⟩ 1 dv1 k1 pg1 tb1 q1 (.slice (some ⟨pe1, 0, none⟩) 1 1) 1 0 ct1⟩, ⟨some pe0, false, ⟨true, 27, [zP u1]⟩⟩, ⟨some tb0, false, zT⟩, ⟨some tb1, false, zT⟩, ⟨some pg0, false, zG⟩, ⟨some pg1, false, zG⟩, ⟨some pb, false, ⟨true, 5, ([0, 0, 0, 64, 0, 0, 0, 0, 0, 0, 0, 28, 0, 0, 0, 0, 228, 0, 0, 0, 2, 1, 0, 20, 83, 48, 32, 32, 32, 32, 32, 32, 32, 32, 32, 32, 32, 32, 32, 32, 32, 32, 32, 32, 0, 0, 0, 16, 228, 0, 0, 0, 2, 1, 0, 20, 83, 49, 32, 32, 32, 32, 32, 32, 32, 32, 32, 32, 32, 32, 32, 32, 32, 32, 32, 32, 0, 0, 0, 16, 2, 0, 0, 24, 0, 1, 0, 0, 0, 0, 0, (n : Int), 0, 0, 0, 0, 0, 0, 0, (sr : Int), 0, 0, 0, 0, 0, 0, 0, (ds : Int)] : List Int).map (Value.int .u8)⟩⟩]) (hm10 : 1 ≤ nm0.size) (hm20 : nm0.size ≤ 32) (hm11 : 1 ≤ nm1.size) (hm21 : nm1.size ≤ 32) (hcs : cs.length = nw * 5) (hnw : nw + 16 ≤ 1000000) (hF0 : FileAt c nm0 ob0 fs0) (hfs0 : FsOk fs0) (hfl0 : fs0.length ≤ 16) (hF1 : FileAt c nm1 ob1 fs1) (hfs1 : FsOk fs1) (hfl1 : fs1.length ≤ 16) (hn : n ≤ 16) (hsr : sr + n ≤ 16) (hds : ds + n ≤ 16) (hsr9 : sr < 16) (hds9 : ds < 16) (ho : 0 ≤ ops ∧ ops ≤ 800000000) (hs : stop < 0) (hgood : ∀ i, i < n → GoodB 1 (sr + i) (blkAt fs1 (sr + i))), ACalls Tryz.prog 64 [zP u0, .int .i64 1, .agg #[.int .u8 18, .bool false, .int .u64 0, .int .u64 0, .int .i64 108, .bool false, .int .u8 0, .bool false, .bool false, .int .u8 0, .int .u8 0, .bool false, .int .u8 0, .int .u8 0, .bool false], .slice (some ⟨pb, 0, none⟩) 108 1] H (fun v H' => ∃ wb1 ot1 c1 cs1 nw1 ops1, v = zR ∧ cs1.length = nw1 * 5 ∧ nw1 ≤ nw + n ∧ (0 ≤ ops1 ∧ ops1 ≤ ops + 2 * (n : Int)) ∧ FileAt c1 nm0 ot1 (setN fs0 ds (mkN 0 ds (unL false (pkL false (bsR fs1 sr n))) n) n) ∧ (∀ n2 u2, n2 ≠ nm0 → Found c n2 u2 → Found c1 n2 u2) ∧ Stt ([w] ++ [sb] ++ wb.toList ++ ob0.toList) H H' [⟨some w, true, zW sb db (accV wb1 nw1 5) ops1 stop⟩, ⟨some sb, true, ⟨true, .mp c1, []⟩⟩, ⟨wb1, true, ⟨true, 121, cs1⟩⟩, ⟨ot1, true, ⟨true, 5, (fileL (setN fs0 ds (mkN 0 ds (unL false (pkL false (bsR fs1 sr n))) n) n)).map (Value.int .u8)⟩⟩])) ∧
  (∀ {H : Hp} {w sb db nw n sr ds s0 s1 dv0 dv1 : Nat} {wb ob0 ob1 : Option Nat} {c : List (Value × Value)} {cs : List Value} {nm0 nm1 : ByteArray} {fs0 fs1 : List (Option Bk)} {ops stop : Int} {u0 u1 pe0 pe1 tb0 tb1 pg0 pg1 k0 k1 q0 q1 pb : Nat} {ct0 ct1 : Int} (st0 : Stt ([w] ++ [sb] ++ wb.toList ++ ob1.toList) H H [⟨some w, true, zW sb db (accV wb nw 5) ops stop⟩, ⟨some sb, true, ⟨true, .mp c, []⟩⟩, ⟨wb, true, ⟨true, 121, cs⟩⟩, ⟨ob1, true, ⟨true, 5, (fileL fs1).map (Value.int .u8)⟩⟩, ⟨ob0, false, ⟨true, 5, (fileL fs0).map (Value.int .u8)⟩⟩, ⟨some s0, false, zS w nm0 (16 : Int)⟩, ⟨some s1, false, zS w nm1 (16 : Int)⟩, ⟨some dv0, false, zD s0 0⟩, ⟨some dv1, false, zD s1 1⟩, ⟨some u0, false, zU ⟨#[83, 48]⟩ 0 dv0 k0 pg0 tb0 q0 (.slice (some ⟨pe0, 0, none⟩) 1 1) 1 0 ct0⟩, ⟨some u1, false, zU ⟨#[83, 49]⟩ 1 dv1 k1 pg1 tb1 q1 (.slice (some ⟨pe1, 0, none⟩) 1 1) 1 0 ct1⟩, ⟨some pe0, false, ⟨true, 27, [zP u1]⟩⟩, ⟨some tb0, false, zT⟩, ⟨some tb1, false, zT⟩, ⟨some pg0, false, zG⟩, ⟨some pg1, false, zG⟩, ⟨some pb, false, ⟨true, 5, ([0, 0, 0, 64, 0, 0, 0, 0, 0, 0, 0, 28, 0, 0, 0, 0, 228, 0, 0, 0, 2, 1, 0, 20, 83, 48, 32, 32, 32, 32, 32, 32, 32, 32, 32, 32, 32, 32, 32, 32, 32, 32, 32, 32, 0, 0, 0, 16, 228, 0, 0, 0, 2, 1, 0, 20, 83, 49, 32, 32, 32, 32, 32, 32, 32, 32, 32, 32, 32, 32, 32, 32, 32, 32, 32, 32, 0, 0, 0, 16, 2, 0, 0, 24, 0, 1, 0, 1, 0, 0, 0, (n : Int), 0, 0, 0, 0, 0, 0, 0, (sr : Int), 0, 0, 0, 0, 0, 0, 0, (ds : Int)] : List Int).map (Value.int .u8)⟩⟩]) (hm10 : 1 ≤ nm0.size) (hm20 : nm0.size ≤ 32) (hm11 : 1 ≤ nm1.size) (hm21 : nm1.size ≤ 32) (hcs : cs.length = nw * 5) (hnw : nw + 16 ≤ 1000000) (hF0 : FileAt c nm0 ob0 fs0) (hfs0 : FsOk fs0) (hfl0 : fs0.length ≤ 16) (hF1 : FileAt c nm1 ob1 fs1) (hfs1 : FsOk fs1) (hfl1 : fs1.length ≤ 16) (hn : n ≤ 16) (hsr : sr + n ≤ 16) (hds : ds + n ≤ 16) (hsr9 : sr < 16) (hds9 : ds < 16) (ho : 0 ≤ ops ∧ ops ≤ 800000000) (hs : stop < 0) (hgood : ∀ i, i < n → GoodB 1 (sr + i) (blkAt fs1 (sr + i))), ACalls Tryz.prog 64 [zP u0, .int .i64 1, .agg #[.int .u8 18, .bool false, .int .u64 0, .int .u64 0, .int .i64 108, .bool false, .int .u8 0, .bool false, .bool false, .int .u8 0, .int .u8 0, .bool false, .int .u8 0, .int .u8 0, .bool false], .slice (some ⟨pb, 0, none⟩) 108 1] H (fun v H' => ∃ wb1 ot1 c1 cs1 nw1 ops1, v = zR ∧ cs1.length = nw1 * 5 ∧ nw1 ≤ nw + n ∧ (0 ≤ ops1 ∧ ops1 ≤ ops + 2 * (n : Int)) ∧ FileAt c1 nm1 ot1 (setN fs1 ds (mkN 1 ds (unL false (pkL false (bsR fs1 sr n))) n) n) ∧ (∀ n2 u2, n2 ≠ nm1 → Found c n2 u2 → Found c1 n2 u2) ∧ Stt ([w] ++ [sb] ++ wb.toList ++ ob1.toList) H H' [⟨some w, true, zW sb db (accV wb1 nw1 5) ops1 stop⟩, ⟨some sb, true, ⟨true, .mp c1, []⟩⟩, ⟨wb1, true, ⟨true, 121, cs1⟩⟩, ⟨ot1, true, ⟨true, 5, (fileL (setN fs1 ds (mkN 1 ds (unL false (pkL false (bsR fs1 sr n))) n) n)).map (Value.int .u8)⟩⟩])) ∧
  (∀ {H : Hp} {w sb db nw n sr ds s0 s1 dv0 dv1 : Nat} {wb ob0 ob1 : Option Nat} {c : List (Value × Value)} {cs : List Value} {nm0 nm1 : ByteArray} {fs0 fs1 : List (Option Bk)} {ops stop : Int} {u0 u1 pe0 pe1 tb0 tb1 pg0 pg1 k0 k1 q0 q1 pb : Nat} {ct0 ct1 : Int} (st0 : Stt ([w] ++ [sb] ++ wb.toList ++ ob0.toList) H H [⟨some w, true, zW sb db (accV wb nw 5) ops stop⟩, ⟨some sb, true, ⟨true, .mp c, []⟩⟩, ⟨wb, true, ⟨true, 121, cs⟩⟩, ⟨ob0, true, ⟨true, 5, (fileL fs0).map (Value.int .u8)⟩⟩, ⟨ob1, false, ⟨true, 5, (fileL fs1).map (Value.int .u8)⟩⟩, ⟨some s0, false, zS w nm0 (16 : Int)⟩, ⟨some s1, false, zS w nm1 (16 : Int)⟩, ⟨some dv0, false, zD s0 0⟩, ⟨some dv1, false, zD s1 1⟩, ⟨some u0, false, zU ⟨#[83, 48]⟩ 0 dv0 k0 pg0 tb0 q0 (.slice (some ⟨pe0, 0, none⟩) 1 1) 1 0 ct0⟩, ⟨some u1, false, zU ⟨#[83, 49]⟩ 1 dv1 k1 pg1 tb1 q1 (.slice (some ⟨pe1, 0, none⟩) 1 1) 1 0 ct1⟩, ⟨some pe1, false, ⟨true, 27, [zP u0]⟩⟩, ⟨some tb0, false, zT⟩, ⟨some tb1, false, zT⟩, ⟨some pg0, false, zG⟩, ⟨some pg1, false, zG⟩, ⟨some pb, false, ⟨true, 5, ([0, 0, 0, 64, 0, 0, 0, 0, 0, 0, 0, 28, 0, 0, 0, 0, 228, 0, 0, 0, 2, 1, 0, 20, 83, 48, 32, 32, 32, 32, 32, 32, 32, 32, 32, 32, 32, 32, 32, 32, 32, 32, 32, 32, 0, 0, 0, 16, 228, 0, 0, 0, 2, 1, 0, 20, 83, 49, 32, 32, 32, 32, 32, 32, 32, 32, 32, 32, 32, 32, 32, 32, 32, 32, 32, 32, 0, 0, 0, 16, 2, 0, 0, 24, 0, 0, 0, 0, 0, 0, 0, (n : Int), 0, 0, 0, 0, 0, 0, 0, (sr : Int), 0, 0, 0, 0, 0, 0, 0, (ds : Int)] : List Int).map (Value.int .u8)⟩⟩]) (hm10 : 1 ≤ nm0.size) (hm20 : nm0.size ≤ 32) (hm11 : 1 ≤ nm1.size) (hm21 : nm1.size ≤ 32) (hcs : cs.length = nw * 5) (hnw : nw + 16 ≤ 1000000) (hF0 : FileAt c nm0 ob0 fs0) (hfs0 : FsOk fs0) (hfl0 : fs0.length ≤ 16) (hF1 : FileAt c nm1 ob1 fs1) (hfs1 : FsOk fs1) (hfl1 : fs1.length ≤ 16) (hn : n ≤ 16) (hsr : sr + n ≤ 16) (hds : ds + n ≤ 16) (hsr9 : sr < 16) (hds9 : ds < 16) (ho : 0 ≤ ops ∧ ops ≤ 800000000) (hs : stop < 0) (hgood : ∀ i, i < n → GoodB 0 (sr + i) (blkAt fs0 (sr + i))), ACalls Tryz.prog 64 [zP u1, .int .i64 1, .agg #[.int .u8 18, .bool false, .int .u64 0, .int .u64 0, .int .i64 108, .bool false, .int .u8 0, .bool false, .bool false, .int .u8 0, .int .u8 0, .bool false, .int .u8 0, .int .u8 0, .bool false], .slice (some ⟨pb, 0, none⟩) 108 1] H (fun v H' => ∃ wb1 ot1 c1 cs1 nw1 ops1, v = zR ∧ cs1.length = nw1 * 5 ∧ nw1 ≤ nw + n ∧ (0 ≤ ops1 ∧ ops1 ≤ ops + 2 * (n : Int)) ∧ FileAt c1 nm0 ot1 (setN fs0 ds (mkN 0 ds (unL false (pkL false (bsR fs0 sr n))) n) n) ∧ (∀ n2 u2, n2 ≠ nm0 → Found c n2 u2 → Found c1 n2 u2) ∧ Stt ([w] ++ [sb] ++ wb.toList ++ ob0.toList) H H' [⟨some w, true, zW sb db (accV wb1 nw1 5) ops1 stop⟩, ⟨some sb, true, ⟨true, .mp c1, []⟩⟩, ⟨wb1, true, ⟨true, 121, cs1⟩⟩, ⟨ot1, true, ⟨true, 5, (fileL (setN fs0 ds (mkN 0 ds (unL false (pkL false (bsR fs0 sr n))) n) n)).map (Value.int .u8)⟩⟩])) ∧
  (∀ {H : Hp} {w sb db nw n sr ds s0 s1 dv0 dv1 : Nat} {wb ob0 ob1 : Option Nat} {c : List (Value × Value)} {cs : List Value} {nm0 nm1 : ByteArray} {fs0 fs1 : List (Option Bk)} {ops stop : Int} {u0 u1 pe0 pe1 tb0 tb1 pg0 pg1 k0 k1 q0 q1 pb : Nat} {ct0 ct1 : Int} (st0 : Stt ([w] ++ [sb] ++ wb.toList ++ ob1.toList) H H [⟨some w, true, zW sb db (accV wb nw 5) ops stop⟩, ⟨some sb, true, ⟨true, .mp c, []⟩⟩, ⟨wb, true, ⟨true, 121, cs⟩⟩, ⟨ob1, true, ⟨true, 5, (fileL fs1).map (Value.int .u8)⟩⟩, ⟨ob0, false, ⟨true, 5, (fileL fs0).map (Value.int .u8)⟩⟩, ⟨some s0, false, zS w nm0 (16 : Int)⟩, ⟨some s1, false, zS w nm1 (16 : Int)⟩, ⟨some dv0, false, zD s0 0⟩, ⟨some dv1, false, zD s1 1⟩, ⟨some u0, false, zU ⟨#[83, 48]⟩ 0 dv0 k0 pg0 tb0 q0 (.slice (some ⟨pe0, 0, none⟩) 1 1) 1 0 ct0⟩, ⟨some u1, false, zU ⟨#[83, 49]⟩ 1 dv1 k1 pg1 tb1 q1 (.slice (some ⟨pe1, 0, none⟩) 1 1) 1 0 ct1⟩, ⟨some pe1, false, ⟨true, 27, [zP u0]⟩⟩, ⟨some tb0, false, zT⟩, ⟨some tb1, false, zT⟩, ⟨some pg0, false, zG⟩, ⟨some pg1, false, zG⟩, ⟨some pb, false, ⟨true, 5, ([0, 0, 0, 64, 0, 0, 0, 0, 0, 0, 0, 28, 0, 0, 0, 0, 228, 0, 0, 0, 2, 1, 0, 20, 83, 48, 32, 32, 32, 32, 32, 32, 32, 32, 32, 32, 32, 32, 32, 32, 32, 32, 32, 32, 0, 0, 0, 16, 228, 0, 0, 0, 2, 1, 0, 20, 83, 49, 32, 32, 32, 32, 32, 32, 32, 32, 32, 32, 32, 32, 32, 32, 32, 32, 32, 32, 0, 0, 0, 16, 2, 0, 0, 24, 0, 0, 0, 1, 0, 0, 0, (n : Int), 0, 0, 0, 0, 0, 0, 0, (sr : Int), 0, 0, 0, 0, 0, 0, 0, (ds : Int)] : List Int).map (Value.int .u8)⟩⟩]) (hm10 : 1 ≤ nm0.size) (hm20 : nm0.size ≤ 32) (hm11 : 1 ≤ nm1.size) (hm21 : nm1.size ≤ 32) (hcs : cs.length = nw * 5) (hnw : nw + 16 ≤ 1000000) (hF0 : FileAt c nm0 ob0 fs0) (hfs0 : FsOk fs0) (hfl0 : fs0.length ≤ 16) (hF1 : FileAt c nm1 ob1 fs1) (hfs1 : FsOk fs1) (hfl1 : fs1.length ≤ 16) (hn : n ≤ 16) (hsr : sr + n ≤ 16) (hds : ds + n ≤ 16) (hsr9 : sr < 16) (hds9 : ds < 16) (ho : 0 ≤ ops ∧ ops ≤ 800000000) (hs : stop < 0) (hgood : ∀ i, i < n → GoodB 0 (sr + i) (blkAt fs0 (sr + i))), ACalls Tryz.prog 64 [zP u1, .int .i64 1, .agg #[.int .u8 18, .bool false, .int .u64 0, .int .u64 0, .int .i64 108, .bool false, .int .u8 0, .bool false, .bool false, .int .u8 0, .int .u8 0, .bool false, .int .u8 0, .int .u8 0, .bool false], .slice (some ⟨pb, 0, none⟩) 108 1] H (fun v H' => ∃ wb1 ot1 c1 cs1 nw1 ops1, v = zR ∧ cs1.length = nw1 * 5 ∧ nw1 ≤ nw + n ∧ (0 ≤ ops1 ∧ ops1 ≤ ops + 2 * (n : Int)) ∧ FileAt c1 nm1 ot1 (setN fs1 ds (mkN 1 ds (unL false (pkL false (bsR fs0 sr n))) n) n) ∧ (∀ n2 u2, n2 ≠ nm1 → Found c n2 u2 → Found c1 n2 u2) ∧ Stt ([w] ++ [sb] ++ wb.toList ++ ob1.toList) H H' [⟨some w, true, zW sb db (accV wb1 nw1 5) ops1 stop⟩, ⟨some sb, true, ⟨true, .mp c1, []⟩⟩, ⟨wb1, true, ⟨true, 121, cs1⟩⟩, ⟨ot1, true, ⟨true, 5, (fileL (setN fs1 ds (mkN 1 ds (unL false (pkL false (bsR fs0 sr n))) n) n)).map (Value.int .u8)⟩⟩])) ∧
  (∀ {H : Hp} {w sb db nw n sr ds s0 s1 dv0 dv1 : Nat} {wb ob0 ob1 : Option Nat} {c : List (Value × Value)} {cs : List Value} {nm0 nm1 : ByteArray} {fs0 fs1 : List (Option Bk)} {ops stop : Int} {u0 u1 pe0 pe1 tb0 tb1 pg0 pg1 k0 k1 q0 q1 pb : Nat} {ct0 ct1 : Int} (st0 : Stt ([w] ++ [sb] ++ wb.toList ++ ob0.toList) H H [⟨some w, true, zW sb db (accV wb nw 5) ops stop⟩, ⟨some sb, true, ⟨true, .mp c, []⟩⟩, ⟨wb, true, ⟨true, 121, cs⟩⟩, ⟨ob0, true, ⟨true, 5, (fileL fs0).map (Value.int .u8)⟩⟩, ⟨ob1, false, ⟨true, 5, (fileL fs1).map (Value.int .u8)⟩⟩, ⟨some s0, false, zS w nm0 (16 : Int)⟩, ⟨some s1, false, zS w nm1 (16 : Int)⟩, ⟨some dv0, false, zD s0 0⟩, ⟨some dv1, false, zD s1 1⟩, ⟨some u0, false, zU ⟨#[83, 48]⟩ 0 dv0 k0 pg0 tb0 q0 (.slice (some ⟨pe0, 0, none⟩) 1 1) 1 0 ct0⟩, ⟨some u1, false, zU ⟨#[83, 49]⟩ 1 dv1 k1 pg1 tb1 q1 (.slice (some ⟨pe1, 0, none⟩) 1 1) 1 0 ct1⟩, ⟨some pe1, false, ⟨true, 27, [zP u0]⟩⟩, ⟨some tb0, false, zT⟩, ⟨some tb1, false, zT⟩, ⟨some pg0, false, zG⟩, ⟨some pg1, false, zG⟩, ⟨some pb, false, ⟨true, 5, ([0, 0, 0, 64, 0, 0, 0, 0, 0, 0, 0, 28, 0, 0, 0, 0, 228, 0, 0, 0, 2, 1, 0, 20, 83, 48, 32, 32, 32, 32, 32, 32, 32, 32, 32, 32, 32, 32, 32, 32, 32, 32, 32, 32, 0, 0, 0, 16, 228, 0, 0, 0, 2, 1, 0, 20, 83, 49, 32, 32, 32, 32, 32, 32, 32, 32, 32, 32, 32, 32, 32, 32, 32, 32, 32, 32, 0, 0, 0, 16, 2, 0, 0, 24, 0, 1, 0, 0, 0, 0, 0, (n : Int), 0, 0, 0, 0, 0, 0, 0, (sr : Int), 0, 0, 0, 0, 0, 0, 0, (ds : Int)] : List Int).map (Value.int .u8)⟩⟩]) (hm10 : 1 ≤ nm0.size) (hm20 : nm0.size ≤ 32) (hm11 : 1 ≤ nm1.size) (hm21 : nm1.size ≤ 32) (hcs : cs.length = nw * 5) (hnw : nw + 16 ≤ 1000000) (hF0 : FileAt c nm0 ob0 fs0) (hfs0 : FsOk fs0) (hfl0 : fs0.length ≤ 16) (hF1 : FileAt c nm1 ob1 fs1) (hfs1 : FsOk fs1) (hfl1 : fs1.length ≤ 16) (hn : n ≤ 16) (hsr : sr + n ≤ 16) (hds : ds + n ≤ 16) (hsr9 : sr < 16) (hds9 : ds < 16) (ho : 0 ≤ ops ∧ ops ≤ 800000000) (hs : stop < 0) (hgood : ∀ i, i < n → GoodB 1 (sr + i) (blkAt fs1 (sr + i))), ACalls Tryz.prog 64 [zP u1, .int .i64 1, .agg #[.int .u8 18, .bool false, .int .u64 0, .int .u64 0, .int .i64 108, .bool false, .int .u8 0, .bool false, .bool false, .int .u8 0, .int .u8 0, .bool false, .int .u8 0, .int .u8 0, .bool false], .slice (some ⟨pb, 0, none⟩) 108 1] H (fun v H' => ∃ wb1 ot1 c1 cs1 nw1 ops1, v = zR ∧ cs1.length = nw1 * 5 ∧ nw1 ≤ nw + n ∧ (0 ≤ ops1 ∧ ops1 ≤ ops + 2 * (n : Int)) ∧ FileAt c1 nm0 ot1 (setN fs0 ds (mkN 0 ds (unL false (pkL false (bsR fs1 sr n))) n) n) ∧ (∀ n2 u2, n2 ≠ nm0 → Found c n2 u2 → Found c1 n2 u2) ∧ Stt ([w] ++ [sb] ++ wb.toList ++ ob0.toList) H H' [⟨some w, true, zW sb db (accV wb1 nw1 5) ops1 stop⟩, ⟨some sb, true, ⟨true, .mp c1, []⟩⟩, ⟨wb1, true, ⟨true, 121, cs1⟩⟩, ⟨ot1, true, ⟨true, 5, (fileL (setN fs0 ds (mkN 0 ds (unL false (pkL false (bsR fs1 sr n))) n) n)).map (Value.int .u8)⟩⟩])) ∧
  (∀ {H : Hp} {w sb db nw n sr ds s0 s1 dv0 dv1 : Nat} {wb ob0 ob1 : Option Nat} {c : List (Value × Value)} {cs : List Value} {nm0 nm1 : ByteArray} {fs0 fs1 : List (Option Bk)} {ops stop : Int} {u0 u1 pe0 pe1 tb0 tb1 pg0 pg1 k0 k1 q0 q1 pb : Nat} {ct0 ct1 : Int} (st0 : Stt ([w] ++ [sb] ++ wb.toList ++ ob1.toList) H H [⟨some w, true, zW sb db (accV wb nw 5) ops stop⟩, ⟨some sb, true, ⟨true, .mp c, []⟩⟩, ⟨wb, true, ⟨true, 121, cs⟩⟩, ⟨ob1, true, ⟨true, 5, (fileL fs1).map (Value.int .u8)⟩⟩, ⟨ob0, false, ⟨true, 5, (fileL fs0).map (Value.int .u8)⟩⟩, ⟨some s0, false, zS w nm0 (16 : Int)⟩, ⟨some s1, false, zS w nm1 (16 : Int)⟩, ⟨some dv0, false, zD s0 0⟩, ⟨some dv1, false, zD s1 1⟩, ⟨some u0, false, zU ⟨#[83, 48]⟩ 0 dv0 k0 pg0 tb0 q0 (.slice (some ⟨pe0, 0, none⟩) 1 1) 1 0 ct0⟩, ⟨some u1, false, zU ⟨#[83, 49]⟩ 1 dv1 k1 pg1 tb1 q1 (.slice (some ⟨pe1, 0, none⟩) 1 1) 1 0 ct1⟩, ⟨some pe1, false, ⟨true, 27, [zP u0]⟩⟩, ⟨some tb0, false, zT⟩, ⟨some tb1, false, zT⟩, ⟨some pg0, false, zG⟩, ⟨some pg1, false, zG⟩, ⟨some pb, false, ⟨true, 5, ([0, 0, 0, 64, 0, 0, 0, 0, 0, 0, 0, 28, 0, 0, 0, 0, 228, 0, 0, 0, 2, 1, 0, 20, 83, 48, 32, 32, 32, 32, 32, 32, 32, 32, 32, 32, 32, 32, 32, 32, 32, 32, 32, 32, 0, 0, 0, 16, 228, 0, 0, 0, 2, 1, 0, 20, 83, 49, 32, 32, 32, 32, 32, 32, 32, 32, 32, 32, 32, 32, 32, 32, 32, 32, 32, 32, 0, 0, 0, 16, 2, 0, 0, 24, 0, 1, 0, 1, 0, 0, 0, (n : Int), 0, 0, 0, 0, 0, 0, 0, (sr : Int), 0, 0, 0, 0, 0, 0, 0, (ds : Int)] : List Int).map (Value.int .u8)⟩⟩]) (hm10 : 1 ≤ nm0.size) (hm20 : nm0.size ≤ 32) (hm11 : 1 ≤ nm1.size) (hm21 : nm1.size ≤ 32) (hcs : cs.length = nw * 5) (hnw : nw + 16 ≤ 1000000) (hF0 : FileAt c nm0 ob0 fs0) (hfs0 : FsOk fs0) (hfl0 : fs0.length ≤ 16) (hF1 : FileAt c nm1 ob1 fs1) (hfs1 : FsOk fs1) (hfl1 : fs1.length ≤ 16) (hn : n ≤ 16) (hsr : sr + n ≤ 16) (hds : ds + n ≤ 16) (hsr9 : sr < 16) (hds9 : ds < 16) (ho : 0 ≤ ops ∧ ops ≤ 800000000) (hs : stop < 0) (hgood : ∀ i, i < n → GoodB 1 (sr + i) (blkAt fs1 (sr + i))), ACalls Tryz.prog 64 [zP u1, .int .i64 1, .agg #[.int .u8 18, .bool false, .int .u64 0, .int .u64 0, .int .i64 108, .bool false, .int .u8 0, .bool false, .bool false, .int .u8 0, .int .u8 0, .bool false, .int .u8 0, .int .u8 0, .bool false], .slice (some ⟨pb, 0, none⟩) 108 1] H (fun v H' => ∃ wb1 ot1 c1 cs1 nw1 ops1, v = zR ∧ cs1.length = nw1 * 5 ∧ nw1 ≤ nw + n ∧ (0 ≤ ops1 ∧ ops1 ≤ ops + 2 * (n : Int)) ∧ FileAt c1 nm1 ot1 (setN fs1 ds (mkN 1 ds (unL false (pkL false (bsR fs1 sr n))) n) n) ∧ (∀ n2 u2, n2 ≠ nm1 → Found c n2 u2 → Found c1 n2 u2) ∧ Stt ([w] ++ [sb] ++ wb.toList ++ ob1.toList) H H' [⟨some w, true, zW sb db (accV wb1 nw1 5) ops1 stop⟩, ⟨some sb, true, ⟨true, .mp c1, []⟩⟩, ⟨wb1, true, ⟨true, 121, cs1⟩⟩, ⟨ot1, true, ⟨true, 5, (fileL (setN fs1 ds (mkN 1 ds (unL false (pkL false (bsR fs1 sr n))) n) n)).map (Value.int .u8)⟩⟩])) := by
 refine ⟨@tag3_ucopy_all 0 0 0 _ ?_, @tag3_ucopy_all 0 0 1 _ ?_, @tag3_ucopy_all 0 1 0 _ ?_, @tag3_ucopy_all 0 1 1 _ ?_, @tag3_ucopy_all 1 0 0 _ ?_, @tag3_ucopy_all 1 0 1 _ ?_, @tag3_ucopy_all 1 1 0 _ ?_, @tag3_ucopy_all 1 1 1 _ ?_⟩ <;> intro ta tb tc H w sb db nw n sr ds s0 s1 dv0 dv1 wb ob0 ob1 c cs nm0 nm1 fs0 fs1 ops stop u0 u1 pe0 pe1 tb0 tb1 pg0 pg1 k0 k1 q0 q1 pb ct0 ct1 st0 hm10 hm20 hm11 hm21 hcs hnw hF0 hfs0 hfl0 hF1 hfs1 hfl1 hn hsr hds hsr9 hds9 ho hs hgood
 all_goals
  refine acallsW Tryz.func64 f64_ok (Nat.le_of_ble_eq_true rfl) fun hw => ?_
  first | guard_hyp tc : 0 = 0; have st : Stt ([w] ++ [sb] ++ wb.toList ++ ob0.toList) H H [] := Stt.start hw | have st : Stt ([w] ++ [sb] ++ wb.toList ++ ob1.toList) H H [] := Stt.start hw
  replace st := st0
  unfold f64c
  refine zw ?_
  refine aBoxN st rfl rfl (by repeat constructor) rfl fun b6 H1 st => ?_
  refine zp st fun b8 H2 st => ?_
  refine zw ?_
  refine zm ?_
  refine aN (v := .int .i64 108) rfl rfl (by constructor) ?_
  refine zm ?_
  refine zl st 1 ?_
  refine zb (.bool false) ?_
  refine zf ?_
  refine zw ?_
  refine zm ?_
  first | guard_hyp tb : 0 = 0; guard_hyp tc : 0 = 0; refine aC (xparse_call (f := 0) (t := 0) (n := n) (sr := sr) (ds := ds) ((st.rowAll 18 rfl (rfl))) (by decide) (by decide) hn hsr9 hds9) fun v27 H3 ⟨ub, sg, hv, st1⟩ => ?_ | guard_hyp tb : 0 = 0; guard_hyp tc : 1 = 1; refine aC (xparse_call (f := 0) (t := 1) (n := n) (sr := sr) (ds := ds) ((st.rowAll 18 rfl (rfl))) (by decide) (by decide) hn hsr9 hds9) fun v27 H3 ⟨ub, sg, hv, st1⟩ => ?_ | guard_hyp tb : 1 = 1; guard_hyp tc : 0 = 0; refine aC (xparse_call (f := 1) (t := 0) (n := n) (sr := sr) (ds := ds) ((st.rowAll 18 rfl (rfl))) (by decide) (by decide) hn hsr9 hds9) fun v27 H3 ⟨ub, sg, hv, st1⟩ => ?_ | refine aC (xparse_call (f := 1) (t := 1) (n := n) (sr := sr) (ds := ds) ((st.rowAll 18 rfl (rfl))) (by decide) (by decide) hn hsr9 hds9) fun v27 H3 ⟨ub, sg, hv, st1⟩ => ?_
  subst hv
  replace st := st.call st1 rfl
  clear st1
  iterate 4 refine zm ?_
  refine zp st fun b9 H4 st => ?_
  refine zp st fun b10 H5 st => ?_
  refine zx st 1 fun H6 st => ?_
  refine zx st 0 fun H7 st => ?_
  refine zm ?_
  refine zw ?_
  iterate 2 refine zm ?_
  refine zf ?_
  refine zw ?_
  refine zm ?_
  refine zw ?_
  refine zm ?_
  refine aLit st rfl (by repeat constructor) fun b36 H8 st => ?_
  iterate 3 refine zm ?_
  first | guard_hyp ta : 0 = 0; refine zl st 16 ?_ | refine zl st 17 ?_
  refine aAppP st 0 (ob := some b36) rfl rfl rfl (by decide) (rfl) (st.rowAll 18 rfl (rfl)).src (rfl) (by decide) (by decide) (by decide) (by repeat constructor) fun b41 H9 st => ?_
  refine aN (v := .int .i64 2) rfl rfl (by constructor) ?_
  refine zm ?_
  refine sE ?_
  show AW _ (.loop _) _ _ _
  refine AW_fuel 3 ?_
  show AW _ _ _ _ _
  refine zw ?_
  refine zb (.bool true) ?_
  show AW _ (.cond _ _ _) _ _ _
  refine cT rfl ?_
  refine zw ?_
  refine zm ?_
  refine zl st 0 ?_
  refine zm ?_
  refine zw ?_
  refine zm ?_
  first | guard_hyp ta : 0 = 0; refine aC (start_1 (zM st [] [16])) fun v48 H10 ⟨hv, st1⟩ => ?_ | refine aC (start_1 (zM st [] [17])) fun v48 H10 ⟨hv, st1⟩ => ?_
  subst hv
  replace st := st.call st1 rfl
  clear st1
  refine zb (.bool false) ?_
  refine zf ?_
  show AWp _ _ _ _ _
  iterate 4 refine zm ?_
  first | guard_hyp ta : 0 = 0; refine zl st 16 ?_ | refine zl st 17 ?_
  iterate 3 refine zm ?_
  first | guard_hyp ta : 0 = 0; refine zl st 16 ?_ | refine zl st 17 ?_
  refine aBld rfl (by repeat constructor) ?_
  refine ⟨?_, trivial⟩
  refine zp st fun b15 H11 st => ?_
  first | guard_hyp ta : 0 = 0; refine ⟨⟨zh st 17, zh st 17, trivial⟩, ?_⟩ | refine ⟨⟨zh st 18, zh st 18, trivial⟩, ?_⟩
  refine ⟨?_, trivial⟩
  refine zx st 0 fun H12 st => ?_
  refine ⟨trivial, ?_⟩
  refine zw ?_
  iterate 3 refine zm ?_
  first | guard_hyp ta : 0 = 0; refine zl st 17 ?_ | refine zl st 18 ?_
  refine zm ?_
  first | guard_hyp ta : 0 = 0; refine aC (conflict_call (zM st [] [20])) fun v65 H13 ⟨hv, st1⟩ => ?_ | refine aC (conflict_call (zM st [] [21])) fun v65 H13 ⟨hv, st1⟩ => ?_
  subst hv
  replace st := st.call st1 rfl
  clear st1
  refine zf ?_
  refine zw ?_
  iterate 3 refine zm ?_
  first | guard_hyp ta : 0 = 0; refine zl st 17 ?_ | refine zl st 18 ?_
  refine zm ?_
  first | guard_hyp ta : 0 = 0; refine aC (conflict_call (zM st [] [20])) fun v75 H14 ⟨hv, st1⟩ => ?_ | refine aC (conflict_call (zM st [] [21])) fun v75 H14 ⟨hv, st1⟩ => ?_
  subst hv
  replace st := st.call st1 rfl
  clear st1
  refine zm ?_
  refine zg ?_
  refine zm ?_
  refine zg ?_
  refine zm ?_
  refine zg ?_
  refine zm ?_
  refine zg ?_
  first | guard_hyp ta : 0 = 0; refine zl st 17 ?_ | refine zl st 18 ?_
  refine zg ?_
  first | guard_hyp ta : 0 = 0; refine aC (now_call (zM st [] [22])) fun v81 H15 ⟨hv, st1⟩ => ?_ | refine aC (now_call (zM st [] [23])) fun v81 H15 ⟨hv, st1⟩ => ?_
  subst hv
  replace st := st.call st1 rfl
  clear st1
  refine zg ?_
  iterate 2 refine zm ?_
  refine zf ?_
  refine zw ?_
  refine zm ?_
  refine aLdA st 0 rfl rfl (by first | decide | simp [*]) (by repeat constructor) ?_
  refine aLit st rfl (by repeat constructor) fun b90 H16 st => ?_
  have st := st.nil 217
  have hnil : (Value.slice none 0 0) = accV none 0 3 := rfl
  refine aAppP st 0 (ob := none) (n := 0) rfl rfl rfl (by decide) (rfl) (st.rowAll 1 rfl (rfl)).src (rfl) (by decide) (by decide) (by decide) (by repeat constructor) fun b91 H17 st => ?_
  refine zm ?_
  refine zw ?_
  refine zb (.int .i64 1) ?_
  refine zm ?_
  refine sE ?_
  show AW _ _ _ _ _
  refine zw ?_
  refine zb (.bool true) ?_
  show AW _ (.cond _ _ _) _ _ _
  refine cT rfl ?_
  refine zw ?_
  refine zm ?_
  refine zl st 3 ?_
  refine zm ?_
  refine zw ?_
  refine zm ?_
  first | guard_hyp ta : 0 = 0; refine aC (start_1 (zM st [] [20])) fun v48 H18 ⟨hv, st1⟩ => ?_ | refine aC (start_1 (zM st [] [19])) fun v48 H18 ⟨hv, st1⟩ => ?_
  subst hv
  replace st := st.call st1 rfl
  clear st1
  refine zb (.bool false) ?_
  refine zf ?_
  show AWp _ _ _ _ _
  iterate 4 refine zm ?_
  first | guard_hyp ta : 0 = 0; refine zl st 20 ?_ | refine zl st 19 ?_
  iterate 3 refine zm ?_
  first | guard_hyp ta : 0 = 0; refine zl st 20 ?_ | refine zl st 19 ?_
  refine aBld rfl (by repeat constructor) ?_
  refine ⟨?_, trivial⟩
  refine zp st fun b15 H19 st => ?_
  first | guard_hyp ta : 0 = 0; refine ⟨⟨zh st 21, zh st 21, trivial⟩, ?_⟩ | refine ⟨⟨zh st 20, zh st 20, trivial⟩, ?_⟩
  refine ⟨?_, trivial⟩
  refine zx st 0 fun H20 st => ?_
  refine ⟨trivial, ?_⟩
  refine zw ?_
  iterate 3 refine zm ?_
  first | guard_hyp ta : 0 = 0; refine zl st 21 ?_ | refine zl st 20 ?_
  refine zm ?_
  first | guard_hyp ta : 0 = 0; refine aC (conflict_call (zM st [] [24])) fun v65 H21 ⟨hv, st1⟩ => ?_ | refine aC (conflict_call (zM st [] [23])) fun v65 H21 ⟨hv, st1⟩ => ?_
  subst hv
  replace st := st.call st1 rfl
  clear st1
  refine zf ?_
  refine zw ?_
  iterate 3 refine zm ?_
  first | guard_hyp ta : 0 = 0; refine zl st 21 ?_ | refine zl st 20 ?_
  refine zm ?_
  first | guard_hyp ta : 0 = 0; refine aC (conflict_call (zM st [] [24])) fun v75 H22 ⟨hv, st1⟩ => ?_ | refine aC (conflict_call (zM st [] [23])) fun v75 H22 ⟨hv, st1⟩ => ?_
  subst hv
  replace st := st.call st1 rfl
  clear st1
  refine zm ?_
  refine zg ?_
  refine zm ?_
  refine zg ?_
  refine zm ?_
  refine zg ?_
  refine zm ?_
  refine zg ?_
  first | guard_hyp ta : 0 = 0; refine zl st 21 ?_ | refine zl st 20 ?_
  refine zg ?_
  first | guard_hyp ta : 0 = 0; refine aC (now_call (zM st [] [26])) fun v81 H23 ⟨hv, st1⟩ => ?_ | refine aC (now_call (zM st [] [25])) fun v81 H23 ⟨hv, st1⟩ => ?_
  subst hv
  replace st := st.call st1 rfl
  clear st1
  refine zg ?_
  iterate 2 refine zm ?_
  refine zf ?_
  refine zw ?_
  refine zm ?_
  refine aLdA st 0 rfl rfl (by first | decide | simp [*]) (by repeat constructor) ?_
  refine aLit st rfl (by repeat constructor) fun b90 H24 st => ?_
  refine aAppP st 2 (ob := some b91) rfl rfl rfl (by decide) (rfl) (st.rowAll 0 rfl (rfl)).src (rfl) (by decide) (by decide) (by decide) (by repeat constructor) fun b91 H25 st => ?_
  refine zm ?_
  refine zw ?_
  refine zb (.int .i64 2) ?_
  refine zm ?_
  refine sE ?_
  show AW _ _ _ _ _
  refine zw ?_
  refine zb (.bool false) ?_
  refine zf ?_
  refine zw ?_
  refine aLdA st 7 rfl rfl (by first | decide | simp [*]) (by repeat constructor) ?_
  refine zm ?_
  first | guard_hyp ta : 0 = 0; guard_hyp tb : 0 = 0; guard_hyp tc : 0 = 0; refine aC (xrun_all.1 (nd := b91) (zN st [12, 13, 14, 15] [16, 17, 18, 19, 20, 8, 9, 2]) hm10 hm20 hm11 hm21 hcs hnw hF0 hfs0 hfl0 hF1 hfs1 hfl1 hn hsr hds hsr9 hds9 ho hs hgood) fun v96 H26 ⟨wb1, ot1, c1, cs1, nw1, ops1, hv, hcs1, hnw1, hops1, hF9, hO9, st1⟩ => ?_ | guard_hyp ta : 0 = 0; guard_hyp tb : 0 = 0; guard_hyp tc : 1 = 1; refine aC (xrun_all.2.1 (nd := b91) (zN st [12, 13, 14, 15] [16, 17, 18, 19, 20, 8, 9, 2]) hm10 hm20 hm11 hm21 hcs hnw hF0 hfs0 hfl0 hF1 hfs1 hfl1 hn hsr hds hsr9 hds9 ho hs hgood) fun v96 H26 ⟨wb1, ot1, c1, cs1, nw1, ops1, hv, hcs1, hnw1, hops1, hF9, hO9, st1⟩ => ?_ | guard_hyp ta : 0 = 0; guard_hyp tb : 1 = 1; guard_hyp tc : 0 = 0; refine aC (xrun_all.2.2.1 (nd := b91) (zN st [12, 13, 14, 15] [16, 17, 18, 19, 20, 8, 9, 2]) hm10 hm20 hm11 hm21 hcs hnw hF0 hfs0 hfl0 hF1 hfs1 hfl1 hn hsr hds hsr9 hds9 ho hs hgood) fun v96 H26 ⟨wb1, ot1, c1, cs1, nw1, ops1, hv, hcs1, hnw1, hops1, hF9, hO9, st1⟩ => ?_ | guard_hyp ta : 0 = 0; guard_hyp tb : 1 = 1; guard_hyp tc : 1 = 1; refine aC (xrun_all.2.2.2.1 (nd := b91) (zN st [12, 13, 14, 15] [16, 17, 18, 19, 20, 8, 9, 2]) hm10 hm20 hm11 hm21 hcs hnw hF0 hfs0 hfl0 hF1 hfs1 hfl1 hn hsr hds hsr9 hds9 ho hs hgood) fun v96 H26 ⟨wb1, ot1, c1, cs1, nw1, ops1, hv, hcs1, hnw1, hops1, hF9, hO9, st1⟩ => ?_ | guard_hyp ta : 1 = 1; guard_hyp tb : 0 = 0; guard_hyp tc : 0 = 0; refine aC (xrun_all.2.2.2.2.1 (nd := b91) (zN st [12, 13, 14, 15] [16, 17, 18, 19, 20, 8, 9, 2]) hm10 hm20 hm11 hm21 hcs hnw hF0 hfs0 hfl0 hF1 hfs1 hfl1 hn hsr hds hsr9 hds9 ho hs hgood) fun v96 H26 ⟨wb1, ot1, c1, cs1, nw1, ops1, hv, hcs1, hnw1, hops1, hF9, hO9, st1⟩ => ?_ | guard_hyp ta : 1 = 1; guard_hyp tb : 0 = 0; guard_hyp tc : 1 = 1; refine aC (xrun_all.2.2.2.2.2.1 (nd := b91) (zN st [12, 13, 14, 15] [16, 17, 18, 19, 20, 8, 9, 2]) hm10 hm20 hm11 hm21 hcs hnw hF0 hfs0 hfl0 hF1 hfs1 hfl1 hn hsr hds hsr9 hds9 ho hs hgood) fun v96 H26 ⟨wb1, ot1, c1, cs1, nw1, ops1, hv, hcs1, hnw1, hops1, hF9, hO9, st1⟩ => ?_ | guard_hyp ta : 1 = 1; guard_hyp tb : 1 = 1; guard_hyp tc : 0 = 0; refine aC (xrun_all.2.2.2.2.2.2.1 (nd := b91) (zN st [12, 13, 14, 15] [16, 17, 18, 19, 20, 8, 9, 2]) hm10 hm20 hm11 hm21 hcs hnw hF0 hfs0 hfl0 hF1 hfs1 hfl1 hn hsr hds hsr9 hds9 ho hs hgood) fun v96 H26 ⟨wb1, ot1, c1, cs1, nw1, ops1, hv, hcs1, hnw1, hops1, hF9, hO9, st1⟩ => ?_ | refine aC (xrun_all.2.2.2.2.2.2.2 (nd := b91) (zN st [12, 13, 14, 15] [16, 17, 18, 19, 20, 8, 9, 2]) hm10 hm20 hm11 hm21 hcs hnw hF0 hfs0 hfl0 hF1 hfs1 hfl1 hn hsr hds hsr9 hds9 ho hs hgood) fun v96 H26 ⟨wb1, ot1, c1, cs1, nw1, ops1, hv, hcs1, hnw1, hops1, hF9, hO9, st1⟩ => ?_
  subst hv
  first | guard_hyp tc : 0 = 0; replace st := st.call4 (o1 := some w) (o2 := some sb) (o3 := wb) (o4 := ob0) 12 12 12 12 rfl rfl rfl rfl st1 rfl | replace st := st.call4 (o1 := some w) (o2 := some sb) (o3 := wb) (o4 := ob1) 12 12 12 12 rfl rfl rfl rfl st1 rfl
  clear st1
  iterate 3 refine zm ?_
  refine zp st fun b17 H27 st => ?_
  refine zm ?_
  refine zx st 0 fun H28 st => ?_
  refine zw ?_
  refine aLdA st 0 rfl rfl (by first | decide | simp [*]) (by repeat constructor) ?_
  refine zx st 15 fun H29 st => ?_
  refine sE ?_
  refine ⟨_, out1 (zc st 15), ?_⟩
  exact ⟨wb1, ot1, c1, cs1, nw1, ops1, rfl, hcs1, hnw1, hops1, hF9, hO9, st.sel [1, 2, 3, 4] (by decide)⟩
end Go.Proofs.YtjmjkdelkaflmaaGreatDoor.Abs
