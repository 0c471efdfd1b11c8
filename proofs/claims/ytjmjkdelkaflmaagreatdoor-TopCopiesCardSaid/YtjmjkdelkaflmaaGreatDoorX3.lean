/- The parameters of a copy, as bytes. -/
import Derived.Test.YtjmjkdelkaflmaaGreatDoorXI
import Derived.Test.YtjmjkdelkaflmaaGreatDoorXW
set_option linter.unusedVariables false
set_option linter.unusedSimpArgs false
set_option maxRecDepth 100000
namespace Go.Proofs.YtjmjkdelkaflmaaGreatDoor.Abs
open Go Go.RowKit
set_option maxHeartbeats 2000000 in
theorem xbytes_call {H : Hp} {ub sg : Nat} {f t n sr ds : Nat} (st0 : Stt [] H H [⟨some ub, false, ⟨true, 9, [.string ⟨#[83, 48]⟩, .string ⟨#[83, 49]⟩]⟩⟩, ⟨some sg, false, ⟨true, 61, [.int .i64 (f : Int), .int .i64 (t : Int), .int .i64 (n : Int), .int .u64 (sr : Int), .int .u64 (ds : Int)]⟩⟩]) (hf : f < 2) (ht : t < 2) (hn : n ≤ 16) (hsr : sr < 16) (hds : ds < 16) :
  ACalls Tryz.prog 17 [.agg #[.slice (some ⟨ub, 0, none⟩) 2 1, .slice (some ⟨sg, 0, none⟩) 1 5]] H (fun v H' => ∃ p, v = .tuple #[.slice (some ⟨p, 0, none⟩) 108 1, .int .i64 0] ∧ Stt [] H H' [⟨some p, true, ⟨true, 5, ([0, 0, 0, 64, 0, 0, 0, 0, 0, 0, 0, 28, 0, 0, 0, 0, 228, 0, 0, 0, 2, 1, 0, 20, 83, 48, 32, 32, 32, 32, 32, 32, 32, 32, 32, 32, 32, 32, 32, 32, 32, 32, 32, 32, 0, 0, 0, 16, 228, 0, 0, 0, 2, 1, 0, 20, 83, 49, 32, 32, 32, 32, 32, 32, 32, 32, 32, 32, 32, 32, 32, 32, 32, 32, 32, 32, 0, 0, 0, 16, 2, 0, 0, 24, 0, (f : Int), 0, (t : Int), 0, 0, 0, (n : Int), 0, 0, 0, 0, 0, 0, 0, (sr : Int), 0, 0, 0, 0, 0, 0, 0, (ds : Int)] : List Int).map (Value.int .u8)⟩⟩]) := by
 refine acallsW Tryz.func17 f17_ok (Nat.le_of_ble_eq_true rfl) fun hw => ?_
 have st : Stt [] H H [] := Stt.start hw
 replace st := st0
 unfold f17c
 show AWl _ _ _ _ _
 refine aBoxN st rfl rfl (by repeat constructor) rfl fun b1 H1 st => ?_
 iterate 2 refine zm ?_
 refine sE ?_
 show AWl _ _ _ _ _
 refine zm ?_
 refine zl st 0 ?_
 refine aN (v := .int .i64 2) rfl rfl (by constructor) ?_
 refine zb (.bool false) ?_
 refine zm ?_
 refine zg ?_
 refine zm ?_
 refine zg ?_
 refine zl st 0 ?_
 refine zg ?_
 refine aN (v := .int .i64 1) rfl rfl (by constructor) ?_
 refine zg ?_
 refine zb (.bool false) ?_
 refine zm ?_
 show AW _ (.cond _ _ _) _ _ _
 refine cF' rfl ?_
 show AWp _ _ _ _ _
 refine zm ?_
 refine zl st 0 ?_
 refine aN (v := .int .i64 2) rfl rfl (by constructor) ?_
 refine zb (.int .i64 64) ?_
 refine aConvV (n := 64) (n' := 64) rfl (by decide) ?_
 refine ⟨?_, trivial⟩
 refine aNewS st rfl rfl (by repeat constructor) fun b23 H2 st => ?_
 refine ⟨⟨zh st 1, trivial⟩, ?_⟩
 refine ⟨?_, trivial⟩
 refine aC (put_call (xs := [0, 0, 0, 0, 0, 0, 0, 0, 0, 0, 0, 0, 0, 0, 0, 0]) (at_ := 2) (n := 2) (v := 64) (st.rowAll 0 rfl (rfl)) (by simp only [byteL_cons, byteL_nil, and_true]; decide) (Nat.le_of_ble_eq_true rfl) (by refine ⟨by decide, by decide, by decide, ?_⟩; show (2 : Int) + 2 ≤ 16; decide) (by refine ⟨by omega, ?_⟩; rw [show (256 : Int) ^ Int.toNat 2 = 65536 by decide]; omega)) fun v29 H3 ⟨p29, hv, st1⟩ => ?_
 subst hv
 replace st := st.call st1 rfl
 clear st1
 have st := st.recell 0 rfl (cs' := ([0, 0, 0, 64, 0, 0, 0, 0, 0, 0, 0, 0, 0, 0, 0, 0] : List Int).map (Value.int .u8)) (by rw [show beB (Int.toNat 2) (64) = [0, 64] from beB2 (by omega)]; rfl)
 refine ⟨⟨zh st 2, trivial⟩, ?_⟩
 iterate 5 refine zm ?_
 refine pE ?_
 show AWl _ _ _ _ _
 iterate 2 refine zm ?_
 refine zl st 2 ?_
 refine aN (v := .int .i64 1) rfl rfl (by constructor) ?_
 refine zb (.int .i64 28) ?_
 refine aConvV (n := 28) (n' := 28) rfl (by decide) ?_
 refine aC (put_call (xs := [0, 0, 0, 64, 0, 0, 0, 0, 0, 0, 0, 0, 0, 0, 0, 0]) (at_ := 8) (n := 4) (v := 28) (st.rowAll 0 rfl (rfl)) (by simp only [byteL_cons, byteL_nil, and_true]; decide) (Nat.le_of_ble_eq_true rfl) (by refine ⟨by decide, by decide, by decide, ?_⟩; show (8 : Int) + 4 ≤ 16; decide) (by refine ⟨by omega, ?_⟩; rw [show (256 : Int) ^ Int.toNat 4 = 4294967296 by decide]; omega)) fun v39 H4 ⟨p39, hv, st1⟩ => ?_
 subst hv
 replace st := st.call st1 rfl
 clear st1
 have st := st.recell 0 rfl (cs' := ([0, 0, 0, 64, 0, 0, 0, 0, 0, 0, 0, 28, 0, 0, 0, 0] : List Int).map (Value.int .u8)) (by rw [show beB (Int.toNat 4) (28) = [0, 0, 0, 28] from beB4 (by omega)]; rfl)
 iterate 4 refine zm ?_
 refine sE ?_
 show AWl _ _ _ _ _
 refine zm ?_
 refine zl st 3 ?_
 refine aN (v := .int .i64 2) rfl rfl (by constructor) ?_
 refine zm ?_
 refine sE ?_
 show AW _ (.loop _) _ _ _
 refine AW_fuel 3 ?_
 show AW _ _ _ _ _
 show AWl _ _ _ _ _
 refine zb (.bool true) ?_
 show AW _ (.cond _ _ _) _ _ _
 refine cT rfl ?_
 show AWl _ _ _ _ _
 refine zm ?_
 refine zl st 4 ?_
 refine zm ?_
 refine sE ?_
 show AWl _ _ _ _ _
 refine zm ?_
 refine aN (v := .int .i64 2) rfl rfl (by constructor) ?_
 refine zb (.bool false) ?_
 refine zm ?_
 refine zg ?_
 refine zm ?_
 refine zg ?_
 refine aC (hsuf_0) fun v54 H5 ⟨hv, st1⟩ => ?_
 subst hv
 replace st := st.call st1 rfl
 clear st1
 refine zm ?_
 show AW _ (.cond _ _ _) _ _ _
 refine cF' rfl ?_
 show AWl _ _ _ _ _
 refine aLit st rfl (by repeat constructor) fun b56 H6 st => ?_
 refine zm ?_
 refine aAppP st 0 (ob := some b56) rfl rfl rfl (by decide) (by first | rfl | (simp [beB_len, *]; done) | (simp [beB_len, *]; omega)) (src_str (xs := [83, 48]) (by simp only [byteL_cons, byteL_nil, and_true]; decide)) (rfl) (by decide) (by decide) (by decide) (by repeat constructor) fun b58 H7 st => ?_
 refine zm ?_
 refine sE ?_
 show AW _ (.loop _) _ _ _
 refine AW_fuel 19 ?_
 have st := (st.sel [0, 1, 4, 5, 6] (by decide)).nf (by repeat constructor)
 show AW _ _ _ _ _
 show AWl _ _ _ _ _
 refine zm ?_
 refine aN (v := .int .i64 10) rfl rfl (by constructor) ?_
 refine zb (.bool true) ?_
 show AW _ (.cond _ _ _) _ _ _
 refine cT rfl ?_
 show AWl _ _ _ _ _
 refine zm ?_
 refine aLit st rfl (by repeat constructor) fun b63 H8 st => ?_
 refine aAppP st 1 (ob := some b58) rfl rfl rfl (by decide) (rfl) (st.rowAll 0 rfl (by first | rfl | (simp [beB_len, *]; done) | (simp [beB_len, *]; omega))).src (rfl) (by decide) (by decide) (by decide) (by repeat constructor) fun b64 H9 st => ?_
 refine zm ?_
 refine sE ?_
 have st := (st.sel [1, 2, 3, 4, 5] (by decide)).nf (by repeat constructor)
 show AW _ _ _ _ _
 show AWl _ _ _ _ _
 refine zm ?_
 refine aN (v := .int .i64 11) rfl rfl (by constructor) ?_
 refine zb (.bool true) ?_
 show AW _ (.cond _ _ _) _ _ _
 refine cT rfl ?_
 show AWl _ _ _ _ _
 refine zm ?_
 refine aLit st rfl (by repeat constructor) fun b63 H10 st => ?_
 refine aAppP st 1 (ob := some b64) rfl rfl rfl (by decide) (rfl) (st.rowAll 0 rfl (by first | rfl | (simp [beB_len, *]; done) | (simp [beB_len, *]; omega))).src (rfl) (by decide) (by decide) (by decide) (by repeat constructor) fun b64 H11 st => ?_
 refine zm ?_
 refine sE ?_
 have st := (st.sel [1, 2, 3, 4, 5] (by decide)).nf (by repeat constructor)
 show AW _ _ _ _ _
 show AWl _ _ _ _ _
 refine zm ?_
 refine aN (v := .int .i64 12) rfl rfl (by constructor) ?_
 refine zb (.bool true) ?_
 show AW _ (.cond _ _ _) _ _ _
 refine cT rfl ?_
 show AWl _ _ _ _ _
 refine zm ?_
 refine aLit st rfl (by repeat constructor) fun b63 H12 st => ?_
 refine aAppP st 1 (ob := some b64) rfl rfl rfl (by decide) (rfl) (st.rowAll 0 rfl (by first | rfl | (simp [beB_len, *]; done) | (simp [beB_len, *]; omega))).src (rfl) (by decide) (by decide) (by decide) (by repeat constructor) fun b64 H13 st => ?_
 refine zm ?_
 refine sE ?_
 have st := (st.sel [1, 2, 3, 4, 5] (by decide)).nf (by repeat constructor)
 show AW _ _ _ _ _
 show AWl _ _ _ _ _
 refine zm ?_
 refine aN (v := .int .i64 13) rfl rfl (by constructor) ?_
 refine zb (.bool true) ?_
 show AW _ (.cond _ _ _) _ _ _
 refine cT rfl ?_
 show AWl _ _ _ _ _
 refine zm ?_
 refine aLit st rfl (by repeat constructor) fun b63 H14 st => ?_
 refine aAppP st 1 (ob := some b64) rfl rfl rfl (by decide) (rfl) (st.rowAll 0 rfl (by first | rfl | (simp [beB_len, *]; done) | (simp [beB_len, *]; omega))).src (rfl) (by decide) (by decide) (by decide) (by repeat constructor) fun b64 H15 st => ?_
 refine zm ?_
 refine sE ?_
 have st := (st.sel [1, 2, 3, 4, 5] (by decide)).nf (by repeat constructor)
 show AW _ _ _ _ _
 show AWl _ _ _ _ _
 refine zm ?_
 refine aN (v := .int .i64 14) rfl rfl (by constructor) ?_
 refine zb (.bool true) ?_
 show AW _ (.cond _ _ _) _ _ _
 refine cT rfl ?_
 show AWl _ _ _ _ _
 refine zm ?_
 refine aLit st rfl (by repeat constructor) fun b63 H16 st => ?_
 refine aAppP st 1 (ob := some b64) rfl rfl rfl (by decide) (rfl) (st.rowAll 0 rfl (by first | rfl | (simp [beB_len, *]; done) | (simp [beB_len, *]; omega))).src (rfl) (by decide) (by decide) (by decide) (by repeat constructor) fun b64 H17 st => ?_
 refine zm ?_
 refine sE ?_
 have st := (st.sel [1, 2, 3, 4, 5] (by decide)).nf (by repeat constructor)
 show AW _ _ _ _ _
 show AWl _ _ _ _ _
 refine zm ?_
 refine aN (v := .int .i64 15) rfl rfl (by constructor) ?_
 refine zb (.bool true) ?_
 show AW _ (.cond _ _ _) _ _ _
 refine cT rfl ?_
 show AWl _ _ _ _ _
 refine zm ?_
 refine aLit st rfl (by repeat constructor) fun b63 H18 st => ?_
 refine aAppP st 1 (ob := some b64) rfl rfl rfl (by decide) (rfl) (st.rowAll 0 rfl (by first | rfl | (simp [beB_len, *]; done) | (simp [beB_len, *]; omega))).src (rfl) (by decide) (by decide) (by decide) (by repeat constructor) fun b64 H19 st => ?_
 refine zm ?_
 refine sE ?_
 have st := (st.sel [1, 2, 3, 4, 5] (by decide)).nf (by repeat constructor)
 show AW _ _ _ _ _
 show AWl _ _ _ _ _
 refine zm ?_
 refine aN (v := .int .i64 16) rfl rfl (by constructor) ?_
 refine zb (.bool true) ?_
 show AW _ (.cond _ _ _) _ _ _
 refine cT rfl ?_
 show AWl _ _ _ _ _
 refine zm ?_
 refine aLit st rfl (by repeat constructor) fun b63 H20 st => ?_
 refine aAppP st 1 (ob := some b64) rfl rfl rfl (by decide) (rfl) (st.rowAll 0 rfl (by first | rfl | (simp [beB_len, *]; done) | (simp [beB_len, *]; omega))).src (rfl) (by decide) (by decide) (by decide) (by repeat constructor) fun b64 H21 st => ?_
 refine zm ?_
 refine sE ?_
 have st := (st.sel [1, 2, 3, 4, 5] (by decide)).nf (by repeat constructor)
 show AW _ _ _ _ _
 show AWl _ _ _ _ _
 refine zm ?_
 refine aN (v := .int .i64 17) rfl rfl (by constructor) ?_
 refine zb (.bool true) ?_
 show AW _ (.cond _ _ _) _ _ _
 refine cT rfl ?_
 show AWl _ _ _ _ _
 refine zm ?_
 refine aLit st rfl (by repeat constructor) fun b63 H22 st => ?_
 refine aAppP st 1 (ob := some b64) rfl rfl rfl (by decide) (rfl) (st.rowAll 0 rfl (by first | rfl | (simp [beB_len, *]; done) | (simp [beB_len, *]; omega))).src (rfl) (by decide) (by decide) (by decide) (by repeat constructor) fun b64 H23 st => ?_
 refine zm ?_
 refine sE ?_
 have st := (st.sel [1, 2, 3, 4, 5] (by decide)).nf (by repeat constructor)
 show AW _ _ _ _ _
 show AWl _ _ _ _ _
 refine zm ?_
 refine aN (v := .int .i64 18) rfl rfl (by constructor) ?_
 refine zb (.bool true) ?_
 show AW _ (.cond _ _ _) _ _ _
 refine cT rfl ?_
 show AWl _ _ _ _ _
 refine zm ?_
 refine aLit st rfl (by repeat constructor) fun b63 H24 st => ?_
 refine aAppP st 1 (ob := some b64) rfl rfl rfl (by decide) (rfl) (st.rowAll 0 rfl (by first | rfl | (simp [beB_len, *]; done) | (simp [beB_len, *]; omega))).src (rfl) (by decide) (by decide) (by decide) (by repeat constructor) fun b64 H25 st => ?_
 refine zm ?_
 refine sE ?_
 have st := (st.sel [1, 2, 3, 4, 5] (by decide)).nf (by repeat constructor)
 show AW _ _ _ _ _
 show AWl _ _ _ _ _
 refine zm ?_
 refine aN (v := .int .i64 19) rfl rfl (by constructor) ?_
 refine zb (.bool true) ?_
 show AW _ (.cond _ _ _) _ _ _
 refine cT rfl ?_
 show AWl _ _ _ _ _
 refine zm ?_
 refine aLit st rfl (by repeat constructor) fun b63 H26 st => ?_
 refine aAppP st 1 (ob := some b64) rfl rfl rfl (by decide) (rfl) (st.rowAll 0 rfl (by first | rfl | (simp [beB_len, *]; done) | (simp [beB_len, *]; omega))).src (rfl) (by decide) (by decide) (by decide) (by repeat constructor) fun b64 H27 st => ?_
 refine zm ?_
 refine sE ?_
 have st := (st.sel [1, 2, 3, 4, 5] (by decide)).nf (by repeat constructor)
 show AW _ _ _ _ _
 show AWl _ _ _ _ _
 refine zm ?_
 refine aN (v := .int .i64 20) rfl rfl (by constructor) ?_
 refine zb (.bool true) ?_
 show AW _ (.cond _ _ _) _ _ _
 refine cT rfl ?_
 show AWl _ _ _ _ _
 refine zm ?_
 refine aLit st rfl (by repeat constructor) fun b63 H28 st => ?_
 refine aAppP st 1 (ob := some b64) rfl rfl rfl (by decide) (rfl) (st.rowAll 0 rfl (by first | rfl | (simp [beB_len, *]; done) | (simp [beB_len, *]; omega))).src (rfl) (by decide) (by decide) (by decide) (by repeat constructor) fun b64 H29 st => ?_
 refine zm ?_
 refine sE ?_
 have st := (st.sel [1, 2, 3, 4, 5] (by decide)).nf (by repeat constructor)
 show AW _ _ _ _ _
 show AWl _ _ _ _ _
 refine zm ?_
 refine aN (v := .int .i64 21) rfl rfl (by constructor) ?_
 refine zb (.bool true) ?_
 show AW _ (.cond _ _ _) _ _ _
 refine cT rfl ?_
 show AWl _ _ _ _ _
 refine zm ?_
 refine aLit st rfl (by repeat constructor) fun b63 H30 st => ?_
 refine aAppP st 1 (ob := some b64) rfl rfl rfl (by decide) (rfl) (st.rowAll 0 rfl (by first | rfl | (simp [beB_len, *]; done) | (simp [beB_len, *]; omega))).src (rfl) (by decide) (by decide) (by decide) (by repeat constructor) fun b64 H31 st => ?_
 refine zm ?_
 refine sE ?_
 have st := (st.sel [1, 2, 3, 4, 5] (by decide)).nf (by repeat constructor)
 show AW _ _ _ _ _
 show AWl _ _ _ _ _
 refine zm ?_
 refine aN (v := .int .i64 22) rfl rfl (by constructor) ?_
 refine zb (.bool true) ?_
 show AW _ (.cond _ _ _) _ _ _
 refine cT rfl ?_
 show AWl _ _ _ _ _
 refine zm ?_
 refine aLit st rfl (by repeat constructor) fun b63 H32 st => ?_
 refine aAppP st 1 (ob := some b64) rfl rfl rfl (by decide) (rfl) (st.rowAll 0 rfl (by first | rfl | (simp [beB_len, *]; done) | (simp [beB_len, *]; omega))).src (rfl) (by decide) (by decide) (by decide) (by repeat constructor) fun b64 H33 st => ?_
 refine zm ?_
 refine sE ?_
 have st := (st.sel [1, 2, 3, 4, 5] (by decide)).nf (by repeat constructor)
 show AW _ _ _ _ _
 show AWl _ _ _ _ _
 refine zm ?_
 refine aN (v := .int .i64 23) rfl rfl (by constructor) ?_
 refine zb (.bool true) ?_
 show AW _ (.cond _ _ _) _ _ _
 refine cT rfl ?_
 show AWl _ _ _ _ _
 refine zm ?_
 refine aLit st rfl (by repeat constructor) fun b63 H34 st => ?_
 refine aAppP st 1 (ob := some b64) rfl rfl rfl (by decide) (rfl) (st.rowAll 0 rfl (by first | rfl | (simp [beB_len, *]; done) | (simp [beB_len, *]; omega))).src (rfl) (by decide) (by decide) (by decide) (by repeat constructor) fun b64 H35 st => ?_
 refine zm ?_
 refine sE ?_
 have st := (st.sel [1, 2, 3, 4, 5] (by decide)).nf (by repeat constructor)
 show AW _ _ _ _ _
 show AWl _ _ _ _ _
 refine zm ?_
 refine aN (v := .int .i64 24) rfl rfl (by constructor) ?_
 refine zb (.bool true) ?_
 show AW _ (.cond _ _ _) _ _ _
 refine cT rfl ?_
 show AWl _ _ _ _ _
 refine zm ?_
 refine aLit st rfl (by repeat constructor) fun b63 H36 st => ?_
 refine aAppP st 1 (ob := some b64) rfl rfl rfl (by decide) (rfl) (st.rowAll 0 rfl (by first | rfl | (simp [beB_len, *]; done) | (simp [beB_len, *]; omega))).src (rfl) (by decide) (by decide) (by decide) (by repeat constructor) fun b64 H37 st => ?_
 refine zm ?_
 refine sE ?_
 have st := (st.sel [1, 2, 3, 4, 5] (by decide)).nf (by repeat constructor)
 show AW _ _ _ _ _
 show AWl _ _ _ _ _
 refine zm ?_
 refine aN (v := .int .i64 25) rfl rfl (by constructor) ?_
 refine zb (.bool true) ?_
 show AW _ (.cond _ _ _) _ _ _
 refine cT rfl ?_
 show AWl _ _ _ _ _
 refine zm ?_
 refine aLit st rfl (by repeat constructor) fun b63 H38 st => ?_
 refine aAppP st 1 (ob := some b64) rfl rfl rfl (by decide) (rfl) (st.rowAll 0 rfl (by first | rfl | (simp [beB_len, *]; done) | (simp [beB_len, *]; omega))).src (rfl) (by decide) (by decide) (by decide) (by repeat constructor) fun b64 H39 st => ?_
 refine zm ?_
 refine sE ?_
 have st := (st.sel [1, 2, 3, 4, 5] (by decide)).nf (by repeat constructor)
 show AW _ _ _ _ _
 show AWl _ _ _ _ _
 refine zm ?_
 refine aN (v := .int .i64 26) rfl rfl (by constructor) ?_
 refine zb (.bool true) ?_
 show AW _ (.cond _ _ _) _ _ _
 refine cT rfl ?_
 show AWl _ _ _ _ _
 refine zm ?_
 refine aLit st rfl (by repeat constructor) fun b63 H40 st => ?_
 refine aAppP st 1 (ob := some b64) rfl rfl rfl (by decide) (rfl) (st.rowAll 0 rfl (by first | rfl | (simp [beB_len, *]; done) | (simp [beB_len, *]; omega))).src (rfl) (by decide) (by decide) (by decide) (by repeat constructor) fun b64 H41 st => ?_
 refine zm ?_
 refine sE ?_
 have st := (st.sel [1, 2, 3, 4, 5] (by decide)).nf (by repeat constructor)
 show AW _ _ _ _ _
 show AWl _ _ _ _ _
 refine zm ?_
 refine aN (v := .int .i64 27) rfl rfl (by constructor) ?_
 refine zb (.bool true) ?_
 show AW _ (.cond _ _ _) _ _ _
 refine cT rfl ?_
 show AWl _ _ _ _ _
 refine zm ?_
 refine aLit st rfl (by repeat constructor) fun b63 H42 st => ?_
 refine aAppP st 1 (ob := some b64) rfl rfl rfl (by decide) (rfl) (st.rowAll 0 rfl (by first | rfl | (simp [beB_len, *]; done) | (simp [beB_len, *]; omega))).src (rfl) (by decide) (by decide) (by decide) (by repeat constructor) fun b64 H43 st => ?_
 refine zm ?_
 refine sE ?_
 have st := (st.sel [1, 2, 3, 4, 5] (by decide)).nf (by repeat constructor)
 show AW _ _ _ _ _
 show AWl _ _ _ _ _
 refine zm ?_
 refine aN (v := .int .i64 28) rfl rfl (by constructor) ?_
 refine zb (.bool false) ?_
 show AW _ (.cond _ _ _) _ _ _
 refine cF' rfl ?_
 show AWl _ _ _ _ _
 iterate 2 refine zm ?_
 refine aAppP st 1 (ob := some p39) rfl rfl rfl (by decide) (rfl) (st.rowAll 0 rfl (rfl)).src (rfl) (by decide) (by decide) (by decide) (by repeat constructor) fun b67 H44 st => ?_
 refine aLit st rfl (by repeat constructor) fun b68 H45 st => ?_
 refine aAppP st 2 (ob := some b67) rfl rfl rfl (by decide) (rfl) (st.rowAll 0 rfl (by first | rfl | (simp [beB_len, *]; done) | (simp [beB_len, *]; omega))).src (rfl) (by decide) (by decide) (by decide) (by repeat constructor) fun b69 H46 st => ?_
 refine zm ?_
 refine sE ?_
 show AWl _ _ _ _ _
 refine zb (.int .i64 1) ?_
 refine zm ?_
 refine sE ?_
 show AW _ _ _ _ _
 show AWl _ _ _ _ _
 refine zb (.bool true) ?_
 show AW _ (.cond _ _ _) _ _ _
 refine cT rfl ?_
 show AWl _ _ _ _ _
 refine zm ?_
 refine zl st 4 ?_
 refine zm ?_
 refine sE ?_
 show AWl _ _ _ _ _
 refine zm ?_
 refine aN (v := .int .i64 2) rfl rfl (by constructor) ?_
 refine zb (.bool false) ?_
 refine zm ?_
 refine zg ?_
 refine zm ?_
 refine zg ?_
 refine aC (hsuf_1) fun v54 H47 ⟨hv, st1⟩ => ?_
 subst hv
 replace st := st.call st1 rfl
 clear st1
 refine zm ?_
 show AW _ (.cond _ _ _) _ _ _
 refine cF' rfl ?_
 show AWl _ _ _ _ _
 refine aLit st rfl (by repeat constructor) fun b56 H48 st => ?_
 refine zm ?_
 refine aAppP st 0 (ob := some b56) rfl rfl rfl (by decide) (by first | rfl | (simp [beB_len, *]; done) | (simp [beB_len, *]; omega)) (src_str (xs := [83, 49]) (by simp only [byteL_cons, byteL_nil, and_true]; decide)) (rfl) (by decide) (by decide) (by decide) (by repeat constructor) fun b58 H49 st => ?_
 refine zm ?_
 refine sE ?_
 show AW _ (.loop _) _ _ _
 refine AW_fuel 19 ?_
 have st := (st.sel [0, 3, 4, 5, 6] (by decide)).nf (by repeat constructor)
 show AW _ _ _ _ _
 show AWl _ _ _ _ _
 refine zm ?_
 refine aN (v := .int .i64 10) rfl rfl (by constructor) ?_
 refine zb (.bool true) ?_
 show AW _ (.cond _ _ _) _ _ _
 refine cT rfl ?_
 show AWl _ _ _ _ _
 refine zm ?_
 refine aLit st rfl (by repeat constructor) fun b63 H50 st => ?_
 refine aAppP st 1 (ob := some b58) rfl rfl rfl (by decide) (rfl) (st.rowAll 0 rfl (by first | rfl | (simp [beB_len, *]; done) | (simp [beB_len, *]; omega))).src (rfl) (by decide) (by decide) (by decide) (by repeat constructor) fun b64 H51 st => ?_
 refine zm ?_
 refine sE ?_
 have st := (st.sel [1, 2, 3, 4, 5] (by decide)).nf (by repeat constructor)
 show AW _ _ _ _ _
 show AWl _ _ _ _ _
 refine zm ?_
 refine aN (v := .int .i64 11) rfl rfl (by constructor) ?_
 refine zb (.bool true) ?_
 show AW _ (.cond _ _ _) _ _ _
 refine cT rfl ?_
 show AWl _ _ _ _ _
 refine zm ?_
 refine aLit st rfl (by repeat constructor) fun b63 H52 st => ?_
 refine aAppP st 1 (ob := some b64) rfl rfl rfl (by decide) (rfl) (st.rowAll 0 rfl (by first | rfl | (simp [beB_len, *]; done) | (simp [beB_len, *]; omega))).src (rfl) (by decide) (by decide) (by decide) (by repeat constructor) fun b64 H53 st => ?_
 refine zm ?_
 refine sE ?_
 have st := (st.sel [1, 2, 3, 4, 5] (by decide)).nf (by repeat constructor)
 show AW _ _ _ _ _
 show AWl _ _ _ _ _
 refine zm ?_
 refine aN (v := .int .i64 12) rfl rfl (by constructor) ?_
 refine zb (.bool true) ?_
 show AW _ (.cond _ _ _) _ _ _
 refine cT rfl ?_
 show AWl _ _ _ _ _
 refine zm ?_
 refine aLit st rfl (by repeat constructor) fun b63 H54 st => ?_
 refine aAppP st 1 (ob := some b64) rfl rfl rfl (by decide) (rfl) (st.rowAll 0 rfl (by first | rfl | (simp [beB_len, *]; done) | (simp [beB_len, *]; omega))).src (rfl) (by decide) (by decide) (by decide) (by repeat constructor) fun b64 H55 st => ?_
 refine zm ?_
 refine sE ?_
 have st := (st.sel [1, 2, 3, 4, 5] (by decide)).nf (by repeat constructor)
 show AW _ _ _ _ _
 show AWl _ _ _ _ _
 refine zm ?_
 refine aN (v := .int .i64 13) rfl rfl (by constructor) ?_
 refine zb (.bool true) ?_
 show AW _ (.cond _ _ _) _ _ _
 refine cT rfl ?_
 show AWl _ _ _ _ _
 refine zm ?_
 refine aLit st rfl (by repeat constructor) fun b63 H56 st => ?_
 refine aAppP st 1 (ob := some b64) rfl rfl rfl (by decide) (rfl) (st.rowAll 0 rfl (by first | rfl | (simp [beB_len, *]; done) | (simp [beB_len, *]; omega))).src (rfl) (by decide) (by decide) (by decide) (by repeat constructor) fun b64 H57 st => ?_
 refine zm ?_
 refine sE ?_
 have st := (st.sel [1, 2, 3, 4, 5] (by decide)).nf (by repeat constructor)
 show AW _ _ _ _ _
 show AWl _ _ _ _ _
 refine zm ?_
 refine aN (v := .int .i64 14) rfl rfl (by constructor) ?_
 refine zb (.bool true) ?_
 show AW _ (.cond _ _ _) _ _ _
 refine cT rfl ?_
 show AWl _ _ _ _ _
 refine zm ?_
 refine aLit st rfl (by repeat constructor) fun b63 H58 st => ?_
 refine aAppP st 1 (ob := some b64) rfl rfl rfl (by decide) (rfl) (st.rowAll 0 rfl (by first | rfl | (simp [beB_len, *]; done) | (simp [beB_len, *]; omega))).src (rfl) (by decide) (by decide) (by decide) (by repeat constructor) fun b64 H59 st => ?_
 refine zm ?_
 refine sE ?_
 have st := (st.sel [1, 2, 3, 4, 5] (by decide)).nf (by repeat constructor)
 show AW _ _ _ _ _
 show AWl _ _ _ _ _
 refine zm ?_
 refine aN (v := .int .i64 15) rfl rfl (by constructor) ?_
 refine zb (.bool true) ?_
 show AW _ (.cond _ _ _) _ _ _
 refine cT rfl ?_
 show AWl _ _ _ _ _
 refine zm ?_
 refine aLit st rfl (by repeat constructor) fun b63 H60 st => ?_
 refine aAppP st 1 (ob := some b64) rfl rfl rfl (by decide) (rfl) (st.rowAll 0 rfl (by first | rfl | (simp [beB_len, *]; done) | (simp [beB_len, *]; omega))).src (rfl) (by decide) (by decide) (by decide) (by repeat constructor) fun b64 H61 st => ?_
 refine zm ?_
 refine sE ?_
 have st := (st.sel [1, 2, 3, 4, 5] (by decide)).nf (by repeat constructor)
 show AW _ _ _ _ _
 show AWl _ _ _ _ _
 refine zm ?_
 refine aN (v := .int .i64 16) rfl rfl (by constructor) ?_
 refine zb (.bool true) ?_
 show AW _ (.cond _ _ _) _ _ _
 refine cT rfl ?_
 show AWl _ _ _ _ _
 refine zm ?_
 refine aLit st rfl (by repeat constructor) fun b63 H62 st => ?_
 refine aAppP st 1 (ob := some b64) rfl rfl rfl (by decide) (rfl) (st.rowAll 0 rfl (by first | rfl | (simp [beB_len, *]; done) | (simp [beB_len, *]; omega))).src (rfl) (by decide) (by decide) (by decide) (by repeat constructor) fun b64 H63 st => ?_
 refine zm ?_
 refine sE ?_
 have st := (st.sel [1, 2, 3, 4, 5] (by decide)).nf (by repeat constructor)
 show AW _ _ _ _ _
 show AWl _ _ _ _ _
 refine zm ?_
 refine aN (v := .int .i64 17) rfl rfl (by constructor) ?_
 refine zb (.bool true) ?_
 show AW _ (.cond _ _ _) _ _ _
 refine cT rfl ?_
 show AWl _ _ _ _ _
 refine zm ?_
 refine aLit st rfl (by repeat constructor) fun b63 H64 st => ?_
 refine aAppP st 1 (ob := some b64) rfl rfl rfl (by decide) (rfl) (st.rowAll 0 rfl (by first | rfl | (simp [beB_len, *]; done) | (simp [beB_len, *]; omega))).src (rfl) (by decide) (by decide) (by decide) (by repeat constructor) fun b64 H65 st => ?_
 refine zm ?_
 refine sE ?_
 have st := (st.sel [1, 2, 3, 4, 5] (by decide)).nf (by repeat constructor)
 show AW _ _ _ _ _
 show AWl _ _ _ _ _
 refine zm ?_
 refine aN (v := .int .i64 18) rfl rfl (by constructor) ?_
 refine zb (.bool true) ?_
 show AW _ (.cond _ _ _) _ _ _
 refine cT rfl ?_
 show AWl _ _ _ _ _
 refine zm ?_
 refine aLit st rfl (by repeat constructor) fun b63 H66 st => ?_
 refine aAppP st 1 (ob := some b64) rfl rfl rfl (by decide) (rfl) (st.rowAll 0 rfl (by first | rfl | (simp [beB_len, *]; done) | (simp [beB_len, *]; omega))).src (rfl) (by decide) (by decide) (by decide) (by repeat constructor) fun b64 H67 st => ?_
 refine zm ?_
 refine sE ?_
 have st := (st.sel [1, 2, 3, 4, 5] (by decide)).nf (by repeat constructor)
 show AW _ _ _ _ _
 show AWl _ _ _ _ _
 refine zm ?_
 refine aN (v := .int .i64 19) rfl rfl (by constructor) ?_
 refine zb (.bool true) ?_
 show AW _ (.cond _ _ _) _ _ _
 refine cT rfl ?_
 show AWl _ _ _ _ _
 refine zm ?_
 refine aLit st rfl (by repeat constructor) fun b63 H68 st => ?_
 refine aAppP st 1 (ob := some b64) rfl rfl rfl (by decide) (rfl) (st.rowAll 0 rfl (by first | rfl | (simp [beB_len, *]; done) | (simp [beB_len, *]; omega))).src (rfl) (by decide) (by decide) (by decide) (by repeat constructor) fun b64 H69 st => ?_
 refine zm ?_
 refine sE ?_
 have st := (st.sel [1, 2, 3, 4, 5] (by decide)).nf (by repeat constructor)
 show AW _ _ _ _ _
 show AWl _ _ _ _ _
 refine zm ?_
 refine aN (v := .int .i64 20) rfl rfl (by constructor) ?_
 refine zb (.bool true) ?_
 show AW _ (.cond _ _ _) _ _ _
 refine cT rfl ?_
 show AWl _ _ _ _ _
 refine zm ?_
 refine aLit st rfl (by repeat constructor) fun b63 H70 st => ?_
 refine aAppP st 1 (ob := some b64) rfl rfl rfl (by decide) (rfl) (st.rowAll 0 rfl (by first | rfl | (simp [beB_len, *]; done) | (simp [beB_len, *]; omega))).src (rfl) (by decide) (by decide) (by decide) (by repeat constructor) fun b64 H71 st => ?_
 refine zm ?_
 refine sE ?_
 have st := (st.sel [1, 2, 3, 4, 5] (by decide)).nf (by repeat constructor)
 show AW _ _ _ _ _
 show AWl _ _ _ _ _
 refine zm ?_
 refine aN (v := .int .i64 21) rfl rfl (by constructor) ?_
 refine zb (.bool true) ?_
 show AW _ (.cond _ _ _) _ _ _
 refine cT rfl ?_
 show AWl _ _ _ _ _
 refine zm ?_
 refine aLit st rfl (by repeat constructor) fun b63 H72 st => ?_
 refine aAppP st 1 (ob := some b64) rfl rfl rfl (by decide) (rfl) (st.rowAll 0 rfl (by first | rfl | (simp [beB_len, *]; done) | (simp [beB_len, *]; omega))).src (rfl) (by decide) (by decide) (by decide) (by repeat constructor) fun b64 H73 st => ?_
 refine zm ?_
 refine sE ?_
 have st := (st.sel [1, 2, 3, 4, 5] (by decide)).nf (by repeat constructor)
 show AW _ _ _ _ _
 show AWl _ _ _ _ _
 refine zm ?_
 refine aN (v := .int .i64 22) rfl rfl (by constructor) ?_
 refine zb (.bool true) ?_
 show AW _ (.cond _ _ _) _ _ _
 refine cT rfl ?_
 show AWl _ _ _ _ _
 refine zm ?_
 refine aLit st rfl (by repeat constructor) fun b63 H74 st => ?_
 refine aAppP st 1 (ob := some b64) rfl rfl rfl (by decide) (rfl) (st.rowAll 0 rfl (by first | rfl | (simp [beB_len, *]; done) | (simp [beB_len, *]; omega))).src (rfl) (by decide) (by decide) (by decide) (by repeat constructor) fun b64 H75 st => ?_
 refine zm ?_
 refine sE ?_
 have st := (st.sel [1, 2, 3, 4, 5] (by decide)).nf (by repeat constructor)
 show AW _ _ _ _ _
 show AWl _ _ _ _ _
 refine zm ?_
 refine aN (v := .int .i64 23) rfl rfl (by constructor) ?_
 refine zb (.bool true) ?_
 show AW _ (.cond _ _ _) _ _ _
 refine cT rfl ?_
 show AWl _ _ _ _ _
 refine zm ?_
 refine aLit st rfl (by repeat constructor) fun b63 H76 st => ?_
 refine aAppP st 1 (ob := some b64) rfl rfl rfl (by decide) (rfl) (st.rowAll 0 rfl (by first | rfl | (simp [beB_len, *]; done) | (simp [beB_len, *]; omega))).src (rfl) (by decide) (by decide) (by decide) (by repeat constructor) fun b64 H77 st => ?_
 refine zm ?_
 refine sE ?_
 have st := (st.sel [1, 2, 3, 4, 5] (by decide)).nf (by repeat constructor)
 show AW _ _ _ _ _
 show AWl _ _ _ _ _
 refine zm ?_
 refine aN (v := .int .i64 24) rfl rfl (by constructor) ?_
 refine zb (.bool true) ?_
 show AW _ (.cond _ _ _) _ _ _
 refine cT rfl ?_
 show AWl _ _ _ _ _
 refine zm ?_
 refine aLit st rfl (by repeat constructor) fun b63 H78 st => ?_
 refine aAppP st 1 (ob := some b64) rfl rfl rfl (by decide) (rfl) (st.rowAll 0 rfl (by first | rfl | (simp [beB_len, *]; done) | (simp [beB_len, *]; omega))).src (rfl) (by decide) (by decide) (by decide) (by repeat constructor) fun b64 H79 st => ?_
 refine zm ?_
 refine sE ?_
 have st := (st.sel [1, 2, 3, 4, 5] (by decide)).nf (by repeat constructor)
 show AW _ _ _ _ _
 show AWl _ _ _ _ _
 refine zm ?_
 refine aN (v := .int .i64 25) rfl rfl (by constructor) ?_
 refine zb (.bool true) ?_
 show AW _ (.cond _ _ _) _ _ _
 refine cT rfl ?_
 show AWl _ _ _ _ _
 refine zm ?_
 refine aLit st rfl (by repeat constructor) fun b63 H80 st => ?_
 refine aAppP st 1 (ob := some b64) rfl rfl rfl (by decide) (rfl) (st.rowAll 0 rfl (by first | rfl | (simp [beB_len, *]; done) | (simp [beB_len, *]; omega))).src (rfl) (by decide) (by decide) (by decide) (by repeat constructor) fun b64 H81 st => ?_
 refine zm ?_
 refine sE ?_
 have st := (st.sel [1, 2, 3, 4, 5] (by decide)).nf (by repeat constructor)
 show AW _ _ _ _ _
 show AWl _ _ _ _ _
 refine zm ?_
 refine aN (v := .int .i64 26) rfl rfl (by constructor) ?_
 refine zb (.bool true) ?_
 show AW _ (.cond _ _ _) _ _ _
 refine cT rfl ?_
 show AWl _ _ _ _ _
 refine zm ?_
 refine aLit st rfl (by repeat constructor) fun b63 H82 st => ?_
 refine aAppP st 1 (ob := some b64) rfl rfl rfl (by decide) (rfl) (st.rowAll 0 rfl (by first | rfl | (simp [beB_len, *]; done) | (simp [beB_len, *]; omega))).src (rfl) (by decide) (by decide) (by decide) (by repeat constructor) fun b64 H83 st => ?_
 refine zm ?_
 refine sE ?_
 have st := (st.sel [1, 2, 3, 4, 5] (by decide)).nf (by repeat constructor)
 show AW _ _ _ _ _
 show AWl _ _ _ _ _
 refine zm ?_
 refine aN (v := .int .i64 27) rfl rfl (by constructor) ?_
 refine zb (.bool true) ?_
 show AW _ (.cond _ _ _) _ _ _
 refine cT rfl ?_
 show AWl _ _ _ _ _
 refine zm ?_
 refine aLit st rfl (by repeat constructor) fun b63 H84 st => ?_
 refine aAppP st 1 (ob := some b64) rfl rfl rfl (by decide) (rfl) (st.rowAll 0 rfl (by first | rfl | (simp [beB_len, *]; done) | (simp [beB_len, *]; omega))).src (rfl) (by decide) (by decide) (by decide) (by repeat constructor) fun b64 H85 st => ?_
 refine zm ?_
 refine sE ?_
 have st := (st.sel [1, 2, 3, 4, 5] (by decide)).nf (by repeat constructor)
 show AW _ _ _ _ _
 show AWl _ _ _ _ _
 refine zm ?_
 refine aN (v := .int .i64 28) rfl rfl (by constructor) ?_
 refine zb (.bool false) ?_
 show AW _ (.cond _ _ _) _ _ _
 refine cF' rfl ?_
 show AWl _ _ _ _ _
 iterate 2 refine zm ?_
 refine aAppP st 1 (ob := some b69) rfl rfl rfl (by decide) (rfl) (st.rowAll 0 rfl (rfl)).src (rfl) (by decide) (by decide) (by decide) (by repeat constructor) fun b67 H86 st => ?_
 refine aLit st rfl (by repeat constructor) fun b68 H87 st => ?_
 refine aAppP st 2 (ob := some b67) rfl rfl rfl (by decide) (rfl) (st.rowAll 0 rfl (by first | rfl | (simp [beB_len, *]; done) | (simp [beB_len, *]; omega))).src (rfl) (by decide) (by decide) (by decide) (by repeat constructor) fun b69 H88 st => ?_
 refine zm ?_
 refine sE ?_
 show AWl _ _ _ _ _
 refine zb (.int .i64 2) ?_
 refine zm ?_
 refine sE ?_
 show AW _ _ _ _ _
 show AWl _ _ _ _ _
 refine zb (.bool false) ?_
 show AW _ (.cond _ _ _) _ _ _
 refine cF' rfl ?_
 show AWl _ _ _ _ _
 refine zm ?_
 refine zl st 3 ?_
 refine aN (v := .int .i64 1) rfl rfl (by constructor) ?_
 refine zm ?_
 refine sE ?_
 show AW _ (.loop _) _ _ _
 refine AW_fuel 2 ?_
 show AW _ _ _ _ _
 show AWl _ _ _ _ _
 refine zb (.bool true) ?_
 show AW _ (.cond _ _ _) _ _ _
 refine cT rfl ?_
 show AWl _ _ _ _ _
 refine aN (v := zP sg) rfl rfl (by constructor) ?_
 refine aLdA (xs := [.int .i64 (f : Int), .int .i64 (t : Int), .int .i64 (n : Int), .int .u64 (sr : Int), .int .u64 (ds : Int)]) st 5 rfl rfl (Nat.le_of_ble_eq_true rfl) (by repeat constructor) ?_
 refine zp st fun b10 H89 st => ?_
 refine zx st 0 fun H90 st => ?_
 refine sE ?_
 show AWl _ _ _ _ _
 refine zm ?_
 refine zl st 0 ?_
 refine aBinV (.bool false) rfl rfl (ltF (by omega)) ?_
 refine zm ?_
 refine zg ?_
 refine zm ?_
 refine zg ?_
 refine zl st 0 ?_
 refine zg ?_
 refine zm ?_
 refine zg ?_
 refine zl st 4 ?_
 refine zg ?_
 refine aN (v := .int .i64 2) rfl rfl (by constructor) ?_
 refine zg ?_
 refine aBinV (.bool false) rfl rfl (geF (by omega)) ?_
 iterate 2 refine zm ?_
 refine zg ?_
 refine zm ?_
 refine zg ?_
 refine zl st 0 ?_
 refine zg ?_
 refine aBinV (.bool false) rfl rfl (ltF (by omega)) ?_
 iterate 2 refine zm ?_
 refine zg ?_
 refine zm ?_
 refine zg ?_
 refine zl st 0 ?_
 refine zg ?_
 refine zm ?_
 refine zg ?_
 refine zl st 4 ?_
 refine zg ?_
 refine aN (v := .int .i64 2) rfl rfl (by constructor) ?_
 refine zg ?_
 refine aBinV (.bool false) rfl rfl (geF (by omega)) ?_
 iterate 2 refine zm ?_
 refine zg ?_
 refine zm ?_
 refine zg ?_
 refine zl st 0 ?_
 refine zg ?_
 refine aBinV (.bool false) rfl rfl (ltF (by omega)) ?_
 iterate 2 refine zm ?_
 refine zg ?_
 refine zm ?_
 refine zg ?_
 refine zl st 0 ?_
 refine zg ?_
 refine aBinV (.bool false) rfl rfl (gtF (by omega)) ?_
 refine zm ?_
 show AW _ (.cond _ _ _) _ _ _
 refine cF' rfl ?_
 show AWl _ _ _ _ _
 refine aNewS st rfl rfl (by repeat constructor) fun b112 H91 st => ?_
 refine zm ?_
 refine sE ?_
 show AWl _ _ _ _ _
 iterate 3 refine zm ?_
 refine zx st 0 fun H92 st => ?_
 refine zm ?_
 refine zx st 0 fun H93 st => ?_
 refine sE ?_
 show AWl _ _ _ _ _
 iterate 2 refine zm ?_
 refine zl st 1 ?_
 refine aConvV (n := (f : Int)) (n' := (f : Int)) rfl (by rw [w64]; omega) ?_
 refine aC (put_call (xs := [2, 0, 0, 24, 0, 0, 0, 0, 0, 0, 0, 0, 0, 0, 0, 0, 0, 0, 0, 0, 0, 0, 0, 0, 0, 0, 0, 0]) (at_ := 4) (n := 2) (v := (f : Int)) (st.rowAll 0 rfl (rfl)) (by simp only [byteL_cons, byteL_nil, and_true]; decide) (Nat.le_of_ble_eq_true rfl) (by refine ⟨by decide, by decide, by decide, ?_⟩; show (4 : Int) + 2 ≤ 28; decide) (by refine ⟨by omega, ?_⟩; rw [show (256 : Int) ^ Int.toNat 2 = 65536 by decide]; omega)) fun v122 H94 ⟨p122, hv, st1⟩ => ?_
 subst hv
 replace st := st.call st1 rfl
 clear st1
 have st := st.recell 0 rfl (cs' := ([2, 0, 0, 24, 0, (f : Int), 0, 0, 0, 0, 0, 0, 0, 0, 0, 0, 0, 0, 0, 0, 0, 0, 0, 0, 0, 0, 0, 0] : List Int).map (Value.int .u8)) (by rw [show beB (Int.toNat 2) ((f : Int)) = [0, (f : Int)] from beB2 (by omega)]; rfl)
 iterate 4 refine zm ?_
 refine sE ?_
 show AWl _ _ _ _ _
 iterate 2 refine zm ?_
 refine zl st 2 ?_
 refine aConvV (n := (t : Int)) (n' := (t : Int)) rfl (by rw [w64]; omega) ?_
 refine aC (put_call (xs := [2, 0, 0, 24, 0, (f : Int), 0, 0, 0, 0, 0, 0, 0, 0, 0, 0, 0, 0, 0, 0, 0, 0, 0, 0, 0, 0, 0, 0]) (at_ := 6) (n := 2) (v := (t : Int)) (st.rowAll 0 rfl (rfl)) (by simp only [byteL_cons, byteL_nil, and_true]; omega) (Nat.le_of_ble_eq_true rfl) (by refine ⟨by decide, by decide, by decide, ?_⟩; show (6 : Int) + 2 ≤ 28; decide) (by refine ⟨by omega, ?_⟩; rw [show (256 : Int) ^ Int.toNat 2 = 65536 by decide]; omega)) fun v130 H95 ⟨p130, hv, st1⟩ => ?_
 subst hv
 replace st := st.call st1 rfl
 clear st1
 have st := st.recell 0 rfl (cs' := ([2, 0, 0, 24, 0, (f : Int), 0, (t : Int), 0, 0, 0, 0, 0, 0, 0, 0, 0, 0, 0, 0, 0, 0, 0, 0, 0, 0, 0, 0] : List Int).map (Value.int .u8)) (by rw [show beB (Int.toNat 2) ((t : Int)) = [0, (t : Int)] from beB2 (by omega)]; rfl)
 iterate 4 refine zm ?_
 refine sE ?_
 show AWl _ _ _ _ _
 iterate 2 refine zm ?_
 refine zl st 3 ?_
 refine aConvV (n := (n : Int)) (n' := (n : Int)) rfl (by rw [w64]; omega) ?_
 refine aC (put_call (xs := [2, 0, 0, 24, 0, (f : Int), 0, (t : Int), 0, 0, 0, 0, 0, 0, 0, 0, 0, 0, 0, 0, 0, 0, 0, 0, 0, 0, 0, 0]) (at_ := 10) (n := 2) (v := (n : Int)) (st.rowAll 0 rfl (rfl)) (by simp only [byteL_cons, byteL_nil, and_true]; omega) (Nat.le_of_ble_eq_true rfl) (by refine ⟨by decide, by decide, by decide, ?_⟩; show (10 : Int) + 2 ≤ 28; decide) (by refine ⟨by omega, ?_⟩; rw [show (256 : Int) ^ Int.toNat 2 = 65536 by decide]; omega)) fun v138 H96 ⟨p138, hv, st1⟩ => ?_
 subst hv
 replace st := st.call st1 rfl
 clear st1
 have st := st.recell 0 rfl (cs' := ([2, 0, 0, 24, 0, (f : Int), 0, (t : Int), 0, 0, 0, (n : Int), 0, 0, 0, 0, 0, 0, 0, 0, 0, 0, 0, 0, 0, 0, 0, 0] : List Int).map (Value.int .u8)) (by rw [show beB (Int.toNat 2) ((n : Int)) = [0, (n : Int)] from beB2 (by omega)]; rfl)
 iterate 4 refine zm ?_
 refine sE ?_
 show AWl _ _ _ _ _
 iterate 2 refine zm ?_
 refine zl st 4 ?_
 refine aC (put_call (xs := [2, 0, 0, 24, 0, (f : Int), 0, (t : Int), 0, 0, 0, (n : Int), 0, 0, 0, 0, 0, 0, 0, 0, 0, 0, 0, 0, 0, 0, 0, 0]) (at_ := 12) (n := 8) (v := (sr : Int)) (st.rowAll 0 rfl (rfl)) (by simp only [byteL_cons, byteL_nil, and_true]; omega) (Nat.le_of_ble_eq_true rfl) (by refine ⟨by decide, by decide, by decide, ?_⟩; show (12 : Int) + 8 ≤ 28; decide) (by refine ⟨by omega, ?_⟩; rw [show (256 : Int) ^ Int.toNat 8 = 18446744073709551616 by decide]; omega)) fun v145 H97 ⟨p145, hv, st1⟩ => ?_
 subst hv
 replace st := st.call st1 rfl
 clear st1
 have st := st.recell 0 rfl (cs' := ([2, 0, 0, 24, 0, (f : Int), 0, (t : Int), 0, 0, 0, (n : Int), 0, 0, 0, 0, 0, 0, 0, (sr : Int), 0, 0, 0, 0, 0, 0, 0, 0] : List Int).map (Value.int .u8)) (by rw [show beB (Int.toNat 8) ((sr : Int)) = [0, 0, 0, 0, 0, 0, 0, (sr : Int)] from beB8 (by omega)]; rfl)
 iterate 4 refine zm ?_
 refine sE ?_
 show AWl _ _ _ _ _
 iterate 2 refine zm ?_
 refine zl st 5 ?_
 refine aC (put_call (xs := [2, 0, 0, 24, 0, (f : Int), 0, (t : Int), 0, 0, 0, (n : Int), 0, 0, 0, 0, 0, 0, 0, (sr : Int), 0, 0, 0, 0, 0, 0, 0, 0]) (at_ := 20) (n := 8) (v := (ds : Int)) (st.rowAll 0 rfl (rfl)) (by simp only [byteL_cons, byteL_nil, and_true]; omega) (Nat.le_of_ble_eq_true rfl) (by refine ⟨by decide, by decide, by decide, ?_⟩; show (20 : Int) + 8 ≤ 28; decide) (by refine ⟨by omega, ?_⟩; rw [show (256 : Int) ^ Int.toNat 8 = 18446744073709551616 by decide]; omega)) fun v152 H98 ⟨p152, hv, st1⟩ => ?_
 subst hv
 replace st := st.call st1 rfl
 clear st1
 have st := st.recell 0 rfl (cs' := ([2, 0, 0, 24, 0, (f : Int), 0, (t : Int), 0, 0, 0, (n : Int), 0, 0, 0, 0, 0, 0, 0, (sr : Int), 0, 0, 0, 0, 0, 0, 0, (ds : Int)] : List Int).map (Value.int .u8)) (by rw [show beB (Int.toNat 8) ((ds : Int)) = [0, 0, 0, 0, 0, 0, 0, (ds : Int)] from beB8 (by omega)]; rfl)
 iterate 4 refine zm ?_
 refine sE ?_
 show AWl _ _ _ _ _
 iterate 2 refine zm ?_
 refine aAppP st 9 (ob := some b69) rfl rfl rfl (by decide) (rfl) (st.rowAll 0 rfl (rfl)).src (rfl) (Nat.le_of_ble_eq_true rfl) (Nat.le_of_ble_eq_true rfl) (Nat.le_of_ble_eq_true rfl) (by repeat constructor) fun b157 H99 st => ?_
 refine zm ?_
 refine sE ?_
 show AWl _ _ _ _ _
 refine zb (.int .i64 1) ?_
 refine zm ?_
 refine sE ?_
 show AW _ _ _ _ _
 show AWl _ _ _ _ _
 refine zb (.bool false) ?_
 show AW _ (.cond _ _ _) _ _ _
 refine cF' rfl ?_
 show AWl _ _ _ _ _
 iterate 3 refine zm ?_
 refine sE ?_
 refine ⟨_, out2 zr zr ⟨rfl, rfl⟩, ?_⟩
 have st := st.recell 9 rfl (cs' := ([0, 0, 0, 64, 0, 0, 0, 0, 0, 0, 0, 28, 0, 0, 0, 0, 228, 0, 0, 0, 2, 1, 0, 20, 83, 48, 32, 32, 32, 32, 32, 32, 32, 32, 32, 32, 32, 32, 32, 32, 32, 32, 32, 32, 0, 0, 0, 16, 228, 0, 0, 0, 2, 1, 0, 20, 83, 49, 32, 32, 32, 32, 32, 32, 32, 32, 32, 32, 32, 32, 32, 32, 32, 32, 32, 32, 0, 0, 0, 16, 2, 0, 0, 24, 0, (f : Int), 0, (t : Int), 0, 0, 0, (n : Int), 0, 0, 0, 0, 0, 0, 0, (sr : Int), 0, 0, 0, 0, 0, 0, 0, (ds : Int)] : List Int).map (Value.int .u8)) rfl
 exact ⟨b157, rfl, st.sel [9] (by decide)⟩
end Go.Proofs.YtjmjkdelkaflmaaGreatDoor.Abs
