/- Two units that are peers. -/
import Derived.Test.YtjmjkdelkaflmaaGreatDoorXI
import Derived.Test.YtjmjkdelkaflmaaGreatDoorXT
import Derived.Test.YtjmjkdelkaflmaaGreatDoorT2
set_option linter.unusedVariables false
set_option linter.unusedSimpArgs false
set_option maxRecDepth 100000
namespace Go.Proofs.YtjmjkdelkaflmaaGreatDoor.Abs
open Go Go.RowKit
set_option maxHeartbeats 8000000 in
theorem pair_call {H : Hp} {w sb db : Nat} {wv : Value} {c : List (Value × Value)} {ops stop : Int} (st0 : Stt [w] H H [⟨some w, true, zW sb db wv ops stop⟩, ⟨some sb, false, ⟨true, .mp c, []⟩⟩]) (hx0 : Found c (((⟨#[97]⟩ ++ ⟨#[46, 112]⟩) ++ ⟨#[46]⟩) ++ ⟨#[48]⟩) none) (hx1 : Found c (((⟨#[97]⟩ ++ ⟨#[46, 112]⟩) ++ ⟨#[46]⟩) ++ ⟨#[49]⟩) none) (hy0 : Found c (((⟨#[98]⟩ ++ ⟨#[46, 112]⟩) ++ ⟨#[46]⟩) ++ ⟨#[48]⟩) none) (hy1 : Found c (((⟨#[98]⟩ ++ ⟨#[46, 112]⟩) ++ ⟨#[46]⟩) ++ ⟨#[49]⟩) none) (ho : 0 ≤ ops ∧ ops ≤ 800000000) (hs : stop < 0) :
  ACalls Tryz.prog 16 [zP w] H (fun v H' => ∃ ux dvx sx kx pgx tbx qx o0x o1x o2x o3x o4x o5x o6x o7x uy dvy sy ky pgy tby qy o0y o1y o2y o3y o4y o5y o6y o7y pex pey ctx cty, v = .agg #[zP ux, zP uy] ∧ Stt [w] H H' [⟨some w, true, zW sb db wv (ops + 2 + 2) stop⟩, ⟨some ux, true, zU ⟨#[83, 48]⟩ 0 dvx kx pgx tbx qx (.slice (some ⟨pex, 0, none⟩) 1 1) 1 0 ctx⟩, ⟨some dvx, true, zD sx 0⟩, ⟨some sx, true, zS w (⟨#[97]⟩ ++ ⟨#[46, 100]⟩) 16⟩, ⟨some kx, true, ⟨true, 178, [zP w, .string (⟨#[97]⟩ ++ ⟨#[46, 112]⟩), .bool true, .int .i64 (-1), .int .u64 0]⟩⟩, ⟨some pgx, true, zG⟩, ⟨some tbx, true, zT⟩, ⟨some qx, true, ⟨true, 154, [accV o0x 0 1, accV o1x 0 1, accV o2x 0 1, accV o3x 0 1, accV o4x 0 1, accV o5x 0 1, accV o6x 0 1, accV o7x 0 1]⟩⟩, ⟨o0x, true, ⟨true, 23, []⟩⟩, ⟨o1x, true, ⟨true, 23, []⟩⟩, ⟨o2x, true, ⟨true, 23, []⟩⟩, ⟨o3x, true, ⟨true, 23, []⟩⟩, ⟨o4x, true, ⟨true, 23, []⟩⟩, ⟨o5x, true, ⟨true, 23, []⟩⟩, ⟨o6x, true, ⟨true, 23, []⟩⟩, ⟨o7x, true, ⟨true, 23, []⟩⟩, ⟨some uy, true, zU ⟨#[83, 49]⟩ 1 dvy ky pgy tby qy (.slice (some ⟨pey, 0, none⟩) 1 1) 1 0 cty⟩, ⟨some dvy, true, zD sy 1⟩, ⟨some sy, true, zS w (⟨#[98]⟩ ++ ⟨#[46, 100]⟩) 16⟩, ⟨some ky, true, ⟨true, 178, [zP w, .string (⟨#[98]⟩ ++ ⟨#[46, 112]⟩), .bool true, .int .i64 (-1), .int .u64 0]⟩⟩, ⟨some pgy, true, zG⟩, ⟨some tby, true, zT⟩, ⟨some qy, true, ⟨true, 154, [accV o0y 0 1, accV o1y 0 1, accV o2y 0 1, accV o3y 0 1, accV o4y 0 1, accV o5y 0 1, accV o6y 0 1, accV o7y 0 1]⟩⟩, ⟨o0y, true, ⟨true, 23, []⟩⟩, ⟨o1y, true, ⟨true, 23, []⟩⟩, ⟨o2y, true, ⟨true, 23, []⟩⟩, ⟨o3y, true, ⟨true, 23, []⟩⟩, ⟨o4y, true, ⟨true, 23, []⟩⟩, ⟨o5y, true, ⟨true, 23, []⟩⟩, ⟨o6y, true, ⟨true, 23, []⟩⟩, ⟨o7y, true, ⟨true, 23, []⟩⟩, ⟨some pex, true, ⟨true, 27, [zP uy]⟩⟩, ⟨some pey, true, ⟨true, 27, [zP ux]⟩⟩]) := by
 refine acallsW Tryz.func16 f16_ok (Nat.le_of_ble_eq_true rfl) fun hw => ?_
 have st : Stt [w] H H [] := Stt.start hw
 replace st := st0
 unfold f16c
 refine zw ?_
 refine zp st fun b2 H1 st => ?_
 refine zw ?_
 refine zp st fun b3 H2 st => ?_
 refine zw ?_
 refine zm ?_
 refine sE ?_
 show AW _ (.loop _) _ _ _
 refine AW_fuel 3 ?_
 show AW _ _ _ _ _
 refine zw ?_
 refine zm ?_
 refine zb (.bool true) ?_
 show AW _ (.cond _ _ _) _ _ _
 refine cT rfl ?_
 show AWp _ _ _ _ _
 iterate 5 refine zm ?_
 refine aConvV (n := 0) (n' := 0) rfl (by decide) ?_
 refine ⟨?_, ?_⟩
 focus
  refine aLit st rfl (by repeat constructor) fun b14 H3 st => ?_
  refine ⟨trivial, ?_⟩
  refine zm ?_
  refine zl st 0 ?_
  refine ⟨?_, trivial⟩
  refine aLit st rfl (by repeat constructor) fun b18 H4 st => ?_
  refine ⟨⟨zh st 1, trivial⟩, ?_⟩
  refine zm ?_
  refine zl st 0 ?_
  refine aBld rfl (by repeat constructor) ?_
  refine aBld rfl (by repeat constructor) ?_
 rotate_left
 focus
  refine ⟨?_, trivial⟩
  refine aLit st rfl (by repeat constructor) fun b18 H89 st => ?_
  refine ⟨trivial, ?_⟩
  refine zm ?_
  refine zl st 0 ?_
  refine aBld rfl (by repeat constructor) ?_
  refine aBld rfl (by repeat constructor) ?_
  refine ⟨?_, trivial⟩
  refine aLit st rfl (by repeat constructor) fun b14 H90 st => ?_
  refine ⟨⟨zh st 1, trivial⟩, ?_⟩
  refine zm ?_
  refine zl st 0 ?_
 all_goals
  refine ⟨?_, trivial⟩
  refine aC (unew_all.2.1 (w := w) (nm := ⟨#[97]⟩) (nb := 16) (pr := 0) (by decide) (by decide) (by decide) (by decide) (by decide)) fun v26 H5 ⟨ux, dvx, sx, kx, pgx, tbx, qx, hv, st1⟩ => ?_
  subst hv
  replace st := st.call st1 rfl
  clear st1
  first | refine ⟨⟨zh st 7, trivial⟩, ?_⟩ | refine ⟨⟨zh st 8, trivial⟩, ?_⟩
  iterate 3 refine zm ?_
  refine aN (v := zP b3) rfl rfl (by constructor) ?_
  refine ⟨?_, trivial⟩
  refine zx st 9 fun H6 st => ?_
  refine ⟨trivial, ?_⟩
  refine zw ?_
  refine zm ?_
  refine zb (.int .i64 1) ?_
  refine zm ?_
  refine sE ?_
  show AW _ _ _ _ _
  refine zw ?_
  refine zm ?_
  refine zb (.bool true) ?_
  show AW _ (.cond _ _ _) _ _ _
  refine cT rfl ?_
  show AWp _ _ _ _ _
  iterate 5 refine zm ?_
  refine aConvV (n := 1) (n' := 1) rfl (by decide) ?_
  refine ⟨?_, ?_⟩
  focus
   refine aLit st rfl (by repeat constructor) fun b14 H7 st => ?_
   refine ⟨trivial, ?_⟩
   refine zm ?_
   refine zl st 0 ?_
   refine ⟨?_, trivial⟩
   refine aLit st rfl (by repeat constructor) fun b18 H8 st => ?_
   refine ⟨⟨zh st 1, trivial⟩, ?_⟩
   refine zm ?_
   refine zl st 0 ?_
   refine aBld rfl (by repeat constructor) ?_
   refine aBld rfl (by repeat constructor) ?_
  rotate_left
  focus
   refine ⟨?_, trivial⟩
   refine aLit st rfl (by repeat constructor) fun b18 H48 st => ?_
   refine ⟨trivial, ?_⟩
   refine zm ?_
   refine zl st 0 ?_
   refine aBld rfl (by repeat constructor) ?_
   refine aBld rfl (by repeat constructor) ?_
   refine ⟨?_, trivial⟩
   refine aLit st rfl (by repeat constructor) fun b14 H49 st => ?_
   refine ⟨⟨zh st 1, trivial⟩, ?_⟩
   refine zm ?_
   refine zl st 0 ?_
  all_goals
   refine ⟨?_, trivial⟩
   refine aC (unew_all.2.2 (w := w) (nm := ⟨#[98]⟩) (nb := 16) (pr := 1) (by decide) (by decide) (by decide) (by decide) (by decide)) fun v26 H9 ⟨uy, dvy, sy, ky, pgy, tby, qy, hv, st1⟩ => ?_
   subst hv
   replace st := st.call st1 rfl
   clear st1
   first | refine ⟨⟨zh st 7, trivial⟩, ?_⟩ | refine ⟨⟨zh st 8, trivial⟩, ?_⟩
   iterate 3 refine zm ?_
   refine aN (v := .pointer (some ⟨b3, 1, none⟩)) rfl rfl (by constructor) ?_
   refine ⟨?_, trivial⟩
   refine zx st 18 fun H10 st => ?_
   refine ⟨trivial, ?_⟩
   refine zw ?_
   refine zm ?_
   refine zb (.int .i64 2) ?_
   refine zm ?_
   refine sE ?_
   show AW _ _ _ _ _
   refine zw ?_
   refine zm ?_
   refine zb (.bool false) ?_
   refine zf ?_
   refine zw ?_
   refine zm ?_
   refine sE ?_
   show AW _ (.loop _) _ _ _
   refine AW_fuel 3 ?_
   show AW _ _ _ _ _
   refine zw ?_
   refine zm ?_
   refine zb (.bool true) ?_
   show AW _ (.cond _ _ _) _ _ _
   refine cT rfl ?_
   show AWp _ _ _ _ _
   refine zm ?_
   refine aN (v := zP b3) rfl rfl (by constructor) ?_
   refine zl st 18 ?_
   refine zm ?_
   refine zb (.int .i64 1) ?_
   refine aN (v := .pointer (some ⟨b3, 1, none⟩)) rfl rfl (by constructor) ?_
   refine zl st 18 ?_
   refine ⟨?_, trivial⟩
   refine aLit st rfl (by repeat constructor) fun b41 H11 st => ?_
   refine ⟨⟨zh st 19, trivial⟩, ?_⟩
   refine ⟨?_, trivial⟩
   refine aC (peers_call (zN st [10] [1, 0])) fun v42_0 H12 ⟨pex, hv, st1⟩ => ?_
   subst hv
   replace st := st.callT (ob := some ux) 10 rfl st1 rfl
   clear st1
   have st := (st.sel [0, 1, 3, 4, 5, 6, 7, 8, 9, 12, 13, 14, 15, 16, 17, 20, 21, 22, 23] (by decide)).nf (by repeat constructor)
   refine ⟨⟨zh st 15, trivial⟩, ?_⟩
   refine zw ?_
   refine zm ?_
   refine sE ?_
   show AW _ (.loop _) _ _ _
   refine AW_fuel 9 ?_
   show AW _ _ _ _ _
   refine zw ?_
   refine zm ?_
   refine zb (.bool true) ?_
   show AW _ (.cond _ _ _) _ _ _
   refine cT rfl ?_
   show AWp _ _ _ _ _
   refine zm ?_
   refine aN (v := zP b3) rfl rfl (by constructor) ?_
   refine zl st 15 ?_
   refine zm ?_
   refine ⟨?_, trivial⟩
   refine aNewS st rfl rfl (by repeat constructor) fun b51 H13 st => ?_
   refine ⟨⟨zh st 16, trivial⟩, ?_⟩
   refine ⟨?_, trivial⟩
   refine aC (do_first (st.takeW [18, 12, 15, 1] [19, 0] (by decide) (by intro p hp b hb; simp at hp; rcases hp with rfl | rfl | rfl | rfl <;> simp_all)) (by decide) hx0 hx1 (by omega) hs) fun v52 H14 ⟨o0x, b1x, b2x, b3x, b4x, b5x, b6x, b7x, ct0x, hv, st1⟩ => ?_
   subst hv
   replace st := st.call4 (o1 := some w) (o2 := some kx) (o3 := some qx) (o4 := some ux) 18 12 14 1 rfl rfl rfl rfl st1 rfl
   clear st1
   have st := (st.sel [0, 1, 2, 3, 4, 5, 6, 7, 8, 9, 10, 11, 13, 14, 15, 16, 17, 18, 19, 20, 21, 22, 23, 24, 25, 26, 27] (by decide)).nf (by repeat constructor)
   refine ⟨trivial, ?_⟩
   refine zw ?_
   refine zm ?_
   refine zb (.int .i64 1) ?_
   refine zm ?_
   refine sE ?_
   show AW _ _ _ _ _
   refine zw ?_
   refine zm ?_
   refine zb (.bool true) ?_
   show AW _ (.cond _ _ _) _ _ _
   refine cT rfl ?_
   show AWp _ _ _ _ _
   refine zm ?_
   refine aN (v := zP b3) rfl rfl (by constructor) ?_
   refine zl st 24 ?_
   refine zm ?_
   refine ⟨?_, trivial⟩
   refine aNewS st rfl rfl (by repeat constructor) fun b51 H15 st => ?_
   refine ⟨⟨zh st 25, trivial⟩, ?_⟩
   refine ⟨?_, trivial⟩
   refine aC (do_pend (n := 1) (qs := [accV o0x 0 1, .slice (some ⟨b1x, 0, none⟩) 1 1, .slice (some ⟨b2x, 0, none⟩) 1 1, .slice (some ⟨b3x, 0, none⟩) 1 1, .slice (some ⟨b4x, 0, none⟩) 1 1, .slice (some ⟨b5x, 0, none⟩) 1 1, .slice (some ⟨b6x, 0, none⟩) 1 1, .slice (some ⟨b7x, 0, none⟩) 1 1]) (zN st [3, 4] [0, 6]) rfl (by decide) rfl) fun v52 H16 ⟨o1x, ct1x, hv, st1⟩ => ?_
   subst hv
   replace st := st.call2 (o1 := some qx) (o2 := some ux) 3 3 rfl rfl st1 rfl
   clear st1
   have st := st.recell 0 rfl (cs' := [accV o0x 0 1, accV o1x 0 1, .slice (some ⟨b2x, 0, none⟩) 1 1, .slice (some ⟨b3x, 0, none⟩) 1 1, .slice (some ⟨b4x, 0, none⟩) 1 1, .slice (some ⟨b5x, 0, none⟩) 1 1, .slice (some ⟨b6x, 0, none⟩) 1 1, .slice (some ⟨b7x, 0, none⟩) 1 1]) rfl
   have st := (st.sel [0, 1, 2, 4, 5, 6, 8, 9, 10, 11, 12, 13, 14, 15, 16, 17, 18, 19, 20, 21, 22, 23, 24, 25, 26, 27, 28] (by decide)).nf (by repeat constructor)
   refine ⟨trivial, ?_⟩
   refine zw ?_
   refine zm ?_
   refine zb (.int .i64 2) ?_
   refine zm ?_
   refine sE ?_
   show AW _ _ _ _ _
   refine zw ?_
   refine zm ?_
   refine zb (.bool true) ?_
   show AW _ (.cond _ _ _) _ _ _
   refine cT rfl ?_
   show AWp _ _ _ _ _
   refine zm ?_
   refine aN (v := zP b3) rfl rfl (by constructor) ?_
   refine zl st 24 ?_
   refine zm ?_
   refine ⟨?_, trivial⟩
   refine aNewS st rfl rfl (by repeat constructor) fun b51 H17 st => ?_
   refine ⟨⟨zh st 25, trivial⟩, ?_⟩
   refine ⟨?_, trivial⟩
   refine aC (do_pend (n := 2) (qs := [accV o0x 0 1, accV o1x 0 1, .slice (some ⟨b2x, 0, none⟩) 1 1, .slice (some ⟨b3x, 0, none⟩) 1 1, .slice (some ⟨b4x, 0, none⟩) 1 1, .slice (some ⟨b5x, 0, none⟩) 1 1, .slice (some ⟨b6x, 0, none⟩) 1 1, .slice (some ⟨b7x, 0, none⟩) 1 1]) (zN st [1, 2] [0, 7]) rfl (by decide) rfl) fun v52 H18 ⟨o2x, ct2x, hv, st1⟩ => ?_
   subst hv
   replace st := st.call2 (o1 := some qx) (o2 := some ux) 1 1 rfl rfl st1 rfl
   clear st1
   have st := st.recell 0 rfl (cs' := [accV o0x 0 1, accV o1x 0 1, accV o2x 0 1, .slice (some ⟨b3x, 0, none⟩) 1 1, .slice (some ⟨b4x, 0, none⟩) 1 1, .slice (some ⟨b5x, 0, none⟩) 1 1, .slice (some ⟨b6x, 0, none⟩) 1 1, .slice (some ⟨b7x, 0, none⟩) 1 1]) rfl
   have st := (st.sel [0, 1, 2, 4, 5, 6, 7, 9, 10, 11, 12, 13, 14, 15, 16, 17, 18, 19, 20, 21, 22, 23, 24, 25, 26, 27, 28] (by decide)).nf (by repeat constructor)
   refine ⟨trivial, ?_⟩
   refine zw ?_
   refine zm ?_
   refine zb (.int .i64 3) ?_
   refine zm ?_
   refine sE ?_
   show AW _ _ _ _ _
   refine zw ?_
   refine zm ?_
   refine zb (.bool true) ?_
   show AW _ (.cond _ _ _) _ _ _
   refine cT rfl ?_
   show AWp _ _ _ _ _
   refine zm ?_
   refine aN (v := zP b3) rfl rfl (by constructor) ?_
   refine zl st 24 ?_
   refine zm ?_
   refine ⟨?_, trivial⟩
   refine aNewS st rfl rfl (by repeat constructor) fun b51 H19 st => ?_
   refine ⟨⟨zh st 25, trivial⟩, ?_⟩
   refine ⟨?_, trivial⟩
   refine aC (do_pend (n := 3) (qs := [accV o0x 0 1, accV o1x 0 1, accV o2x 0 1, .slice (some ⟨b3x, 0, none⟩) 1 1, .slice (some ⟨b4x, 0, none⟩) 1 1, .slice (some ⟨b5x, 0, none⟩) 1 1, .slice (some ⟨b6x, 0, none⟩) 1 1, .slice (some ⟨b7x, 0, none⟩) 1 1]) (zN st [1, 2] [0, 8]) rfl (by decide) rfl) fun v52 H20 ⟨o3x, ct3x, hv, st1⟩ => ?_
   subst hv
   replace st := st.call2 (o1 := some qx) (o2 := some ux) 1 1 rfl rfl st1 rfl
   clear st1
   have st := st.recell 0 rfl (cs' := [accV o0x 0 1, accV o1x 0 1, accV o2x 0 1, accV o3x 0 1, .slice (some ⟨b4x, 0, none⟩) 1 1, .slice (some ⟨b5x, 0, none⟩) 1 1, .slice (some ⟨b6x, 0, none⟩) 1 1, .slice (some ⟨b7x, 0, none⟩) 1 1]) rfl
   have st := (st.sel [0, 1, 2, 4, 5, 6, 7, 8, 10, 11, 12, 13, 14, 15, 16, 17, 18, 19, 20, 21, 22, 23, 24, 25, 26, 27, 28] (by decide)).nf (by repeat constructor)
   refine ⟨trivial, ?_⟩
   refine zw ?_
   refine zm ?_
   refine zb (.int .i64 4) ?_
   refine zm ?_
   refine sE ?_
   show AW _ _ _ _ _
   refine zw ?_
   refine zm ?_
   refine zb (.bool true) ?_
   show AW _ (.cond _ _ _) _ _ _
   refine cT rfl ?_
   show AWp _ _ _ _ _
   refine zm ?_
   refine aN (v := zP b3) rfl rfl (by constructor) ?_
   refine zl st 24 ?_
   refine zm ?_
   refine ⟨?_, trivial⟩
   refine aNewS st rfl rfl (by repeat constructor) fun b51 H21 st => ?_
   refine ⟨⟨zh st 25, trivial⟩, ?_⟩
   refine ⟨?_, trivial⟩
   refine aC (do_pend (n := 4) (qs := [accV o0x 0 1, accV o1x 0 1, accV o2x 0 1, accV o3x 0 1, .slice (some ⟨b4x, 0, none⟩) 1 1, .slice (some ⟨b5x, 0, none⟩) 1 1, .slice (some ⟨b6x, 0, none⟩) 1 1, .slice (some ⟨b7x, 0, none⟩) 1 1]) (zN st [1, 2] [0, 9]) rfl (by decide) rfl) fun v52 H22 ⟨o4x, ct4x, hv, st1⟩ => ?_
   subst hv
   replace st := st.call2 (o1 := some qx) (o2 := some ux) 1 1 rfl rfl st1 rfl
   clear st1
   have st := st.recell 0 rfl (cs' := [accV o0x 0 1, accV o1x 0 1, accV o2x 0 1, accV o3x 0 1, accV o4x 0 1, .slice (some ⟨b5x, 0, none⟩) 1 1, .slice (some ⟨b6x, 0, none⟩) 1 1, .slice (some ⟨b7x, 0, none⟩) 1 1]) rfl
   have st := (st.sel [0, 1, 2, 4, 5, 6, 7, 8, 9, 11, 12, 13, 14, 15, 16, 17, 18, 19, 20, 21, 22, 23, 24, 25, 26, 27, 28] (by decide)).nf (by repeat constructor)
   refine ⟨trivial, ?_⟩
   refine zw ?_
   refine zm ?_
   refine zb (.int .i64 5) ?_
   refine zm ?_
   refine sE ?_
   show AW _ _ _ _ _
   refine zw ?_
   refine zm ?_
   refine zb (.bool true) ?_
   show AW _ (.cond _ _ _) _ _ _
   refine cT rfl ?_
   show AWp _ _ _ _ _
   refine zm ?_
   refine aN (v := zP b3) rfl rfl (by constructor) ?_
   refine zl st 24 ?_
   refine zm ?_
   refine ⟨?_, trivial⟩
   refine aNewS st rfl rfl (by repeat constructor) fun b51 H23 st => ?_
   refine ⟨⟨zh st 25, trivial⟩, ?_⟩
   refine ⟨?_, trivial⟩
   refine aC (do_pend (n := 5) (qs := [accV o0x 0 1, accV o1x 0 1, accV o2x 0 1, accV o3x 0 1, accV o4x 0 1, .slice (some ⟨b5x, 0, none⟩) 1 1, .slice (some ⟨b6x, 0, none⟩) 1 1, .slice (some ⟨b7x, 0, none⟩) 1 1]) (zN st [1, 2] [0, 10]) rfl (by decide) rfl) fun v52 H24 ⟨o5x, ct5x, hv, st1⟩ => ?_
   subst hv
   replace st := st.call2 (o1 := some qx) (o2 := some ux) 1 1 rfl rfl st1 rfl
   clear st1
   have st := st.recell 0 rfl (cs' := [accV o0x 0 1, accV o1x 0 1, accV o2x 0 1, accV o3x 0 1, accV o4x 0 1, accV o5x 0 1, .slice (some ⟨b6x, 0, none⟩) 1 1, .slice (some ⟨b7x, 0, none⟩) 1 1]) rfl
   have st := (st.sel [0, 1, 2, 4, 5, 6, 7, 8, 9, 10, 12, 13, 14, 15, 16, 17, 18, 19, 20, 21, 22, 23, 24, 25, 26, 27, 28] (by decide)).nf (by repeat constructor)
   refine ⟨trivial, ?_⟩
   refine zw ?_
   refine zm ?_
   refine zb (.int .i64 6) ?_
   refine zm ?_
   refine sE ?_
   show AW _ _ _ _ _
   refine zw ?_
   refine zm ?_
   refine zb (.bool true) ?_
   show AW _ (.cond _ _ _) _ _ _
   refine cT rfl ?_
   show AWp _ _ _ _ _
   refine zm ?_
   refine aN (v := zP b3) rfl rfl (by constructor) ?_
   refine zl st 24 ?_
   refine zm ?_
   refine ⟨?_, trivial⟩
   refine aNewS st rfl rfl (by repeat constructor) fun b51 H25 st => ?_
   refine ⟨⟨zh st 25, trivial⟩, ?_⟩
   refine ⟨?_, trivial⟩
   refine aC (do_pend (n := 6) (qs := [accV o0x 0 1, accV o1x 0 1, accV o2x 0 1, accV o3x 0 1, accV o4x 0 1, accV o5x 0 1, .slice (some ⟨b6x, 0, none⟩) 1 1, .slice (some ⟨b7x, 0, none⟩) 1 1]) (zN st [1, 2] [0, 11]) rfl (by decide) rfl) fun v52 H26 ⟨o6x, ct6x, hv, st1⟩ => ?_
   subst hv
   replace st := st.call2 (o1 := some qx) (o2 := some ux) 1 1 rfl rfl st1 rfl
   clear st1
   have st := st.recell 0 rfl (cs' := [accV o0x 0 1, accV o1x 0 1, accV o2x 0 1, accV o3x 0 1, accV o4x 0 1, accV o5x 0 1, accV o6x 0 1, .slice (some ⟨b7x, 0, none⟩) 1 1]) rfl
   have st := (st.sel [0, 1, 2, 4, 5, 6, 7, 8, 9, 10, 11, 13, 14, 15, 16, 17, 18, 19, 20, 21, 22, 23, 24, 25, 26, 27, 28] (by decide)).nf (by repeat constructor)
   refine ⟨trivial, ?_⟩
   refine zw ?_
   refine zm ?_
   refine zb (.int .i64 7) ?_
   refine zm ?_
   refine sE ?_
   show AW _ _ _ _ _
   refine zw ?_
   refine zm ?_
   refine zb (.bool true) ?_
   show AW _ (.cond _ _ _) _ _ _
   refine cT rfl ?_
   show AWp _ _ _ _ _
   refine zm ?_
   refine aN (v := zP b3) rfl rfl (by constructor) ?_
   refine zl st 24 ?_
   refine zm ?_
   refine ⟨?_, trivial⟩
   refine aNewS st rfl rfl (by repeat constructor) fun b51 H27 st => ?_
   refine ⟨⟨zh st 25, trivial⟩, ?_⟩
   refine ⟨?_, trivial⟩
   refine aC (do_pend (n := 7) (qs := [accV o0x 0 1, accV o1x 0 1, accV o2x 0 1, accV o3x 0 1, accV o4x 0 1, accV o5x 0 1, accV o6x 0 1, .slice (some ⟨b7x, 0, none⟩) 1 1]) (zN st [1, 2] [0, 12]) rfl (by decide) rfl) fun v52 H28 ⟨o7x, ct7x, hv, st1⟩ => ?_
   subst hv
   replace st := st.call2 (o1 := some qx) (o2 := some ux) 1 1 rfl rfl st1 rfl
   clear st1
   have st := st.recell 0 rfl (cs' := [accV o0x 0 1, accV o1x 0 1, accV o2x 0 1, accV o3x 0 1, accV o4x 0 1, accV o5x 0 1, accV o6x 0 1, accV o7x 0 1]) rfl
   have st := (st.sel [0, 1, 2, 4, 5, 6, 7, 8, 9, 10, 11, 12, 14, 15, 16, 17, 18, 19, 20, 21, 22, 23, 24, 25, 26, 27, 28] (by decide)).nf (by repeat constructor)
   refine ⟨trivial, ?_⟩
   refine zw ?_
   refine zm ?_
   refine zb (.int .i64 8) ?_
   refine zm ?_
   refine sE ?_
   show AW _ _ _ _ _
   refine zw ?_
   refine zm ?_
   refine zb (.bool false) ?_
   refine zf ?_
   refine zw ?_
   refine zm ?_
   refine zb (.int .i64 1) ?_
   refine zm ?_
   refine sE ?_
   show AW _ _ _ _ _
   refine zw ?_
   refine zm ?_
   refine zb (.bool true) ?_
   show AW _ (.cond _ _ _) _ _ _
   refine cT rfl ?_
   show AWp _ _ _ _ _
   refine zm ?_
   refine aN (v := .pointer (some ⟨b3, 1, none⟩)) rfl rfl (by constructor) ?_
   refine zl st 24 ?_
   refine zm ?_
   refine zb (.int .i64 0) ?_
   refine aN (v := zP b3) rfl rfl (by constructor) ?_
   refine zl st 24 ?_
   refine ⟨?_, trivial⟩
   refine aLit st rfl (by repeat constructor) fun b41 H29 st => ?_
   refine ⟨⟨zh st 25, trivial⟩, ?_⟩
   refine ⟨?_, trivial⟩
   refine aC (peers_call (zN st [14] [2, 0])) fun v42_1 H30 ⟨pey, hv, st1⟩ => ?_
   subst hv
   replace st := st.callT (ob := some uy) 14 rfl st1 rfl
   clear st1
   have st := (st.sel [0, 1, 3, 4, 5, 6, 7, 8, 9, 10, 11, 12, 13, 14, 15, 16, 17, 18, 19, 20, 21, 22, 23, 24, 25, 26, 27, 28] (by decide)).nf (by repeat constructor)
   refine ⟨⟨zh st 25, trivial⟩, ?_⟩
   refine zw ?_
   refine zm ?_
   refine sE ?_
   show AW _ (.loop _) _ _ _
   refine AW_fuel 9 ?_
   show AW _ _ _ _ _
   refine zw ?_
   refine zm ?_
   refine zb (.bool true) ?_
   show AW _ (.cond _ _ _) _ _ _
   refine cT rfl ?_
   show AWp _ _ _ _ _
   refine zm ?_
   refine aN (v := .pointer (some ⟨b3, 1, none⟩)) rfl rfl (by constructor) ?_
   refine zl st 25 ?_
   refine zm ?_
   refine ⟨?_, trivial⟩
   refine aNewS st rfl rfl (by repeat constructor) fun b51 H31 st => ?_
   refine ⟨⟨zh st 26, trivial⟩, ?_⟩
   refine ⟨?_, trivial⟩
   refine aC (do_first (st.takeW [12, 18, 21, 1] [28, 0] (by decide) (by intro p hp b hb; simp at hp; rcases hp with rfl | rfl | rfl | rfl <;> simp_all)) (by decide) hy0 hy1 (by omega) hs) fun v52 H32 ⟨o0y, b1y, b2y, b3y, b4y, b5y, b6y, b7y, ct0y, hv, st1⟩ => ?_
   subst hv
   replace st := st.call4 (o1 := some w) (o2 := some ky) (o3 := some qy) (o4 := some uy) 12 17 19 1 rfl rfl rfl rfl st1 rfl
   clear st1
   have st := (st.sel [0, 1, 2, 3, 4, 5, 6, 7, 8, 9, 10, 11, 13, 14, 15, 16, 17, 18, 19, 20, 21, 22, 23, 24, 25, 26, 27, 28, 29, 30, 31, 32, 33, 34, 35, 36] (by decide)).nf (by repeat constructor)
   refine ⟨trivial, ?_⟩
   refine zw ?_
   refine zm ?_
   refine zb (.int .i64 1) ?_
   refine zm ?_
   refine sE ?_
   show AW _ _ _ _ _
   refine zw ?_
   refine zm ?_
   refine zb (.bool true) ?_
   show AW _ (.cond _ _ _) _ _ _
   refine cT rfl ?_
   show AWp _ _ _ _ _
   refine zm ?_
   refine aN (v := .pointer (some ⟨b3, 1, none⟩)) rfl rfl (by constructor) ?_
   refine zl st 33 ?_
   refine zm ?_
   refine ⟨?_, trivial⟩
   refine aNewS st rfl rfl (by repeat constructor) fun b51 H33 st => ?_
   refine ⟨⟨zh st 34, trivial⟩, ?_⟩
   refine ⟨?_, trivial⟩
   refine aC (do_pend (n := 1) (qs := [accV o0y 0 1, .slice (some ⟨b1y, 0, none⟩) 1 1, .slice (some ⟨b2y, 0, none⟩) 1 1, .slice (some ⟨b3y, 0, none⟩) 1 1, .slice (some ⟨b4y, 0, none⟩) 1 1, .slice (some ⟨b5y, 0, none⟩) 1 1, .slice (some ⟨b6y, 0, none⟩) 1 1, .slice (some ⟨b7y, 0, none⟩) 1 1]) (zN st [3, 4] [0, 6]) rfl (by decide) rfl) fun v52 H34 ⟨o1y, ct1y, hv, st1⟩ => ?_
   subst hv
   replace st := st.call2 (o1 := some qy) (o2 := some uy) 3 3 rfl rfl st1 rfl
   clear st1
   have st := st.recell 0 rfl (cs' := [accV o0y 0 1, accV o1y 0 1, .slice (some ⟨b2y, 0, none⟩) 1 1, .slice (some ⟨b3y, 0, none⟩) 1 1, .slice (some ⟨b4y, 0, none⟩) 1 1, .slice (some ⟨b5y, 0, none⟩) 1 1, .slice (some ⟨b6y, 0, none⟩) 1 1, .slice (some ⟨b7y, 0, none⟩) 1 1]) rfl
   have st := (st.sel [0, 1, 2, 4, 5, 6, 8, 9, 10, 11, 12, 13, 14, 15, 16, 17, 18, 19, 20, 21, 22, 23, 24, 25, 26, 27, 28, 29, 30, 31, 32, 33, 34, 35, 36, 37] (by decide)).nf (by repeat constructor)
   refine ⟨trivial, ?_⟩
   refine zw ?_
   refine zm ?_
   refine zb (.int .i64 2) ?_
   refine zm ?_
   refine sE ?_
   show AW _ _ _ _ _
   refine zw ?_
   refine zm ?_
   refine zb (.bool true) ?_
   show AW _ (.cond _ _ _) _ _ _
   refine cT rfl ?_
   show AWp _ _ _ _ _
   refine zm ?_
   refine aN (v := .pointer (some ⟨b3, 1, none⟩)) rfl rfl (by constructor) ?_
   refine zl st 33 ?_
   refine zm ?_
   refine ⟨?_, trivial⟩
   refine aNewS st rfl rfl (by repeat constructor) fun b51 H35 st => ?_
   refine ⟨⟨zh st 34, trivial⟩, ?_⟩
   refine ⟨?_, trivial⟩
   refine aC (do_pend (n := 2) (qs := [accV o0y 0 1, accV o1y 0 1, .slice (some ⟨b2y, 0, none⟩) 1 1, .slice (some ⟨b3y, 0, none⟩) 1 1, .slice (some ⟨b4y, 0, none⟩) 1 1, .slice (some ⟨b5y, 0, none⟩) 1 1, .slice (some ⟨b6y, 0, none⟩) 1 1, .slice (some ⟨b7y, 0, none⟩) 1 1]) (zN st [1, 2] [0, 7]) rfl (by decide) rfl) fun v52 H36 ⟨o2y, ct2y, hv, st1⟩ => ?_
   subst hv
   replace st := st.call2 (o1 := some qy) (o2 := some uy) 1 1 rfl rfl st1 rfl
   clear st1
   have st := st.recell 0 rfl (cs' := [accV o0y 0 1, accV o1y 0 1, accV o2y 0 1, .slice (some ⟨b3y, 0, none⟩) 1 1, .slice (some ⟨b4y, 0, none⟩) 1 1, .slice (some ⟨b5y, 0, none⟩) 1 1, .slice (some ⟨b6y, 0, none⟩) 1 1, .slice (some ⟨b7y, 0, none⟩) 1 1]) rfl
   have st := (st.sel [0, 1, 2, 4, 5, 6, 7, 9, 10, 11, 12, 13, 14, 15, 16, 17, 18, 19, 20, 21, 22, 23, 24, 25, 26, 27, 28, 29, 30, 31, 32, 33, 34, 35, 36, 37] (by decide)).nf (by repeat constructor)
   refine ⟨trivial, ?_⟩
   refine zw ?_
   refine zm ?_
   refine zb (.int .i64 3) ?_
   refine zm ?_
   refine sE ?_
   show AW _ _ _ _ _
   refine zw ?_
   refine zm ?_
   refine zb (.bool true) ?_
   show AW _ (.cond _ _ _) _ _ _
   refine cT rfl ?_
   show AWp _ _ _ _ _
   refine zm ?_
   refine aN (v := .pointer (some ⟨b3, 1, none⟩)) rfl rfl (by constructor) ?_
   refine zl st 33 ?_
   refine zm ?_
   refine ⟨?_, trivial⟩
   refine aNewS st rfl rfl (by repeat constructor) fun b51 H37 st => ?_
   refine ⟨⟨zh st 34, trivial⟩, ?_⟩
   refine ⟨?_, trivial⟩
   refine aC (do_pend (n := 3) (qs := [accV o0y 0 1, accV o1y 0 1, accV o2y 0 1, .slice (some ⟨b3y, 0, none⟩) 1 1, .slice (some ⟨b4y, 0, none⟩) 1 1, .slice (some ⟨b5y, 0, none⟩) 1 1, .slice (some ⟨b6y, 0, none⟩) 1 1, .slice (some ⟨b7y, 0, none⟩) 1 1]) (zN st [1, 2] [0, 8]) rfl (by decide) rfl) fun v52 H38 ⟨o3y, ct3y, hv, st1⟩ => ?_
   subst hv
   replace st := st.call2 (o1 := some qy) (o2 := some uy) 1 1 rfl rfl st1 rfl
   clear st1
   have st := st.recell 0 rfl (cs' := [accV o0y 0 1, accV o1y 0 1, accV o2y 0 1, accV o3y 0 1, .slice (some ⟨b4y, 0, none⟩) 1 1, .slice (some ⟨b5y, 0, none⟩) 1 1, .slice (some ⟨b6y, 0, none⟩) 1 1, .slice (some ⟨b7y, 0, none⟩) 1 1]) rfl
   have st := (st.sel [0, 1, 2, 4, 5, 6, 7, 8, 10, 11, 12, 13, 14, 15, 16, 17, 18, 19, 20, 21, 22, 23, 24, 25, 26, 27, 28, 29, 30, 31, 32, 33, 34, 35, 36, 37] (by decide)).nf (by repeat constructor)
   refine ⟨trivial, ?_⟩
   refine zw ?_
   refine zm ?_
   refine zb (.int .i64 4) ?_
   refine zm ?_
   refine sE ?_
   show AW _ _ _ _ _
   refine zw ?_
   refine zm ?_
   refine zb (.bool true) ?_
   show AW _ (.cond _ _ _) _ _ _
   refine cT rfl ?_
   show AWp _ _ _ _ _
   refine zm ?_
   refine aN (v := .pointer (some ⟨b3, 1, none⟩)) rfl rfl (by constructor) ?_
   refine zl st 33 ?_
   refine zm ?_
   refine ⟨?_, trivial⟩
   refine aNewS st rfl rfl (by repeat constructor) fun b51 H39 st => ?_
   refine ⟨⟨zh st 34, trivial⟩, ?_⟩
   refine ⟨?_, trivial⟩
   refine aC (do_pend (n := 4) (qs := [accV o0y 0 1, accV o1y 0 1, accV o2y 0 1, accV o3y 0 1, .slice (some ⟨b4y, 0, none⟩) 1 1, .slice (some ⟨b5y, 0, none⟩) 1 1, .slice (some ⟨b6y, 0, none⟩) 1 1, .slice (some ⟨b7y, 0, none⟩) 1 1]) (zN st [1, 2] [0, 9]) rfl (by decide) rfl) fun v52 H40 ⟨o4y, ct4y, hv, st1⟩ => ?_
   subst hv
   replace st := st.call2 (o1 := some qy) (o2 := some uy) 1 1 rfl rfl st1 rfl
   clear st1
   have st := st.recell 0 rfl (cs' := [accV o0y 0 1, accV o1y 0 1, accV o2y 0 1, accV o3y 0 1, accV o4y 0 1, .slice (some ⟨b5y, 0, none⟩) 1 1, .slice (some ⟨b6y, 0, none⟩) 1 1, .slice (some ⟨b7y, 0, none⟩) 1 1]) rfl
   have st := (st.sel [0, 1, 2, 4, 5, 6, 7, 8, 9, 11, 12, 13, 14, 15, 16, 17, 18, 19, 20, 21, 22, 23, 24, 25, 26, 27, 28, 29, 30, 31, 32, 33, 34, 35, 36, 37] (by decide)).nf (by repeat constructor)
   refine ⟨trivial, ?_⟩
   refine zw ?_
   refine zm ?_
   refine zb (.int .i64 5) ?_
   refine zm ?_
   refine sE ?_
   show AW _ _ _ _ _
   refine zw ?_
   refine zm ?_
   refine zb (.bool true) ?_
   show AW _ (.cond _ _ _) _ _ _
   refine cT rfl ?_
   show AWp _ _ _ _ _
   refine zm ?_
   refine aN (v := .pointer (some ⟨b3, 1, none⟩)) rfl rfl (by constructor) ?_
   refine zl st 33 ?_
   refine zm ?_
   refine ⟨?_, trivial⟩
   refine aNewS st rfl rfl (by repeat constructor) fun b51 H41 st => ?_
   refine ⟨⟨zh st 34, trivial⟩, ?_⟩
   refine ⟨?_, trivial⟩
   refine aC (do_pend (n := 5) (qs := [accV o0y 0 1, accV o1y 0 1, accV o2y 0 1, accV o3y 0 1, accV o4y 0 1, .slice (some ⟨b5y, 0, none⟩) 1 1, .slice (some ⟨b6y, 0, none⟩) 1 1, .slice (some ⟨b7y, 0, none⟩) 1 1]) (zN st [1, 2] [0, 10]) rfl (by decide) rfl) fun v52 H42 ⟨o5y, ct5y, hv, st1⟩ => ?_
   subst hv
   replace st := st.call2 (o1 := some qy) (o2 := some uy) 1 1 rfl rfl st1 rfl
   clear st1
   have st := st.recell 0 rfl (cs' := [accV o0y 0 1, accV o1y 0 1, accV o2y 0 1, accV o3y 0 1, accV o4y 0 1, accV o5y 0 1, .slice (some ⟨b6y, 0, none⟩) 1 1, .slice (some ⟨b7y, 0, none⟩) 1 1]) rfl
   have st := (st.sel [0, 1, 2, 4, 5, 6, 7, 8, 9, 10, 12, 13, 14, 15, 16, 17, 18, 19, 20, 21, 22, 23, 24, 25, 26, 27, 28, 29, 30, 31, 32, 33, 34, 35, 36, 37] (by decide)).nf (by repeat constructor)
   refine ⟨trivial, ?_⟩
   refine zw ?_
   refine zm ?_
   refine zb (.int .i64 6) ?_
   refine zm ?_
   refine sE ?_
   show AW _ _ _ _ _
   refine zw ?_
   refine zm ?_
   refine zb (.bool true) ?_
   show AW _ (.cond _ _ _) _ _ _
   refine cT rfl ?_
   show AWp _ _ _ _ _
   refine zm ?_
   refine aN (v := .pointer (some ⟨b3, 1, none⟩)) rfl rfl (by constructor) ?_
   refine zl st 33 ?_
   refine zm ?_
   refine ⟨?_, trivial⟩
   refine aNewS st rfl rfl (by repeat constructor) fun b51 H43 st => ?_
   refine ⟨⟨zh st 34, trivial⟩, ?_⟩
   refine ⟨?_, trivial⟩
   refine aC (do_pend (n := 6) (qs := [accV o0y 0 1, accV o1y 0 1, accV o2y 0 1, accV o3y 0 1, accV o4y 0 1, accV o5y 0 1, .slice (some ⟨b6y, 0, none⟩) 1 1, .slice (some ⟨b7y, 0, none⟩) 1 1]) (zN st [1, 2] [0, 11]) rfl (by decide) rfl) fun v52 H44 ⟨o6y, ct6y, hv, st1⟩ => ?_
   subst hv
   replace st := st.call2 (o1 := some qy) (o2 := some uy) 1 1 rfl rfl st1 rfl
   clear st1
   have st := st.recell 0 rfl (cs' := [accV o0y 0 1, accV o1y 0 1, accV o2y 0 1, accV o3y 0 1, accV o4y 0 1, accV o5y 0 1, accV o6y 0 1, .slice (some ⟨b7y, 0, none⟩) 1 1]) rfl
   have st := (st.sel [0, 1, 2, 4, 5, 6, 7, 8, 9, 10, 11, 13, 14, 15, 16, 17, 18, 19, 20, 21, 22, 23, 24, 25, 26, 27, 28, 29, 30, 31, 32, 33, 34, 35, 36, 37] (by decide)).nf (by repeat constructor)
   refine ⟨trivial, ?_⟩
   refine zw ?_
   refine zm ?_
   refine zb (.int .i64 7) ?_
   refine zm ?_
   refine sE ?_
   show AW _ _ _ _ _
   refine zw ?_
   refine zm ?_
   refine zb (.bool true) ?_
   show AW _ (.cond _ _ _) _ _ _
   refine cT rfl ?_
   show AWp _ _ _ _ _
   refine zm ?_
   refine aN (v := .pointer (some ⟨b3, 1, none⟩)) rfl rfl (by constructor) ?_
   refine zl st 33 ?_
   refine zm ?_
   refine ⟨?_, trivial⟩
   refine aNewS st rfl rfl (by repeat constructor) fun b51 H45 st => ?_
   refine ⟨⟨zh st 34, trivial⟩, ?_⟩
   refine ⟨?_, trivial⟩
   refine aC (do_pend (n := 7) (qs := [accV o0y 0 1, accV o1y 0 1, accV o2y 0 1, accV o3y 0 1, accV o4y 0 1, accV o5y 0 1, accV o6y 0 1, .slice (some ⟨b7y, 0, none⟩) 1 1]) (zN st [1, 2] [0, 12]) rfl (by decide) rfl) fun v52 H46 ⟨o7y, ct7y, hv, st1⟩ => ?_
   subst hv
   replace st := st.call2 (o1 := some qy) (o2 := some uy) 1 1 rfl rfl st1 rfl
   clear st1
   have st := st.recell 0 rfl (cs' := [accV o0y 0 1, accV o1y 0 1, accV o2y 0 1, accV o3y 0 1, accV o4y 0 1, accV o5y 0 1, accV o6y 0 1, accV o7y 0 1]) rfl
   have st := (st.sel [0, 1, 2, 4, 5, 6, 7, 8, 9, 10, 11, 12, 14, 15, 16, 17, 18, 19, 20, 21, 22, 23, 24, 25, 26, 27, 28, 29, 30, 31, 32, 33, 34, 35, 36, 37] (by decide)).nf (by repeat constructor)
   refine ⟨trivial, ?_⟩
   refine zw ?_
   refine zm ?_
   refine zb (.int .i64 8) ?_
   refine zm ?_
   refine sE ?_
   show AW _ _ _ _ _
   refine zw ?_
   refine zm ?_
   refine zb (.bool false) ?_
   refine zf ?_
   refine zw ?_
   refine zm ?_
   refine zb (.int .i64 2) ?_
   refine zm ?_
   refine sE ?_
   show AW _ _ _ _ _
   refine zw ?_
   refine zm ?_
   refine zb (.bool false) ?_
   refine zf ?_
   refine zw ?_
   refine aLdA st 33 rfl rfl (by first | decide | simp [*]) (by repeat constructor) ?_
   refine zx st 34 fun H47 st => ?_
   refine sE ?_
   refine ⟨_, out1 (zc st 34), ?_⟩
   exact ⟨ux, dvx, sx, kx, pgx, tbx, qx, o0x, o1x, o2x, o3x, o4x, o5x, o6x, o7x, uy, dvy, sy, ky, pgy, tby, qy, o0y, o1y, o2y, o3y, o4y, o5y, o6y, o7y, pex, pey, _, _, rfl, st.sel [9, 14, 29, 30, 22, 31, 32, 13, 23, 21, 20, 19, 18, 17, 16, 15, 1, 25, 26, 10, 27, 28, 0, 11, 8, 7, 6, 5, 4, 3, 2, 24, 12] (by decide)⟩
end Go.Proofs.YtjmjkdelkaflmaaGreatDoor.Abs
