/- A unit over a world. -/
import Derived.Test.YtjmjkdelkaflmaaGreatDoorXI
import Derived.Test.YtjmjkdelkaflmaaGreatDoorXT
set_option linter.unusedVariables false
set_option linter.unusedSimpArgs false
set_option maxRecDepth 100000
namespace Go.Proofs.YtjmjkdelkaflmaaGreatDoor.Abs
open Go Go.RowKit
set_option maxHeartbeats 4000000 in
theorem whole_call {H : Hp} {w sb db : Nat} {wv : Value} {c : List (Value × Value)} {ops stop pr : Int} (st0 : Stt [w] H H [⟨some w, true, zW sb db wv ops stop⟩, ⟨some sb, false, ⟨true, .mp c, []⟩⟩]) (hpr : pr ≤ 3) (hf0 : Found c (((⟨#[117]⟩ ++ ⟨#[46, 112]⟩) ++ ⟨#[46]⟩) ++ ⟨#[48]⟩) none) (hf1 : Found c (((⟨#[117]⟩ ++ ⟨#[46, 112]⟩) ++ ⟨#[46]⟩) ++ ⟨#[49]⟩) none) (ho : 0 ≤ ops ∧ ops ≤ 900000000) (hs : stop < 0) :
  ACalls Tryz.prog 7 [zP w, .int .u8 pr] H (fun v H' => ∃ u dv s k pg tb q o0 o1 o2 o3 o4 o5 o6 o7 ct, v = zP u ∧ Stt [w] H H' [⟨some w, true, zW sb db wv (ops + 2) stop⟩, ⟨some u, true, zU ⟨#[83]⟩ pr dv k pg tb q (.slice none 0 0) 1 0 ct⟩, ⟨some dv, true, zD s pr⟩, ⟨some s, true, zS w (⟨#[117]⟩ ++ ⟨#[46, 100]⟩) 32⟩, ⟨some k, true, ⟨true, 178, [zP w, .string (⟨#[117]⟩ ++ ⟨#[46, 112]⟩), .bool true, .int .i64 (-1), .int .u64 0]⟩⟩, ⟨some pg, true, zG⟩, ⟨some tb, true, zT⟩, ⟨some q, true, ⟨true, 154, [accV o0 0 1, accV o1 0 1, accV o2 0 1, accV o3 0 1, accV o4 0 1, accV o5 0 1, accV o6 0 1, accV o7 0 1]⟩⟩, ⟨o0, true, ⟨true, 23, []⟩⟩, ⟨o1, true, ⟨true, 23, []⟩⟩, ⟨o2, true, ⟨true, 23, []⟩⟩, ⟨o3, true, ⟨true, 23, []⟩⟩, ⟨o4, true, ⟨true, 23, []⟩⟩, ⟨o5, true, ⟨true, 23, []⟩⟩, ⟨o6, true, ⟨true, 23, []⟩⟩, ⟨o7, true, ⟨true, 23, []⟩⟩]) := by
 refine acallsW Tryz.func7 f7_ok (Nat.le_of_ble_eq_true rfl) fun hw => ?_
 have st : Stt [w] H H [] := Stt.start hw
 replace st := st0
 unfold f7c
 refine zw ?_
 refine zm ?_
 refine zw ?_
 iterate 2 refine zm ?_
 refine aBld rfl (by repeat constructor) ?_
 refine aBld rfl (by repeat constructor) ?_
 refine aC (unew_all.1 (w := w) (nm := ⟨#[117]⟩) (nb := 32) hpr (by decide) (by decide) (by decide) (by decide)) fun v13 H1 ⟨u, dv, s, k, pg, tb, q, hv, st1⟩ => ?_
 subst hv
 replace st := st.call st1 rfl
 clear st1
 iterate 5 refine zm ?_
 refine zw ?_
 refine zm ?_
 refine zb (.bool false) ?_
 refine zf ?_
 refine zw ?_
 refine zm ?_
 refine sE ?_
 show AW _ (.loop _) _ _ _
 refine AW_fuel 9 ?_
 show AW _ _ _ _ _
 refine zw ?_
 refine zm ?_
 refine zb (.bool true) ?_
 show AW _ (.cond _ _ _) _ _ _
 refine cT rfl ?_
 refine zw ?_
 iterate 2 refine zm ?_
 refine aNewS st rfl rfl (by repeat constructor) fun b24 H2 st => ?_
 refine aC (do_first (st.takeW [8, 4, 7, 1] [9, 0] (by decide) (by intro p hp b hb; simp at hp; rcases hp with rfl | rfl | rfl | rfl <;> simp_all)) (by decide) hf0 hf1 ho hs) fun v25 H3 ⟨o0, b1, b2, b3, b4, b5, b6, b7, ct0, hv, st1⟩ => ?_
 subst hv
 replace st := st.call4 (o1 := some w) (o2 := some k) (o3 := some q) (o4 := some u) 8 4 6 1 rfl rfl rfl rfl st1 rfl
 clear st1
 have st := st.sel [0, 17, 3, 13, 14, 1, 15, 16, 2, 4, 5, 6, 7, 8, 9, 10, 11] (by decide)
 have st := st.nf (by repeat constructor)
 refine zw ?_
 refine zm ?_
 refine zb (.int .i64 1) ?_
 refine zm ?_
 refine sE ?_
 show AW _ _ _ _ _
 refine zw ?_
 refine zm ?_
 refine zb (.bool true) ?_
 show AW _ (.cond _ _ _) _ _ _
 refine cT rfl ?_
 refine zw ?_
 iterate 2 refine zm ?_
 refine aNewS st rfl rfl (by repeat constructor) fun b24 H4 st => ?_
 refine aC (do_pend (n := 1) (qs := [accV o0 0 1, .slice (some ⟨b1, 0, none⟩) 1 1, .slice (some ⟨b2, 0, none⟩) 1 1, .slice (some ⟨b3, 0, none⟩) 1 1, .slice (some ⟨b4, 0, none⟩) 1 1, .slice (some ⟨b5, 0, none⟩) 1 1, .slice (some ⟨b6, 0, none⟩) 1 1, .slice (some ⟨b7, 0, none⟩) 1 1]) (zN st [9, 3] [0, 11]) rfl (by decide) rfl) fun v25 H5 ⟨o1, ct1, hv, st1⟩ => ?_
 subst hv
 replace st := st.call2 (o1 := some q) (o2 := some u) 9 3 rfl rfl st1 rfl
 clear st1
 have st := st.recell 0 rfl (cs' := [accV o0 0 1, accV o1 0 1, .slice (some ⟨b2, 0, none⟩) 1 1, .slice (some ⟨b3, 0, none⟩) 1 1, .slice (some ⟨b4, 0, none⟩) 1 1, .slice (some ⟨b5, 0, none⟩) 1 1, .slice (some ⟨b6, 0, none⟩) 1 1, .slice (some ⟨b7, 0, none⟩) 1 1]) rfl
 have st := st.sel [4, 5, 1, 6, 7, 8, 9, 10, 0, 11, 2, 13, 14, 15, 16, 17, 18] (by decide)
 have st := st.nf (by repeat constructor)
 refine zw ?_
 refine zm ?_
 refine zb (.int .i64 2) ?_
 refine zm ?_
 refine sE ?_
 show AW _ _ _ _ _
 refine zw ?_
 refine zm ?_
 refine zb (.bool true) ?_
 show AW _ (.cond _ _ _) _ _ _
 refine cT rfl ?_
 refine zw ?_
 iterate 2 refine zm ?_
 refine aNewS st rfl rfl (by repeat constructor) fun b24 H6 st => ?_
 refine aC (do_pend (n := 2) (qs := [accV o0 0 1, accV o1 0 1, .slice (some ⟨b2, 0, none⟩) 1 1, .slice (some ⟨b3, 0, none⟩) 1 1, .slice (some ⟨b4, 0, none⟩) 1 1, .slice (some ⟨b5, 0, none⟩) 1 1, .slice (some ⟨b6, 0, none⟩) 1 1, .slice (some ⟨b7, 0, none⟩) 1 1]) (zN st [9, 3] [0, 12]) rfl (by decide) rfl) fun v25 H7 ⟨o2, ct2, hv, st1⟩ => ?_
 subst hv
 replace st := st.call2 (o1 := some q) (o2 := some u) 9 3 rfl rfl st1 rfl
 clear st1
 have st := st.recell 0 rfl (cs' := [accV o0 0 1, accV o1 0 1, accV o2 0 1, .slice (some ⟨b3, 0, none⟩) 1 1, .slice (some ⟨b4, 0, none⟩) 1 1, .slice (some ⟨b5, 0, none⟩) 1 1, .slice (some ⟨b6, 0, none⟩) 1 1, .slice (some ⟨b7, 0, none⟩) 1 1]) rfl
 have st := st.sel [4, 5, 1, 6, 7, 8, 9, 10, 0, 11, 12, 2, 14, 15, 16, 17, 18] (by decide)
 have st := st.nf (by repeat constructor)
 refine zw ?_
 refine zm ?_
 refine zb (.int .i64 3) ?_
 refine zm ?_
 refine sE ?_
 show AW _ _ _ _ _
 refine zw ?_
 refine zm ?_
 refine zb (.bool true) ?_
 show AW _ (.cond _ _ _) _ _ _
 refine cT rfl ?_
 refine zw ?_
 iterate 2 refine zm ?_
 refine aNewS st rfl rfl (by repeat constructor) fun b24 H8 st => ?_
 refine aC (do_pend (n := 3) (qs := [accV o0 0 1, accV o1 0 1, accV o2 0 1, .slice (some ⟨b3, 0, none⟩) 1 1, .slice (some ⟨b4, 0, none⟩) 1 1, .slice (some ⟨b5, 0, none⟩) 1 1, .slice (some ⟨b6, 0, none⟩) 1 1, .slice (some ⟨b7, 0, none⟩) 1 1]) (zN st [9, 3] [0, 13]) rfl (by decide) rfl) fun v25 H9 ⟨o3, ct3, hv, st1⟩ => ?_
 subst hv
 replace st := st.call2 (o1 := some q) (o2 := some u) 9 3 rfl rfl st1 rfl
 clear st1
 have st := st.recell 0 rfl (cs' := [accV o0 0 1, accV o1 0 1, accV o2 0 1, accV o3 0 1, .slice (some ⟨b4, 0, none⟩) 1 1, .slice (some ⟨b5, 0, none⟩) 1 1, .slice (some ⟨b6, 0, none⟩) 1 1, .slice (some ⟨b7, 0, none⟩) 1 1]) rfl
 have st := st.sel [4, 5, 1, 6, 7, 8, 9, 10, 0, 11, 12, 13, 2, 15, 16, 17, 18] (by decide)
 have st := st.nf (by repeat constructor)
 refine zw ?_
 refine zm ?_
 refine zb (.int .i64 4) ?_
 refine zm ?_
 refine sE ?_
 show AW _ _ _ _ _
 refine zw ?_
 refine zm ?_
 refine zb (.bool true) ?_
 show AW _ (.cond _ _ _) _ _ _
 refine cT rfl ?_
 refine zw ?_
 iterate 2 refine zm ?_
 refine aNewS st rfl rfl (by repeat constructor) fun b24 H10 st => ?_
 refine aC (do_pend (n := 4) (qs := [accV o0 0 1, accV o1 0 1, accV o2 0 1, accV o3 0 1, .slice (some ⟨b4, 0, none⟩) 1 1, .slice (some ⟨b5, 0, none⟩) 1 1, .slice (some ⟨b6, 0, none⟩) 1 1, .slice (some ⟨b7, 0, none⟩) 1 1]) (zN st [9, 3] [0, 14]) rfl (by decide) rfl) fun v25 H11 ⟨o4, ct4, hv, st1⟩ => ?_
 subst hv
 replace st := st.call2 (o1 := some q) (o2 := some u) 9 3 rfl rfl st1 rfl
 clear st1
 have st := st.recell 0 rfl (cs' := [accV o0 0 1, accV o1 0 1, accV o2 0 1, accV o3 0 1, accV o4 0 1, .slice (some ⟨b5, 0, none⟩) 1 1, .slice (some ⟨b6, 0, none⟩) 1 1, .slice (some ⟨b7, 0, none⟩) 1 1]) rfl
 have st := st.sel [4, 5, 1, 6, 7, 8, 9, 10, 0, 11, 12, 13, 14, 2, 16, 17, 18] (by decide)
 have st := st.nf (by repeat constructor)
 refine zw ?_
 refine zm ?_
 refine zb (.int .i64 5) ?_
 refine zm ?_
 refine sE ?_
 show AW _ _ _ _ _
 refine zw ?_
 refine zm ?_
 refine zb (.bool true) ?_
 show AW _ (.cond _ _ _) _ _ _
 refine cT rfl ?_
 refine zw ?_
 iterate 2 refine zm ?_
 refine aNewS st rfl rfl (by repeat constructor) fun b24 H12 st => ?_
 refine aC (do_pend (n := 5) (qs := [accV o0 0 1, accV o1 0 1, accV o2 0 1, accV o3 0 1, accV o4 0 1, .slice (some ⟨b5, 0, none⟩) 1 1, .slice (some ⟨b6, 0, none⟩) 1 1, .slice (some ⟨b7, 0, none⟩) 1 1]) (zN st [9, 3] [0, 15]) rfl (by decide) rfl) fun v25 H13 ⟨o5, ct5, hv, st1⟩ => ?_
 subst hv
 replace st := st.call2 (o1 := some q) (o2 := some u) 9 3 rfl rfl st1 rfl
 clear st1
 have st := st.recell 0 rfl (cs' := [accV o0 0 1, accV o1 0 1, accV o2 0 1, accV o3 0 1, accV o4 0 1, accV o5 0 1, .slice (some ⟨b6, 0, none⟩) 1 1, .slice (some ⟨b7, 0, none⟩) 1 1]) rfl
 have st := st.sel [4, 5, 1, 6, 7, 8, 9, 10, 0, 11, 12, 13, 14, 15, 2, 17, 18] (by decide)
 have st := st.nf (by repeat constructor)
 refine zw ?_
 refine zm ?_
 refine zb (.int .i64 6) ?_
 refine zm ?_
 refine sE ?_
 show AW _ _ _ _ _
 refine zw ?_
 refine zm ?_
 refine zb (.bool true) ?_
 show AW _ (.cond _ _ _) _ _ _
 refine cT rfl ?_
 refine zw ?_
 iterate 2 refine zm ?_
 refine aNewS st rfl rfl (by repeat constructor) fun b24 H14 st => ?_
 refine aC (do_pend (n := 6) (qs := [accV o0 0 1, accV o1 0 1, accV o2 0 1, accV o3 0 1, accV o4 0 1, accV o5 0 1, .slice (some ⟨b6, 0, none⟩) 1 1, .slice (some ⟨b7, 0, none⟩) 1 1]) (zN st [9, 3] [0, 16]) rfl (by decide) rfl) fun v25 H15 ⟨o6, ct6, hv, st1⟩ => ?_
 subst hv
 replace st := st.call2 (o1 := some q) (o2 := some u) 9 3 rfl rfl st1 rfl
 clear st1
 have st := st.recell 0 rfl (cs' := [accV o0 0 1, accV o1 0 1, accV o2 0 1, accV o3 0 1, accV o4 0 1, accV o5 0 1, accV o6 0 1, .slice (some ⟨b7, 0, none⟩) 1 1]) rfl
 have st := st.sel [4, 5, 1, 6, 7, 8, 9, 10, 0, 11, 12, 13, 14, 15, 16, 2, 18] (by decide)
 have st := st.nf (by repeat constructor)
 refine zw ?_
 refine zm ?_
 refine zb (.int .i64 7) ?_
 refine zm ?_
 refine sE ?_
 show AW _ _ _ _ _
 refine zw ?_
 refine zm ?_
 refine zb (.bool true) ?_
 show AW _ (.cond _ _ _) _ _ _
 refine cT rfl ?_
 refine zw ?_
 iterate 2 refine zm ?_
 refine aNewS st rfl rfl (by repeat constructor) fun b24 H16 st => ?_
 refine aC (do_pend (n := 7) (qs := [accV o0 0 1, accV o1 0 1, accV o2 0 1, accV o3 0 1, accV o4 0 1, accV o5 0 1, accV o6 0 1, .slice (some ⟨b7, 0, none⟩) 1 1]) (zN st [9, 3] [0, 17]) rfl (by decide) rfl) fun v25 H17 ⟨o7, ct7, hv, st1⟩ => ?_
 subst hv
 replace st := st.call2 (o1 := some q) (o2 := some u) 9 3 rfl rfl st1 rfl
 clear st1
 have st := st.recell 0 rfl (cs' := [accV o0 0 1, accV o1 0 1, accV o2 0 1, accV o3 0 1, accV o4 0 1, accV o5 0 1, accV o6 0 1, accV o7 0 1]) rfl
 have st := st.sel [4, 5, 1, 6, 7, 8, 9, 10, 0, 11, 12, 13, 14, 15, 16, 17, 2] (by decide)
 have st := st.nf (by repeat constructor)
 refine zw ?_
 refine zm ?_
 refine zb (.int .i64 8) ?_
 refine zm ?_
 refine sE ?_
 show AW _ _ _ _ _
 refine zw ?_
 refine zm ?_
 refine zb (.bool false) ?_
 refine zf ?_
 refine zw ?_
 iterate 2 refine zm ?_
 refine sE ?_
 refine ⟨_, out1 zr, ?_⟩
 exact ⟨u, dv, s, k, pg, tb, q, o0, o1, o2, o3, o4, o5, o6, o7, _, rfl, st.sel [0, 2, 3, 4, 5, 6, 7, 8, 9, 10, 11, 12, 13, 14, 15, 16] (by decide)⟩
end Go.Proofs.YtjmjkdelkaflmaaGreatDoor.Abs
