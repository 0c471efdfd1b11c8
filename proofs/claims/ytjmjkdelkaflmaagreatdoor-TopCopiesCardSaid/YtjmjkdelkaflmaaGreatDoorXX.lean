/- Who is told by a serial. -/
import Derived.Test.YtjmjkdelkaflmaaGreatDoorXI
import Derived.Test.YtjmjkdelkaflmaaGreatDoorXW
import Derived.Test.YtjmjkdelkaflmaaGreatDoorXU
import Derived.Test.YtjmjkdelkaflmaaGreatDoorXT
set_option linter.unusedVariables false
set_option linter.unusedSimpArgs false
set_option maxRecDepth 100000
namespace Go.Proofs.YtjmjkdelkaflmaaGreatDoor.Abs
open Go Go.RowKit
theorem find_00 {H : Hp} {xd xl ub sg nd dv0 dv1 : Nat} (st0 : Stt [] H H [⟨some xd, false, ⟨true, 215, [.slice (some ⟨nd, 0, none⟩) 2 3]⟩⟩, ⟨some xl, false, ⟨true, 64, [.slice (some ⟨ub, 0, none⟩) 2 1, .slice (some ⟨sg, 0, none⟩) 1 5]⟩⟩, ⟨some ub, false, ⟨true, 9, [.string ⟨#[83, 48]⟩, .string ⟨#[83, 49]⟩]⟩⟩, ⟨some nd, false, ⟨true, 217, [.string ⟨#[83, 48]⟩, zP dv0, .int .u8 0, .string ⟨#[83, 49]⟩, zP dv1, .int .u8 0]⟩⟩]) :
  ACalls Tryz.prog 137 [.int .i64 0, zP xd, zP xl] H (fun v H' => v = zP nd ∧ Stt [] H H' []) := by
 refine acallsW Tryz.func137 f137_ok (Nat.le_of_ble_eq_true rfl) fun hw => ?_
 have st : Stt [] H H [] := Stt.start hw
 replace st := st0
 unfold f137c
 refine zw ?_
 refine zm ?_
 refine zw ?_
 refine zl st 0 ?_
 refine aN (v := .int .i64 2) rfl rfl (by constructor) ?_
 refine zm ?_
 refine sE ?_
 show AW _ (.loop _) _ _ _
 refine AW_fuel 3 ?_
 show AW _ _ _ _ _
 refine zw ?_
 refine zb (.bool true) ?_
 show AW _ (.cond _ _ _) _ _ _
 refine cT rfl ?_
 refine zw ?_
 iterate 2 refine zm ?_
 refine sE ?_
 show AWp _ _ _ _ _
 iterate 2 refine zm ?_
 refine zl st 1 ?_
 refine aN (v := .int .i64 2) rfl rfl (by constructor) ?_
 refine zb (.bool true) ?_
 refine zm ?_
 refine zg ?_
 refine zm ?_
 refine zg ?_
 refine zb (.bool true) ?_
 iterate 2 refine zm ?_
 refine zg ?_
 refine zl st 0 ?_
 refine zg ?_
 refine zm ?_
 refine zg ?_
 refine aN (v := zP nd) rfl rfl (by constructor) ?_
 refine zg ?_
 refine zm ?_
 refine zg ?_
 refine zl st 3 ?_
 refine zg ?_
 refine zm ?_
 refine zg ?_
 refine zl st 1 ?_
 refine zg ?_
 refine zm ?_
 refine zg ?_
 refine zm ?_
 refine zg ?_
 refine zl st 2 ?_
 refine zg ?_
 refine aBinV (.bool true) rfl rfl (strT rfl) ?_
 refine zm ?_
 show AW _ (.cond _ _ _) _ _ _
 refine cT rfl ?_
 refine zw ?_
 refine zl st 0 ?_
 refine zm ?_
 refine aN (v := zP nd) rfl rfl (by constructor) ?_
 refine zm ?_
 refine sE ?_
 refine ⟨_, out1 zr, ?_⟩
 exact ⟨rfl, st.drop⟩
theorem find_01 {H : Hp} {xd xl ub sg nd dv0 dv1 : Nat} (st0 : Stt [] H H [⟨some xd, false, ⟨true, 215, [.slice (some ⟨nd, 0, none⟩) 2 3]⟩⟩, ⟨some xl, false, ⟨true, 64, [.slice (some ⟨ub, 0, none⟩) 2 1, .slice (some ⟨sg, 0, none⟩) 1 5]⟩⟩, ⟨some ub, false, ⟨true, 9, [.string ⟨#[83, 48]⟩, .string ⟨#[83, 49]⟩]⟩⟩, ⟨some nd, false, ⟨true, 217, [.string ⟨#[83, 48]⟩, zP dv0, .int .u8 0, .string ⟨#[83, 49]⟩, zP dv1, .int .u8 0]⟩⟩]) :
  ACalls Tryz.prog 137 [.int .i64 1, zP xd, zP xl] H (fun v H' => v = .pointer (some ⟨nd, 3, none⟩) ∧ Stt [] H H' []) := by
 refine acallsW Tryz.func137 f137_ok (Nat.le_of_ble_eq_true rfl) fun hw => ?_
 have st : Stt [] H H [] := Stt.start hw
 replace st := st0
 unfold f137c
 refine zw ?_
 refine zm ?_
 refine zw ?_
 refine zl st 0 ?_
 refine aN (v := .int .i64 2) rfl rfl (by constructor) ?_
 refine zm ?_
 refine sE ?_
 show AW _ (.loop _) _ _ _
 refine AW_fuel 3 ?_
 show AW _ _ _ _ _
 refine zw ?_
 refine zb (.bool true) ?_
 show AW _ (.cond _ _ _) _ _ _
 refine cT rfl ?_
 refine zw ?_
 iterate 2 refine zm ?_
 refine sE ?_
 show AWp _ _ _ _ _
 iterate 2 refine zm ?_
 refine zl st 1 ?_
 refine aN (v := .int .i64 2) rfl rfl (by constructor) ?_
 refine zb (.bool true) ?_
 refine zm ?_
 refine zg ?_
 refine zm ?_
 refine zg ?_
 refine zb (.bool true) ?_
 iterate 2 refine zm ?_
 refine zg ?_
 refine zl st 0 ?_
 refine zg ?_
 refine zm ?_
 refine zg ?_
 refine aN (v := zP nd) rfl rfl (by constructor) ?_
 refine zg ?_
 refine zm ?_
 refine zg ?_
 refine zl st 3 ?_
 refine zg ?_
 refine zm ?_
 refine zg ?_
 refine zl st 1 ?_
 refine zg ?_
 refine zm ?_
 refine zg ?_
 refine zm ?_
 refine zg ?_
 refine zl st 2 ?_
 refine zg ?_
 refine aBinV (.bool false) rfl rfl (strF (by decide)) ?_
 refine zm ?_
 refine zf ?_
 refine zw ?_
 refine zb (.int .i64 1) ?_
 refine zm ?_
 refine sE ?_
 show AW _ _ _ _ _
 refine zw ?_
 refine zb (.bool true) ?_
 show AW _ (.cond _ _ _) _ _ _
 refine cT rfl ?_
 refine zw ?_
 iterate 2 refine zm ?_
 refine sE ?_
 show AWp _ _ _ _ _
 iterate 2 refine zm ?_
 refine zl st 1 ?_
 refine aN (v := .int .i64 2) rfl rfl (by constructor) ?_
 refine zb (.bool true) ?_
 refine zm ?_
 refine zg ?_
 refine zm ?_
 refine zg ?_
 refine zb (.bool true) ?_
 iterate 2 refine zm ?_
 refine zg ?_
 refine zl st 0 ?_
 refine zg ?_
 refine zm ?_
 refine zg ?_
 refine aN (v := .pointer (some ⟨nd, 3, none⟩)) rfl rfl (by constructor) ?_
 refine zg ?_
 refine zm ?_
 refine zg ?_
 refine zl st 3 ?_
 refine zg ?_
 refine zm ?_
 refine zg ?_
 refine zl st 1 ?_
 refine zg ?_
 refine zm ?_
 refine zg ?_
 refine zm ?_
 refine zg ?_
 refine zl st 2 ?_
 refine zg ?_
 refine aBinV (.bool true) rfl rfl (strT rfl) ?_
 refine zm ?_
 show AW _ (.cond _ _ _) _ _ _
 refine cT rfl ?_
 refine zw ?_
 refine zl st 0 ?_
 refine zm ?_
 refine aN (v := .pointer (some ⟨nd, 3, none⟩)) rfl rfl (by constructor) ?_
 refine zm ?_
 refine sE ?_
 refine ⟨_, out1 zr, ?_⟩
 exact ⟨rfl, st.drop⟩
theorem find_10 {H : Hp} {xd xl ub sg nd dv0 dv1 : Nat} (st0 : Stt [] H H [⟨some xd, false, ⟨true, 215, [.slice (some ⟨nd, 0, none⟩) 2 3]⟩⟩, ⟨some xl, false, ⟨true, 64, [.slice (some ⟨ub, 0, none⟩) 2 1, .slice (some ⟨sg, 0, none⟩) 1 5]⟩⟩, ⟨some ub, false, ⟨true, 9, [.string ⟨#[83, 48]⟩, .string ⟨#[83, 49]⟩]⟩⟩, ⟨some nd, false, ⟨true, 217, [.string ⟨#[83, 49]⟩, zP dv1, .int .u8 0, .string ⟨#[83, 48]⟩, zP dv0, .int .u8 0]⟩⟩]) :
  ACalls Tryz.prog 137 [.int .i64 0, zP xd, zP xl] H (fun v H' => v = .pointer (some ⟨nd, 3, none⟩) ∧ Stt [] H H' []) := by
 refine acallsW Tryz.func137 f137_ok (Nat.le_of_ble_eq_true rfl) fun hw => ?_
 have st : Stt [] H H [] := Stt.start hw
 replace st := st0
 unfold f137c
 refine zw ?_
 refine zm ?_
 refine zw ?_
 refine zl st 0 ?_
 refine aN (v := .int .i64 2) rfl rfl (by constructor) ?_
 refine zm ?_
 refine sE ?_
 show AW _ (.loop _) _ _ _
 refine AW_fuel 3 ?_
 show AW _ _ _ _ _
 refine zw ?_
 refine zb (.bool true) ?_
 show AW _ (.cond _ _ _) _ _ _
 refine cT rfl ?_
 refine zw ?_
 iterate 2 refine zm ?_
 refine sE ?_
 show AWp _ _ _ _ _
 iterate 2 refine zm ?_
 refine zl st 1 ?_
 refine aN (v := .int .i64 2) rfl rfl (by constructor) ?_
 refine zb (.bool true) ?_
 refine zm ?_
 refine zg ?_
 refine zm ?_
 refine zg ?_
 refine zb (.bool true) ?_
 iterate 2 refine zm ?_
 refine zg ?_
 refine zl st 0 ?_
 refine zg ?_
 refine zm ?_
 refine zg ?_
 refine aN (v := zP nd) rfl rfl (by constructor) ?_
 refine zg ?_
 refine zm ?_
 refine zg ?_
 refine zl st 3 ?_
 refine zg ?_
 refine zm ?_
 refine zg ?_
 refine zl st 1 ?_
 refine zg ?_
 refine zm ?_
 refine zg ?_
 refine zm ?_
 refine zg ?_
 refine zl st 2 ?_
 refine zg ?_
 refine aBinV (.bool false) rfl rfl (strF (by decide)) ?_
 refine zm ?_
 refine zf ?_
 refine zw ?_
 refine zb (.int .i64 1) ?_
 refine zm ?_
 refine sE ?_
 show AW _ _ _ _ _
 refine zw ?_
 refine zb (.bool true) ?_
 show AW _ (.cond _ _ _) _ _ _
 refine cT rfl ?_
 refine zw ?_
 iterate 2 refine zm ?_
 refine sE ?_
 show AWp _ _ _ _ _
 iterate 2 refine zm ?_
 refine zl st 1 ?_
 refine aN (v := .int .i64 2) rfl rfl (by constructor) ?_
 refine zb (.bool true) ?_
 refine zm ?_
 refine zg ?_
 refine zm ?_
 refine zg ?_
 refine zb (.bool true) ?_
 iterate 2 refine zm ?_
 refine zg ?_
 refine zl st 0 ?_
 refine zg ?_
 refine zm ?_
 refine zg ?_
 refine aN (v := .pointer (some ⟨nd, 3, none⟩)) rfl rfl (by constructor) ?_
 refine zg ?_
 refine zm ?_
 refine zg ?_
 refine zl st 3 ?_
 refine zg ?_
 refine zm ?_
 refine zg ?_
 refine zl st 1 ?_
 refine zg ?_
 refine zm ?_
 refine zg ?_
 refine zm ?_
 refine zg ?_
 refine zl st 2 ?_
 refine zg ?_
 refine aBinV (.bool true) rfl rfl (strT rfl) ?_
 refine zm ?_
 show AW _ (.cond _ _ _) _ _ _
 refine cT rfl ?_
 refine zw ?_
 refine zl st 0 ?_
 refine zm ?_
 refine aN (v := .pointer (some ⟨nd, 3, none⟩)) rfl rfl (by constructor) ?_
 refine zm ?_
 refine sE ?_
 refine ⟨_, out1 zr, ?_⟩
 exact ⟨rfl, st.drop⟩
theorem find_11 {H : Hp} {xd xl ub sg nd dv0 dv1 : Nat} (st0 : Stt [] H H [⟨some xd, false, ⟨true, 215, [.slice (some ⟨nd, 0, none⟩) 2 3]⟩⟩, ⟨some xl, false, ⟨true, 64, [.slice (some ⟨ub, 0, none⟩) 2 1, .slice (some ⟨sg, 0, none⟩) 1 5]⟩⟩, ⟨some ub, false, ⟨true, 9, [.string ⟨#[83, 48]⟩, .string ⟨#[83, 49]⟩]⟩⟩, ⟨some nd, false, ⟨true, 217, [.string ⟨#[83, 49]⟩, zP dv1, .int .u8 0, .string ⟨#[83, 48]⟩, zP dv0, .int .u8 0]⟩⟩]) :
  ACalls Tryz.prog 137 [.int .i64 1, zP xd, zP xl] H (fun v H' => v = zP nd ∧ Stt [] H H' []) := by
 refine acallsW Tryz.func137 f137_ok (Nat.le_of_ble_eq_true rfl) fun hw => ?_
 have st : Stt [] H H [] := Stt.start hw
 replace st := st0
 unfold f137c
 refine zw ?_
 refine zm ?_
 refine zw ?_
 refine zl st 0 ?_
 refine aN (v := .int .i64 2) rfl rfl (by constructor) ?_
 refine zm ?_
 refine sE ?_
 show AW _ (.loop _) _ _ _
 refine AW_fuel 3 ?_
 show AW _ _ _ _ _
 refine zw ?_
 refine zb (.bool true) ?_
 show AW _ (.cond _ _ _) _ _ _
 refine cT rfl ?_
 refine zw ?_
 iterate 2 refine zm ?_
 refine sE ?_
 show AWp _ _ _ _ _
 iterate 2 refine zm ?_
 refine zl st 1 ?_
 refine aN (v := .int .i64 2) rfl rfl (by constructor) ?_
 refine zb (.bool true) ?_
 refine zm ?_
 refine zg ?_
 refine zm ?_
 refine zg ?_
 refine zb (.bool true) ?_
 iterate 2 refine zm ?_
 refine zg ?_
 refine zl st 0 ?_
 refine zg ?_
 refine zm ?_
 refine zg ?_
 refine aN (v := zP nd) rfl rfl (by constructor) ?_
 refine zg ?_
 refine zm ?_
 refine zg ?_
 refine zl st 3 ?_
 refine zg ?_
 refine zm ?_
 refine zg ?_
 refine zl st 1 ?_
 refine zg ?_
 refine zm ?_
 refine zg ?_
 refine zm ?_
 refine zg ?_
 refine zl st 2 ?_
 refine zg ?_
 refine aBinV (.bool true) rfl rfl (strT rfl) ?_
 refine zm ?_
 show AW _ (.cond _ _ _) _ _ _
 refine cT rfl ?_
 refine zw ?_
 refine zl st 0 ?_
 refine zm ?_
 refine aN (v := zP nd) rfl rfl (by constructor) ?_
 refine zm ?_
 refine sE ?_
 refine ⟨_, out1 zr, ?_⟩
 exact ⟨rfl, st.drop⟩
set_option maxHeartbeats 2000000 in
theorem tag3_xrun_all (a b c : Nat) {p : Prop} (h : a = a → b = b → c = c → p) : p := h rfl rfl rfl
set_option maxHeartbeats 8000000 in
theorem xrun_all : (∀ {H : Hp} {ub sg nd w sb db nw n sr ds s0 s1 dv0 dv1 : Nat} {wb ob0 ob1 : Option Nat} {c : List (Value × Value)} {cs : List Value} {nm0 nm1 : ByteArray} {fs0 fs1 : List (Option Bk)} {ops stop : Int} (st0 : Stt ([w] ++ [sb] ++ wb.toList ++ ob0.toList) H H [⟨some w, true, zW sb db (accV wb nw 5) ops stop⟩, ⟨some sb, true, ⟨true, .mp c, []⟩⟩, ⟨wb, true, ⟨true, 121, cs⟩⟩, ⟨ob0, true, ⟨true, 5, (fileL fs0).map (Value.int .u8)⟩⟩, ⟨ob1, false, ⟨true, 5, (fileL fs1).map (Value.int .u8)⟩⟩, ⟨some s0, false, zS w nm0 (16 : Int)⟩, ⟨some s1, false, zS w nm1 (16 : Int)⟩, ⟨some dv0, false, zD s0 0⟩, ⟨some dv1, false, zD s1 1⟩, ⟨some ub, false, ⟨true, 9, [.string ⟨#[83, 48]⟩, .string ⟨#[83, 49]⟩]⟩⟩, ⟨some sg, false, ⟨true, 61, [.int .i64 0, .int .i64 0, .int .i64 (n : Int), .int .u64 (sr : Int), .int .u64 (ds : Int)]⟩⟩, ⟨some nd, false, ⟨true, 217, [.string ⟨#[83, 48]⟩, zP dv0, .int .u8 0, .string ⟨#[83, 49]⟩, zP dv1, .int .u8 0]⟩⟩]) (hm10 : 1 ≤ nm0.size) (hm20 : nm0.size ≤ 32) (hm11 : 1 ≤ nm1.size) (hm21 : nm1.size ≤ 32) (hcs : cs.length = nw * 5) (hnw : nw + 16 ≤ 1000000) (hF0 : FileAt c nm0 ob0 fs0) (hfs0 : FsOk fs0) (hfl0 : fs0.length ≤ 16) (hF1 : FileAt c nm1 ob1 fs1) (hfs1 : FsOk fs1) (hfl1 : fs1.length ≤ 16) (hn : n ≤ 16) (hsr : sr + n ≤ 16) (hds : ds + n ≤ 16) (hsr9 : sr < 16) (hds9 : ds < 16) (ho : 0 ≤ ops ∧ ops ≤ 800000000) (hs : stop < 0) (hgood : ∀ i, i < n → GoodB 0 (sr + i) (blkAt fs0 (sr + i))), ACalls Tryz.prog 99 [.agg #[.slice (some ⟨ub, 0, none⟩) 2 1, .slice (some ⟨sg, 0, none⟩) 1 5], .slice (some ⟨nd, 0, none⟩) 2 3] H (fun v H' => ∃ wb1 ot1 c1 cs1 nw1 ops1, v = .tuple #[.int .i64 1, zR] ∧ cs1.length = nw1 * 5 ∧ nw1 ≤ nw + n ∧ (0 ≤ ops1 ∧ ops1 ≤ ops + 2 * (n : Int)) ∧ FileAt c1 nm0 ot1 (setN fs0 ds (mkN 0 ds (unL false (pkL false (bsR fs0 sr n))) n) n) ∧ (∀ n2 u2, n2 ≠ nm0 → Found c n2 u2 → Found c1 n2 u2) ∧ Stt ([w] ++ [sb] ++ wb.toList ++ ob0.toList) H H' [⟨some w, true, zW sb db (accV wb1 nw1 5) ops1 stop⟩, ⟨some sb, true, ⟨true, .mp c1, []⟩⟩, ⟨wb1, true, ⟨true, 121, cs1⟩⟩, ⟨ot1, true, ⟨true, 5, (fileL (setN fs0 ds (mkN 0 ds (unL false (pkL false (bsR fs0 sr n))) n) n)).map (Value.int .u8)⟩⟩])) ∧
  (∀ {H : Hp} {ub sg nd w sb db nw n sr ds s0 s1 dv0 dv1 : Nat} {wb ob0 ob1 : Option Nat} {c : List (Value × Value)} {cs : List Value} {nm0 nm1 : ByteArray} {fs0 fs1 : List (Option Bk)} {ops stop : Int} (st0 : Stt ([w] ++ [sb] ++ wb.toList ++ ob1.toList) H H [⟨some w, true, zW sb db (accV wb nw 5) ops stop⟩, ⟨some sb, true, ⟨true, .mp c, []⟩⟩, ⟨wb, true, ⟨true, 121, cs⟩⟩, ⟨ob1, true, ⟨true, 5, (fileL fs1).map (Value.int .u8)⟩⟩, ⟨ob0, false, ⟨true, 5, (fileL fs0).map (Value.int .u8)⟩⟩, ⟨some s0, false, zS w nm0 (16 : Int)⟩, ⟨some s1, false, zS w nm1 (16 : Int)⟩, ⟨some dv0, false, zD s0 0⟩, ⟨some dv1, false, zD s1 1⟩, ⟨some ub, false, ⟨true, 9, [.string ⟨#[83, 48]⟩, .string ⟨#[83, 49]⟩]⟩⟩, ⟨some sg, false, ⟨true, 61, [.int .i64 0, .int .i64 1, .int .i64 (n : Int), .int .u64 (sr : Int), .int .u64 (ds : Int)]⟩⟩, ⟨some nd, false, ⟨true, 217, [.string ⟨#[83, 48]⟩, zP dv0, .int .u8 0, .string ⟨#[83, 49]⟩, zP dv1, .int .u8 0]⟩⟩]) (hm10 : 1 ≤ nm0.size) (hm20 : nm0.size ≤ 32) (hm11 : 1 ≤ nm1.size) (hm21 : nm1.size ≤ 32) (hcs : cs.length = nw * 5) (hnw : nw + 16 ≤ 1000000) (hF0 : FileAt c nm0 ob0 fs0) (hfs0 : FsOk fs0) (hfl0 : fs0.length ≤ 16) (hF1 : FileAt c nm1 ob1 fs1) (hfs1 : FsOk fs1) (hfl1 : fs1.length ≤ 16) (hn : n ≤ 16) (hsr : sr + n ≤ 16) (hds : ds + n ≤ 16) (hsr9 : sr < 16) (hds9 : ds < 16) (ho : 0 ≤ ops ∧ ops ≤ 800000000) (hs : stop < 0) (hgood : ∀ i, i < n → GoodB 0 (sr + i) (blkAt fs0 (sr + i))), ACalls Tryz.prog 99 [.agg #[.slice (some ⟨ub, 0, none⟩) 2 1, .slice (some ⟨sg, 0, none⟩) 1 5], .slice (some ⟨nd, 0, none⟩) 2 3] H (fun v H' => ∃ wb1 ot1 c1 cs1 nw1 ops1, v = .tuple #[.int .i64 1, zR] ∧ cs1.length = nw1 * 5 ∧ nw1 ≤ nw + n ∧ (0 ≤ ops1 ∧ ops1 ≤ ops + 2 * (n : Int)) ∧ FileAt c1 nm1 ot1 (setN fs1 ds (mkN 1 ds (unL false (pkL false (bsR fs0 sr n))) n) n) ∧ (∀ n2 u2, n2 ≠ nm1 → Found c n2 u2 → Found c1 n2 u2) ∧ Stt ([w] ++ [sb] ++ wb.toList ++ ob1.toList) H H' [⟨some w, true, zW sb db (accV wb1 nw1 5) ops1 stop⟩, ⟨some sb, true, ⟨true, .mp c1, []⟩⟩, ⟨wb1, true, ⟨true, 121, cs1⟩⟩, ⟨ot1, true, ⟨true, 5, (fileL (setN fs1 ds (mkN 1 ds (unL false (pkL false (bsR fs0 sr n))) n) n)).map (Value.int .u8)⟩⟩])) ∧
  (∀ {H : Hp} {ub sg nd w sb db nw n sr ds s0 s1 dv0 dv1 : Nat} {wb ob0 ob1 : Option Nat} {c : List (Value × Value)} {cs : List Value} {nm0 nm1 : ByteArray} {fs0 fs1 : List (Option Bk)} {ops stop : Int} (st0 : Stt ([w] ++ [sb] ++ wb.toList ++ ob0.toList) H H [⟨some w, true, zW sb db (accV wb nw 5) ops stop⟩, ⟨some sb, true, ⟨true, .mp c, []⟩⟩, ⟨wb, true, ⟨true, 121, cs⟩⟩, ⟨ob0, true, ⟨true, 5, (fileL fs0).map (Value.int .u8)⟩⟩, ⟨ob1, false, ⟨true, 5, (fileL fs1).map (Value.int .u8)⟩⟩, ⟨some s0, false, zS w nm0 (16 : Int)⟩, ⟨some s1, false, zS w nm1 (16 : Int)⟩, ⟨some dv0, false, zD s0 0⟩, ⟨some dv1, false, zD s1 1⟩, ⟨some ub, false, ⟨true, 9, [.string ⟨#[83, 48]⟩, .string ⟨#[83, 49]⟩]⟩⟩, ⟨some sg, false, ⟨true, 61, [.int .i64 1, .int .i64 0, .int .i64 (n : Int), .int .u64 (sr : Int), .int .u64 (ds : Int)]⟩⟩, ⟨some nd, false, ⟨true, 217, [.string ⟨#[83, 48]⟩, zP dv0, .int .u8 0, .string ⟨#[83, 49]⟩, zP dv1, .int .u8 0]⟩⟩]) (hm10 : 1 ≤ nm0.size) (hm20 : nm0.size ≤ 32) (hm11 : 1 ≤ nm1.size) (hm21 : nm1.size ≤ 32) (hcs : cs.length = nw * 5) (hnw : nw + 16 ≤ 1000000) (hF0 : FileAt c nm0 ob0 fs0) (hfs0 : FsOk fs0) (hfl0 : fs0.length ≤ 16) (hF1 : FileAt c nm1 ob1 fs1) (hfs1 : FsOk fs1) (hfl1 : fs1.length ≤ 16) (hn : n ≤ 16) (hsr : sr + n ≤ 16) (hds : ds + n ≤ 16) (hsr9 : sr < 16) (hds9 : ds < 16) (ho : 0 ≤ ops ∧ ops ≤ 800000000) (hs : stop < 0) (hgood : ∀ i, i < n → GoodB 1 (sr + i) (blkAt fs1 (sr + i))), ACalls Tryz.prog 99 [.agg #[.slice (some ⟨ub, 0, none⟩) 2 1, .slice (some ⟨sg, 0, none⟩) 1 5], .slice (some ⟨nd, 0, none⟩) 2 3] H (fun v H' => ∃ wb1 ot1 c1 cs1 nw1 ops1, v = .tuple #[.int .i64 1, zR] ∧ cs1.length = nw1 * 5 ∧ nw1 ≤ nw + n ∧ (0 ≤ ops1 ∧ ops1 ≤ ops + 2 * (n : Int)) ∧ FileAt c1 nm0 ot1 (setN fs0 ds (mkN 0 ds (unL false (pkL false (bsR fs1 sr n))) n) n) ∧ (∀ n2 u2, n2 ≠ nm0 → Found c n2 u2 → Found c1 n2 u2) ∧ Stt ([w] ++ [sb] ++ wb.toList ++ ob0.toList) H H' [⟨some w, true, zW sb db (accV wb1 nw1 5) ops1 stop⟩, ⟨some sb, true, ⟨true, .mp c1, []⟩⟩, ⟨wb1, true, ⟨true, 121, cs1⟩⟩, ⟨ot1, true, ⟨true, 5, (fileL (setN fs0 ds (mkN 0 ds (unL false (pkL false (bsR fs1 sr n))) n) n)).map (Value.int .u8)⟩⟩])) ∧
  (∀ {H : Hp} {ub sg nd w sb db nw n sr ds s0 s1 dv0 dv1 : Nat} {wb ob0 ob1 : Option Nat} {c : List (Value × Value)} {cs : List Value} {nm0 nm1 : ByteArray} {fs0 fs1 : List (Option Bk)} {ops stop : Int} (st0 : Stt ([w] ++ [sb] ++ wb.toList ++ ob1.toList) H H [⟨some w, true, zW sb db (accV wb nw 5) ops stop⟩, ⟨some sb, true, ⟨true, .mp c, []⟩⟩, ⟨wb, true, ⟨true, 121, cs⟩⟩, ⟨ob1, true, ⟨true, 5, (fileL fs1).map (Value.int .u8)⟩⟩, ⟨ob0, false, ⟨true, 5, (fileL fs0).map (Value.int .u8)⟩⟩, ⟨some s0, false, zS w nm0 (16 : Int)⟩, ⟨some s1, false, zS w nm1 (16 : Int)⟩, ⟨some dv0, false, zD s0 0⟩, ⟨some dv1, false, zD s1 1⟩, ⟨some ub, false, ⟨true, 9, [.string ⟨#[83, 48]⟩, .string ⟨#[83, 49]⟩]⟩⟩, ⟨some sg, false, ⟨true, 61, [.int .i64 1, .int .i64 1, .int .i64 (n : Int), .int .u64 (sr : Int), .int .u64 (ds : Int)]⟩⟩, ⟨some nd, false, ⟨true, 217, [.string ⟨#[83, 48]⟩, zP dv0, .int .u8 0, .string ⟨#[83, 49]⟩, zP dv1, .int .u8 0]⟩⟩]) (hm10 : 1 ≤ nm0.size) (hm20 : nm0.size ≤ 32) (hm11 : 1 ≤ nm1.size) (hm21 : nm1.size ≤ 32) (hcs : cs.length = nw * 5) (hnw : nw + 16 ≤ 1000000) (hF0 : FileAt c nm0 ob0 fs0) (hfs0 : FsOk fs0) (hfl0 : fs0.length ≤ 16) (hF1 : FileAt c nm1 ob1 fs1) (hfs1 : FsOk fs1) (hfl1 : fs1.length ≤ 16) (hn : n ≤ 16) (hsr : sr + n ≤ 16) (hds : ds + n ≤ 16) (hsr9 : sr < 16) (hds9 : ds < 16) (ho : 0 ≤ ops ∧ ops ≤ 800000000) (hs : stop < 0) (hgood : ∀ i, i < n → GoodB 1 (sr + i) (blkAt fs1 (sr + i))), ACalls Tryz.prog 99 [.agg #[.slice (some ⟨ub, 0, none⟩) 2 1, .slice (some ⟨sg, 0, none⟩) 1 5], .slice (some ⟨nd, 0, none⟩) 2 3] H (fun v H' => ∃ wb1 ot1 c1 cs1 nw1 ops1, v = .tuple #[.int .i64 1, zR] ∧ cs1.length = nw1 * 5 ∧ nw1 ≤ nw + n ∧ (0 ≤ ops1 ∧ ops1 ≤ ops + 2 * (n : Int)) ∧ FileAt c1 nm1 ot1 (setN fs1 ds (mkN 1 ds (unL false (pkL false (bsR fs1 sr n))) n) n) ∧ (∀ n2 u2, n2 ≠ nm1 → Found c n2 u2 → Found c1 n2 u2) ∧ Stt ([w] ++ [sb] ++ wb.toList ++ ob1.toList) H H' [⟨some w, true, zW sb db (accV wb1 nw1 5) ops1 stop⟩, ⟨some sb, true, ⟨true, .mp c1, []⟩⟩, ⟨wb1, true, ⟨true, 121, cs1⟩⟩, ⟨ot1, true, ⟨true, 5, (fileL (setN fs1 ds (mkN 1 ds (unL false (pkL false (bsR fs1 sr n))) n) n)).map (Value.int .u8)⟩⟩])) ∧
  (∀ {H : Hp} {ub sg nd w sb db nw n sr ds s0 s1 dv0 dv1 : Nat} {wb ob0 ob1 : Option Nat} {c : List (Value × Value)} {cs : List Value} {nm0 nm1 : ByteArray} {fs0 fs1 : List (Option Bk)} {ops stop : Int} (st0 : Stt ([w] ++ [sb] ++ wb.toList ++ ob0.toList) H H [⟨some w, true, zW sb db (accV wb nw 5) ops stop⟩, ⟨some sb, true, ⟨true, .mp c, []⟩⟩, ⟨wb, true, ⟨true, 121, cs⟩⟩, ⟨ob0, true, ⟨true, 5, (fileL fs0).map (Value.int .u8)⟩⟩, ⟨ob1, false, ⟨true, 5, (fileL fs1).map (Value.int .u8)⟩⟩, ⟨some s0, false, zS w nm0 (16 : Int)⟩, ⟨some s1, false, zS w nm1 (16 : Int)⟩, ⟨some dv0, false, zD s0 0⟩, ⟨some dv1, false, zD s1 1⟩, ⟨some ub, false, ⟨true, 9, [.string ⟨#[83, 48]⟩, .string ⟨#[83, 49]⟩]⟩⟩, ⟨some sg, false, ⟨true, 61, [.int .i64 0, .int .i64 0, .int .i64 (n : Int), .int .u64 (sr : Int), .int .u64 (ds : Int)]⟩⟩, ⟨some nd, false, ⟨true, 217, [.string ⟨#[83, 49]⟩, zP dv1, .int .u8 0, .string ⟨#[83, 48]⟩, zP dv0, .int .u8 0]⟩⟩]) (hm10 : 1 ≤ nm0.size) (hm20 : nm0.size ≤ 32) (hm11 : 1 ≤ nm1.size) (hm21 : nm1.size ≤ 32) (hcs : cs.length = nw * 5) (hnw : nw + 16 ≤ 1000000) (hF0 : FileAt c nm0 ob0 fs0) (hfs0 : FsOk fs0) (hfl0 : fs0.length ≤ 16) (hF1 : FileAt c nm1 ob1 fs1) (hfs1 : FsOk fs1) (hfl1 : fs1.length ≤ 16) (hn : n ≤ 16) (hsr : sr + n ≤ 16) (hds : ds + n ≤ 16) (hsr9 : sr < 16) (hds9 : ds < 16) (ho : 0 ≤ ops ∧ ops ≤ 800000000) (hs : stop < 0) (hgood : ∀ i, i < n → GoodB 0 (sr + i) (blkAt fs0 (sr + i))), ACalls Tryz.prog 99 [.agg #[.slice (some ⟨ub, 0, none⟩) 2 1, .slice (some ⟨sg, 0, none⟩) 1 5], .slice (some ⟨nd, 0, none⟩) 2 3] H (fun v H' => ∃ wb1 ot1 c1 cs1 nw1 ops1, v = .tuple #[.int .i64 1, zR] ∧ cs1.length = nw1 * 5 ∧ nw1 ≤ nw + n ∧ (0 ≤ ops1 ∧ ops1 ≤ ops + 2 * (n : Int)) ∧ FileAt c1 nm0 ot1 (setN fs0 ds (mkN 0 ds (unL false (pkL false (bsR fs0 sr n))) n) n) ∧ (∀ n2 u2, n2 ≠ nm0 → Found c n2 u2 → Found c1 n2 u2) ∧ Stt ([w] ++ [sb] ++ wb.toList ++ ob0.toList) H H' [⟨some w, true, zW sb db (accV wb1 nw1 5) ops1 stop⟩, ⟨some sb, true, ⟨true, .mp c1, []⟩⟩, ⟨wb1, true, ⟨true, 121, cs1⟩⟩, ⟨ot1, true, ⟨true, 5, (fileL (setN fs0 ds (mkN 0 ds (unL false (pkL false (bsR fs0 sr n))) n) n)).map (Value.int .u8)⟩⟩])) ∧
  (∀ {H : Hp} {ub sg nd w sb db nw n sr ds s0 s1 dv0 dv1 : Nat} {wb ob0 ob1 : Option Nat} {c : List (Value × Value)} {cs : List Value} {nm0 nm1 : ByteArray} {fs0 fs1 : List (Option Bk)} {ops stop : Int} (st0 : Stt ([w] ++ [sb] ++ wb.toList ++ ob1.toList) H H [⟨some w, true, zW sb db (accV wb nw 5) ops stop⟩, ⟨some sb, true, ⟨true, .mp c, []⟩⟩, ⟨wb, true, ⟨true, 121, cs⟩⟩, ⟨ob1, true, ⟨true, 5, (fileL fs1).map (Value.int .u8)⟩⟩, ⟨ob0, false, ⟨true, 5, (fileL fs0).map (Value.int .u8)⟩⟩, ⟨some s0, false, zS w nm0 (16 : Int)⟩, ⟨some s1, false, zS w nm1 (16 : Int)⟩, ⟨some dv0, false, zD s0 0⟩, ⟨some dv1, false, zD s1 1⟩, ⟨some ub, false, ⟨true, 9, [.string ⟨#[83, 48]⟩, .string ⟨#[83, 49]⟩]⟩⟩, ⟨some sg, false, ⟨true, 61, [.int .i64 0, .int .i64 1, .int .i64 (n : Int), .int .u64 (sr : Int), .int .u64 (ds : Int)]⟩⟩, ⟨some nd, false, ⟨true, 217, [.string ⟨#[83, 49]⟩, zP dv1, .int .u8 0, .string ⟨#[83, 48]⟩, zP dv0, .int .u8 0]⟩⟩]) (hm10 : 1 ≤ nm0.size) (hm20 : nm0.size ≤ 32) (hm11 : 1 ≤ nm1.size) (hm21 : nm1.size ≤ 32) (hcs : cs.length = nw * 5) (hnw : nw + 16 ≤ 1000000) (hF0 : FileAt c nm0 ob0 fs0) (hfs0 : FsOk fs0) (hfl0 : fs0.length ≤ 16) (hF1 : FileAt c nm1 ob1 fs1) (hfs1 : FsOk fs1) (hfl1 : fs1.length ≤ 16) (hn : n ≤ 16) (hsr : sr + n ≤ 16) (hds : ds + n ≤ 16) (hsr9 : sr < 16) (hds9 : ds < 16) (ho : 0 ≤ ops ∧ ops ≤ 800000000) (hs : stop < 0) (hgood : ∀ i, i < n → GoodB 0 (sr + i) (blkAt fs0 (sr + i))), ACalls Tryz.prog 99 [.agg #[.slice (some ⟨ub, 0, none⟩) 2 1, .slice (some ⟨sg, 0, none⟩) 1 5], .slice (some ⟨nd, 0, none⟩) 2 3] H (fun v H' => ∃ wb1 ot1 c1 cs1 nw1 ops1, v = .tuple #[.int .i64 1, zR] ∧ cs1.length = nw1 * 5 ∧ nw1 ≤ nw + n ∧ (0 ≤ ops1 ∧ ops1 ≤ ops + 2 * (n : Int)) ∧ FileAt c1 nm1 ot1 (setN fs1 ds (mkN 1 ds (unL false (pkL false (bsR fs0 sr n))) n) n) ∧ (∀ n2 u2, n2 ≠ nm1 → Found c n2 u2 → Found c1 n2 u2) ∧ Stt ([w] ++ [sb] ++ wb.toList ++ ob1.toList) H H' [⟨some w, true, zW sb db (accV wb1 nw1 5) ops1 stop⟩, ⟨some sb, true, ⟨true, .mp c1, []⟩⟩, ⟨wb1, true, ⟨true, 121, cs1⟩⟩, ⟨ot1, true, ⟨true, 5, (fileL (setN fs1 ds (mkN 1 ds (unL false (pkL false (bsR fs0 sr n))) n) n)).map (Value.int .u8)⟩⟩])) ∧
  (∀ {H : Hp} {ub sg nd w sb db nw n sr ds s0 s1 dv0 dv1 : Nat} {wb ob0 ob1 : Option Nat} {c : List (Value × Value)} {cs : List Value} {nm0 nm1 : ByteArray} {fs0 fs1 : List (Option Bk)} {ops stop : Int} (st0 : Stt ([w] ++ [sb] ++ wb.toList ++ ob0.toList) H H [⟨some w, true, zW sb db (accV wb nw 5) ops stop⟩, ⟨some sb, true, ⟨true, .mp c, []⟩⟩, ⟨wb, true, ⟨true, 121, cs⟩⟩, ⟨ob0, true, ⟨true, 5, (fileL fs0).map (Value.int .u8)⟩⟩, ⟨ob1, false, ⟨true, 5, (fileL fs1).map (Value.int .u8)⟩⟩, ⟨some s0, false, zS w nm0 (16 : Int)⟩, ⟨some s1, false, zS w nm1 (16 : Int)⟩, ⟨some dv0, false, zD s0 0⟩, ⟨some dv1, false, zD s1 1⟩, ⟨some ub, false, ⟨true, 9, [.string ⟨#[83, 48]⟩, .string ⟨#[83, 49]⟩]⟩⟩, ⟨some sg, false, ⟨true, 61, [.int .i64 1, .int .i64 0, .int .i64 (n : Int), .int .u64 (sr : Int), .int .u64 (ds : Int)]⟩⟩, ⟨some nd, false, ⟨true, 217, [.string ⟨#[83, 49]⟩, zP dv1, .int .u8 0, .string ⟨#[83, 48]⟩, zP dv0, .int .u8 0]⟩⟩]) (hm10 : 1 ≤ nm0.size) (hm20 : nm0.size ≤ 32) (hm11 : 1 ≤ nm1.size) (hm21 : nm1.size ≤ 32) (hcs : cs.length = nw * 5) (hnw : nw + 16 ≤ 1000000) (hF0 : FileAt c nm0 ob0 fs0) (hfs0 : FsOk fs0) (hfl0 : fs0.length ≤ 16) (hF1 : FileAt c nm1 ob1 fs1) (hfs1 : FsOk fs1) (hfl1 : fs1.length ≤ 16) (hn : n ≤ 16) (hsr : sr + n ≤ 16) (hds : ds + n ≤ 16) (hsr9 : sr < 16) (hds9 : ds < 16) (ho : 0 ≤ ops ∧ ops ≤ 800000000) (hs : stop < 0) (hgood : ∀ i, i < n → GoodB 1 (sr + i) (blkAt fs1 (sr + i))), ACalls Tryz.prog 99 [.agg #[.slice (some ⟨ub, 0, none⟩) 2 1, .slice (some ⟨sg, 0, none⟩) 1 5], .slice (some ⟨nd, 0, none⟩) 2 3] H (fun v H' => ∃ wb1 ot1 c1 cs1 nw1 ops1, v = .tuple #[.int .i64 1, zR] ∧ cs1.length = nw1 * 5 ∧ nw1 ≤ nw + n ∧ (0 ≤ ops1 ∧ ops1 ≤ ops + 2 * (n : Int)) ∧ FileAt c1 nm0 ot1 (setN fs0 ds (mkN 0 ds (unL false (pkL false (bsR fs1 sr n))) n) n) ∧ (∀ n2 u2, n2 ≠ nm0 → Found c n2 u2 → Found c1 n2 u2) ∧ Stt ([w] ++ [sb] ++ wb.toList ++ ob0.toList) H H' [⟨some w, true, zW sb db (accV wb1 nw1 5) ops1 stop⟩, ⟨some sb, true, ⟨true, .mp c1, []⟩⟩, ⟨wb1, true, ⟨true, 121, cs1⟩⟩, ⟨ot1, true, ⟨true, 5, (fileL (setN fs0 ds (mkN 0 ds (unL false (pkL false (bsR fs1 sr n))) n) n)).map (Value.int .u8)⟩⟩])) ∧
  (∀ {H : Hp} {ub sg nd w sb db nw n sr ds s0 s1 dv0 dv1 : Nat} {wb ob0 ob1 : Option Nat} {c : List (Value × Value)} {cs : List Value} {nm0 nm1 : ByteArray} {fs0 fs1 : List (Option Bk)} {ops stop : Int} (st0 : Stt ([w] ++ [sb] ++ wb.toList ++ ob1.toList) H H [⟨some w, true, zW sb db (accV wb nw 5) ops stop⟩, ⟨some sb, true, ⟨true, .mp c, []⟩⟩, ⟨wb, true, ⟨true, 121, cs⟩⟩, ⟨ob1, true, ⟨true, 5, (fileL fs1).map (Value.int .u8)⟩⟩, ⟨ob0, false, ⟨true, 5, (fileL fs0).map (Value.int .u8)⟩⟩, ⟨some s0, false, zS w nm0 (16 : Int)⟩, ⟨some s1, false, zS w nm1 (16 : Int)⟩, ⟨some dv0, false, zD s0 0⟩, ⟨some dv1, false, zD s1 1⟩, ⟨some ub, false, ⟨true, 9, [.string ⟨#[83, 48]⟩, .string ⟨#[83, 49]⟩]⟩⟩, ⟨some sg, false, ⟨true, 61, [.int .i64 1, .int .i64 1, .int .i64 (n : Int), .int .u64 (sr : Int), .int .u64 (ds : Int)]⟩⟩, ⟨some nd, false, ⟨true, 217, [.string ⟨#[83, 49]⟩, zP dv1, .int .u8 0, .string ⟨#[83, 48]⟩, zP dv0, .int .u8 0]⟩⟩]) (hm10 : 1 ≤ nm0.size) (hm20 : nm0.size ≤ 32) (hm11 : 1 ≤ nm1.size) (hm21 : nm1.size ≤ 32) (hcs : cs.length = nw * 5) (hnw : nw + 16 ≤ 1000000) (hF0 : FileAt c nm0 ob0 fs0) (hfs0 : FsOk fs0) (hfl0 : fs0.length ≤ 16) (hF1 : FileAt c nm1 ob1 fs1) (hfs1 : FsOk fs1) (hfl1 : fs1.length ≤ 16) (hn : n ≤ 16) (hsr : sr + n ≤ 16) (hds : ds + n ≤ 16) (hsr9 : sr < 16) (hds9 : ds < 16) (ho : 0 ≤ ops ∧ ops ≤ 800000000) (hs : stop < 0) (hgood : ∀ i, i < n → GoodB 1 (sr + i) (blkAt fs1 (sr + i))), ACalls Tryz.prog 99 [.agg #[.slice (some ⟨ub, 0, none⟩) 2 1, .slice (some ⟨sg, 0, none⟩) 1 5], .slice (some ⟨nd, 0, none⟩) 2 3] H (fun v H' => ∃ wb1 ot1 c1 cs1 nw1 ops1, v = .tuple #[.int .i64 1, zR] ∧ cs1.length = nw1 * 5 ∧ nw1 ≤ nw + n ∧ (0 ≤ ops1 ∧ ops1 ≤ ops + 2 * (n : Int)) ∧ FileAt c1 nm1 ot1 (setN fs1 ds (mkN 1 ds (unL false (pkL false (bsR fs1 sr n))) n) n) ∧ (∀ n2 u2, n2 ≠ nm1 → Found c n2 u2 → Found c1 n2 u2) ∧ Stt ([w] ++ [sb] ++ wb.toList ++ ob1.toList) H H' [⟨some w, true, zW sb db (accV wb1 nw1 5) ops1 stop⟩, ⟨some sb, true, ⟨true, .mp c1, []⟩⟩, ⟨wb1, true, ⟨true, 121, cs1⟩⟩, ⟨ot1, true, ⟨true, 5, (fileL (setN fs1 ds (mkN 1 ds (unL false (pkL false (bsR fs1 sr n))) n) n)).map (Value.int .u8)⟩⟩])) := by
 refine ⟨@tag3_xrun_all 0 0 0 _ ?_, @tag3_xrun_all 0 0 1 _ ?_, @tag3_xrun_all 0 1 0 _ ?_, @tag3_xrun_all 0 1 1 _ ?_, @tag3_xrun_all 1 0 0 _ ?_, @tag3_xrun_all 1 0 1 _ ?_, @tag3_xrun_all 1 1 0 _ ?_, @tag3_xrun_all 1 1 1 _ ?_⟩ <;> intro ta tb tc H ub sg nd w sb db nw n sr ds s0 s1 dv0 dv1 wb ob0 ob1 c cs nm0 nm1 fs0 fs1 ops stop st0 hm10 hm20 hm11 hm21 hcs hnw hF0 hfs0 hfl0 hF1 hfs1 hfl1 hn hsr hds hsr9 hds9 ho hs hgood
 all_goals
  refine acallsW Tryz.func99 f99_ok (Nat.le_of_ble_eq_true rfl) fun hw => ?_
  first | guard_hyp tc : 0 = 0; have st : Stt ([w] ++ [sb] ++ wb.toList ++ ob0.toList) H H [] := Stt.start hw | have st : Stt ([w] ++ [sb] ++ wb.toList ++ ob1.toList) H H [] := Stt.start hw
  have hcall : callable Tryz.prog 137 = true := by kernel_rfl
  replace st := st0
  first | guard_hyp tb : 0 = 0; have hbk : BksOk (bsR fs0 sr n) := bsR_ok hfs0 _ _ | have hbk : BksOk (bsR fs1 sr n) := bsR_ok hfs1 _ _
  first | guard_hyp tb : 0 = 0; have hbx : ByteL (pkL false (bsR fs0 sr n)) := pkL_bytes hbk | have hbx : ByteL (pkL false (bsR fs1 sr n)) := pkL_bytes hbk
  first | guard_hyp tb : 0 = 0; have hxl : (pkL false (bsR fs0 sr n)).length = 16 * n := by rw [pkL_len hbk, bsR_len]; exact Nat.mul_comm _ _ | have hxl : (pkL false (bsR fs1 sr n)).length = 16 * n := by rw [pkL_len hbk, bsR_len]; exact Nat.mul_comm _ _
  first | guard_hyp tb : 0 = 0; have hun : unR false (pkL false (bsR fs0 sr n)) = unL false (pkL false (bsR fs0 sr n)) := if_pos (by show (pkL false (bsR fs0 sr n)).length % 16 = 0; omega) | have hun : unR false (pkL false (bsR fs1 sr n)) = unL false (pkL false (bsR fs1 sr n)) := if_pos (by show (pkL false (bsR fs1 sr n)).length % 16 = 0; omega)
  first | guard_hyp tb : 0 = 0; have hxn : (pkL false (bsR fs0 sr n)).length / szB false = n := by show (pkL false (bsR fs0 sr n)).length / 16 = n; omega | have hxn : (pkL false (bsR fs1 sr n)).length / szB false = n := by show (pkL false (bsR fs1 sr n)).length / 16 = n; omega
  first | guard_hyp tb : 0 = 0; have hdec : decide ((pkL false (bsR fs0 sr n)).length % 16 = 0) = true := decide_eq_true (by omega) | have hdec : decide ((pkL false (bsR fs1 sr n)).length % 16 = 0) = true := decide_eq_true (by omega)
  first | guard_hyp tb : 0 = 0; have hul : BksOk (unL false (pkL false (bsR fs0 sr n))) := unL_ok hbx | have hul : BksOk (unL false (pkL false (bsR fs1 sr n))) := unL_ok hbx
  unfold f99c
  refine zw ?_
  refine aBoxN st rfl rfl (by repeat constructor) rfl fun b2 H1 st => ?_
  refine aBoxN st rfl rfl (by repeat constructor) rfl fun b3 H2 st => ?_
  refine zm ?_
  refine zp st fun b5 H3 st => ?_
  refine zw ?_
  refine aMkFunc rfl rfl ?_
  refine zm ?_
  refine zw ?_
  refine zm ?_
  refine zl st 2 ?_
  refine aN (v := .int .i64 1) rfl rfl (by constructor) ?_
  refine zm ?_
  refine sE ?_
  show AW _ (.loop _) _ _ _
  refine AW_fuel 2 ?_
  show AW _ _ _ _ _
  refine zw ?_
  refine zb (.bool true) ?_
  show AW _ (.cond _ _ _) _ _ _
  refine cT rfl ?_
  refine zw ?_
  refine zm ?_
  refine aN (v := zP sg) rfl rfl (by constructor) ?_
  first | guard_hyp tb : 0 = 0; guard_hyp tc : 0 = 0; refine aLdA (xs := [.int .i64 0, .int .i64 0, .int .i64 (n : Int), .int .u64 (sr : Int), .int .u64 (ds : Int)]) st 13 rfl rfl (Nat.le_of_ble_eq_true rfl) (by repeat constructor) ?_ | guard_hyp tb : 0 = 0; guard_hyp tc : 1 = 1; refine aLdA (xs := [.int .i64 0, .int .i64 1, .int .i64 (n : Int), .int .u64 (sr : Int), .int .u64 (ds : Int)]) st 13 rfl rfl (Nat.le_of_ble_eq_true rfl) (by repeat constructor) ?_ | guard_hyp tb : 1 = 1; guard_hyp tc : 0 = 0; refine aLdA (xs := [.int .i64 1, .int .i64 0, .int .i64 (n : Int), .int .u64 (sr : Int), .int .u64 (ds : Int)]) st 13 rfl rfl (Nat.le_of_ble_eq_true rfl) (by repeat constructor) ?_ | refine aLdA (xs := [.int .i64 1, .int .i64 1, .int .i64 (n : Int), .int .u64 (sr : Int), .int .u64 (ds : Int)]) st 13 rfl rfl (Nat.le_of_ble_eq_true rfl) (by repeat constructor) ?_
  refine zp st fun b8 H4 st => ?_
  refine zm ?_
  refine zx st 0 fun H5 st => ?_
  refine sE ?_
  show AWp _ _ _ _ _
  iterate 2 refine zm ?_
  refine zl st 0 ?_
  iterate 2 refine zm ?_
  refine zl st 0 ?_
  refine ⟨?_, trivial⟩
  first | guard_hyp ta : 0 = 0; guard_hyp tb : 0 = 0; refine aCV (f := 137) (cs := [zP b3, zP b2]) rfl hcall (find_00 (zM st [] [2, 3, 13, 15])) fun v27 H6 ⟨hv, st1⟩ => ?_ | guard_hyp ta : 0 = 0; guard_hyp tb : 1 = 1; refine aCV (f := 137) (cs := [zP b3, zP b2]) rfl hcall (find_01 (zM st [] [2, 3, 13, 15])) fun v27 H6 ⟨hv, st1⟩ => ?_ | guard_hyp ta : 1 = 1; guard_hyp tb : 0 = 0; refine aCV (f := 137) (cs := [zP b3, zP b2]) rfl hcall (find_10 (zM st [] [2, 3, 13, 15])) fun v27 H6 ⟨hv, st1⟩ => ?_ | refine aCV (f := 137) (cs := [zP b3, zP b2]) rfl hcall (find_11 (zM st [] [2, 3, 13, 15])) fun v27 H6 ⟨hv, st1⟩ => ?_
  subst hv
  replace st := st.call st1 rfl
  clear st1
  refine ⟨⟨zh st 0, trivial⟩, ?_⟩
  refine ⟨?_, trivial⟩
  first | guard_hyp ta : 0 = 0; guard_hyp tc : 0 = 0; refine aCV (f := 137) (cs := [zP b3, zP b2]) rfl hcall (find_00 (zM st [] [2, 3, 13, 15])) fun v31 H7 ⟨hv, st1⟩ => ?_ | guard_hyp ta : 0 = 0; guard_hyp tc : 1 = 1; refine aCV (f := 137) (cs := [zP b3, zP b2]) rfl hcall (find_01 (zM st [] [2, 3, 13, 15])) fun v31 H7 ⟨hv, st1⟩ => ?_ | guard_hyp ta : 1 = 1; guard_hyp tc : 0 = 0; refine aCV (f := 137) (cs := [zP b3, zP b2]) rfl hcall (find_10 (zM st [] [2, 3, 13, 15])) fun v31 H7 ⟨hv, st1⟩ => ?_ | refine aCV (f := 137) (cs := [zP b3, zP b2]) rfl hcall (find_11 (zM st [] [2, 3, 13, 15])) fun v31 H7 ⟨hv, st1⟩ => ?_
  subst hv
  replace st := st.call st1 rfl
  clear st1
  refine ⟨⟨zh st 0, trivial⟩, ?_⟩
  iterate 2 refine zm ?_
  refine zw ?_
  iterate 2 refine zm ?_
  refine aBld rfl (by repeat constructor) ?_
  refine aBld rfl (by repeat constructor) ?_
  refine zp st fun b11 H8 st => ?_
  refine zx st 0 fun H9 st => ?_
  refine zw ?_
  refine zm ?_
  refine zb (.bool false) ?_
  refine zm ?_
  refine zg ?_
  refine zm ?_
  refine zg ?_
  refine zb (.bool false) ?_
  iterate 2 refine zm ?_
  refine zg ?_
  refine zm ?_
  refine zg ?_
  refine zm ?_
  refine zg ?_
  refine zm ?_
  refine zg ?_
  refine zl st 16 ?_
  refine zg ?_
  refine zb (.int .u8 0) ?_
  refine zg ?_
  refine zb (.bool false) ?_
  iterate 2 refine zm ?_
  refine zg ?_
  refine zm ?_
  refine zg ?_
  refine zm ?_
  refine zg ?_
  refine zm ?_
  refine zg ?_
  refine zl st 16 ?_
  refine zg ?_
  refine zb (.int .u8 0) ?_
  refine zg ?_
  refine zb (.bool false) ?_
  refine zm ?_
  refine zf ?_
  show AWp _ _ _ _ _
  iterate 3 refine zm ?_
  refine zl st 16 ?_
  refine zm ?_
  refine zl st 1 ?_
  refine zm ?_
  refine zl st 1 ?_
  refine aMaxV (r := (n : Int)) rfl rfl (by rw [if_neg (by omega)]) ?_
  refine aConvV (n := (n : Int)) (n' := (n : Int)) rfl (by rw [w64]; omega) ?_
  refine aBld rfl (by repeat constructor) ?_
  refine ⟨?_, ?_⟩
  focus
   first | guard_hyp tb : 0 = 0; guard_hyp tc : 0 = 0; refine aC (doread_all.1 (n := n) (lba := sr) (nb := 16) (zN st [5] [6, 8, 10, 12]) hm10 hm20 hF0 hfs0 (by decide) (by omega) (by omega) (by omega) (fun i hi => by omega) hgood) fun v71 H10 ⟨pp, hv, st1⟩ => ?_ | guard_hyp tb : 0 = 0; guard_hyp tc : 1 = 1; refine aC (doread_all.1 (n := n) (lba := sr) (nb := 16) (zN st [5] [6, 9, 10, 12]) hm10 hm20 hF0 hfs0 (by decide) (by omega) (by omega) (by omega) (fun i hi => by omega) hgood) fun v71 H10 ⟨pp, hv, st1⟩ => ?_ | guard_hyp tb : 1 = 1; guard_hyp tc : 0 = 0; refine aC (doread_all.2 (n := n) (lba := sr) (nb := 16) (zN st [5] [6, 9, 11, 13]) hm11 hm21 hF1 hfs1 (by decide) (by omega) (by omega) (by omega) (fun i hi => by omega) hgood) fun v71 H10 ⟨pp, hv, st1⟩ => ?_ | refine aC (doread_all.2 (n := n) (lba := sr) (nb := 16) (zN st [5] [6, 8, 11, 13]) hm11 hm21 hF1 hfs1 (by decide) (by omega) (by omega) (by omega) (fun i hi => by omega) hgood) fun v71 H10 ⟨pp, hv, st1⟩ => ?_
   subst hv
   replace st := st.callT (ob := some w) 5 rfl st1 rfl
   clear st1
   refine ⟨⟨zh st 3, zh st 3, trivial⟩, ?_⟩
   refine ⟨?_, trivial⟩
   refine zp st fun b12 H11 st => ?_
   refine ⟨⟨zh st 4, zh st 4, zh st 18, trivial⟩, ?_⟩
  rotate_left
  focus
   refine ⟨?_, trivial⟩
   refine zp st fun b12 H20 st => ?_
   refine ⟨⟨zh st 2, zh st 2, zh st 17, trivial⟩, ?_⟩
   refine ⟨?_, trivial⟩
   first | guard_hyp tb : 0 = 0; guard_hyp tc : 0 = 0; refine aC (doread_all.1 (n := n) (lba := sr) (nb := 16) (zN st [6] [7, 9, 11, 13]) hm10 hm20 hF0 hfs0 (by decide) (by omega) (by omega) (by omega) (fun i hi => by omega) hgood) fun v71 H21 ⟨pp, hv, st1⟩ => ?_ | guard_hyp tb : 0 = 0; guard_hyp tc : 1 = 1; refine aC (doread_all.1 (n := n) (lba := sr) (nb := 16) (zN st [6] [7, 10, 11, 13]) hm10 hm20 hF0 hfs0 (by decide) (by omega) (by omega) (by omega) (fun i hi => by omega) hgood) fun v71 H21 ⟨pp, hv, st1⟩ => ?_ | guard_hyp tb : 1 = 1; guard_hyp tc : 0 = 0; refine aC (doread_all.2 (n := n) (lba := sr) (nb := 16) (zN st [6] [7, 10, 12, 14]) hm11 hm21 hF1 hfs1 (by decide) (by omega) (by omega) (by omega) (fun i hi => by omega) hgood) fun v71 H21 ⟨pp, hv, st1⟩ => ?_ | refine aC (doread_all.2 (n := n) (lba := sr) (nb := 16) (zN st [6] [7, 9, 12, 14]) hm11 hm21 hF1 hfs1 (by decide) (by omega) (by omega) (by omega) (fun i hi => by omega) hgood) fun v71 H21 ⟨pp, hv, st1⟩ => ?_
   subst hv
   replace st := st.callT (ob := some w) 6 rfl st1 rfl
   clear st1
   refine ⟨⟨zh st 4, zh st 4, trivial⟩, ?_⟩
  all_goals
   refine ⟨?_, trivial⟩
   first | refine zx st 0 fun H12 st => ?_ | refine zx st 2 fun H22 st => ?_
   refine ⟨trivial, ?_⟩
   refine zw ?_
   refine zm ?_
   first | refine zl st 0 ?_ | refine zl st 2 ?_
   refine zb (.bool true) ?_
   show AW _ (.cond _ _ _) _ _ _
   refine cT rfl ?_
   refine zw ?_
   refine zm ?_
   first | refine aLdQ st 0 rfl rfl rfl rfl ?_ | refine aLdQ st 2 rfl rfl rfl rfl ?_
   first | first | guard_hyp tb : 0 = 0; have hxs : Sl H12 1 (pkL false (bsR fs0 sr n)).length ((pkL false (bsR fs0 sr n)).map (Value.int .u8)) (accV pp (pkL false (bsR fs0 sr n)).length 1) := (st.rowAcc 2 rfl (by decide) (by simp)) | have hxs : Sl H12 1 (pkL false (bsR fs1 sr n)).length ((pkL false (bsR fs1 sr n)).map (Value.int .u8)) (accV pp (pkL false (bsR fs1 sr n)).length 1) := (st.rowAcc 2 rfl (by decide) (by simp)) | first | guard_hyp tb : 0 = 0; have hxs : Sl H22 1 (pkL false (bsR fs0 sr n)).length ((pkL false (bsR fs0 sr n)).map (Value.int .u8)) (accV pp (pkL false (bsR fs0 sr n)).length 1) := (st.rowAcc 1 rfl (by decide) (by simp)) | have hxs : Sl H22 1 (pkL false (bsR fs1 sr n)).length ((pkL false (bsR fs1 sr n)).map (Value.int .u8)) (accV pp (pkL false (bsR fs1 sr n)).length 1) := (st.rowAcc 1 rfl (by decide) (by simp))
   refine aC (unpack_false_call hxs hbx (by omega) (by omega)) fun v78 H13 ⟨oc, hv, st1⟩ => ?_
   rw [hun, unL_len, hxn, hdec] at hv
   rw [hun] at st1
   subst hv
   replace st := st.call st1 rfl
   clear st1
   refine zm ?_
   refine aExtA rfl rfl ?_
   refine zm ?_
   refine aMovA rfl ?_
   refine zm ?_
   refine sE ?_
   show AWp _ _ _ _ _
   iterate 3 refine zm ?_
   refine zl st 19 ?_
   refine zm ?_
   refine zl st 5 ?_
   refine aMovA rfl ?_
   refine aLen (st.rowAcc 0 rfl (by decide) (by rw [encs_len hul, unL_len, hxn])) rfl ?_
   refine aConvV (n := (n : Int)) (n' := (n : Int)) rfl (by rw [w64]; omega) ?_
   refine aBld rfl (by repeat constructor) ?_
   refine zm ?_
   first | refine aLdQ st 1 rfl rfl rfl rfl ?_ | refine aLdQ st 3 rfl rfl rfl rfl ?_
   refine ⟨?_, trivial⟩
   rcases Nat.eq_zero_or_pos n with hz | hn0
   ·subst hz
    first | first | guard_hyp tc : 0 = 0; refine aC (dowrite0_all.1 (lba := ds) (nb := 16) (zM st [] [13, 15, 3]) (by decide) (by omega)) fun v93 H14 ⟨hv, st1⟩ => ?_ | refine aC (dowrite0_all.2 (lba := ds) (nb := 16) (zM st [] [14, 16, 3]) (by decide) (by omega)) fun v93 H14 ⟨hv, st1⟩ => ?_ | first | guard_hyp tc : 0 = 0; refine aC (dowrite0_all.1 (lba := ds) (nb := 16) (zM st [] [13, 15, 2]) (by decide) (by omega)) fun v93 H24 ⟨hv, st1⟩ => ?_ | refine aC (dowrite0_all.2 (lba := ds) (nb := 16) (zM st [] [14, 16, 2]) (by decide) (by omega)) fun v93 H24 ⟨hv, st1⟩ => ?_
    subst hv
    replace st := st.call st1 rfl
    clear st1
    refine ⟨⟨zh st 5, trivial⟩, ?_⟩
    refine ⟨?_, trivial⟩
    first | refine zx st 1 fun H15 st => ?_ | refine zx st 3 fun H25 st => ?_
    refine ⟨trivial, ?_⟩
    refine zw ?_
    refine zm ?_
    first | refine zl st 1 ?_ | refine zl st 3 ?_
    refine zb (.bool false) ?_
    refine zf ?_
    refine zw ?_
    refine zb (.int .i64 1) ?_
    refine zm ?_
    refine sE ?_
    show AW _ _ _ _ _
    refine zw ?_
    refine zb (.bool false) ?_
    refine zf ?_
    refine zw ?_
    refine zm ?_
    refine zl st 8 ?_
    refine aN (v := .int .i64 1) rfl rfl (by constructor) ?_
    refine aBld rfl (by repeat constructor) ?_
    refine zm ?_
    refine zx st 6 fun H16 st => ?_
    refine sE ?_
    refine ⟨_, out2 zr (zc st 6) ⟨rfl, rfl⟩, ?_⟩
    first | first | guard_hyp tc : 0 = 0; exact ⟨wb, ob0, c, cs, nw, _, rfl, hcs, by omega, ⟨by omega, by omega⟩, hF0, fun _ _ _ h => h, st.sel [2, 9, 10, 11] (by decide)⟩ | exact ⟨wb, ob1, c, cs, nw, _, rfl, hcs, by omega, ⟨by omega, by omega⟩, hF1, fun _ _ _ h => h, st.sel [2, 9, 10, 11] (by decide)⟩ | first | guard_hyp tc : 0 = 0; exact ⟨wb, ob0, c, cs, nw, _, rfl, hcs, by omega, ⟨by omega, by omega⟩, hF0, fun _ _ _ h => h, st.sel [1, 9, 10, 11] (by decide)⟩ | exact ⟨wb, ob1, c, cs, nw, _, rfl, hcs, by omega, ⟨by omega, by omega⟩, hF1, fun _ _ _ h => h, st.sel [1, 9, 10, 11] (by decide)⟩
   ·first | first | guard_hyp tc : 0 = 0; refine aC (dowrite_all.1 (lba := ds) (nb := 16) (zN st [2, 9, 10] [11, 13, 15, 3]) hbx hxl hm10 hm20 hcs (by omega) hn0 hF0 hfs0 (by decide) (by omega) (by omega) (by omega) (fun i hi => by omega)) fun v93 H17 ⟨wb1, ot1, c1, cs1, hv, hcs1, hF9, hO9, st1⟩ => ?_ | refine aC (dowrite_all.2 (lba := ds) (nb := 16) (zN st [2, 9, 10] [11, 14, 16, 3]) hbx hxl hm11 hm21 hcs (by omega) hn0 hF1 hfs1 (by decide) (by omega) (by omega) (by omega) (fun i hi => by omega)) fun v93 H17 ⟨wb1, ot1, c1, cs1, hv, hcs1, hF9, hO9, st1⟩ => ?_ | first | guard_hyp tc : 0 = 0; refine aC (dowrite_all.1 (lba := ds) (nb := 16) (zN st [1, 9, 10] [11, 13, 15, 2]) hbx hxl hm10 hm20 hcs (by omega) hn0 hF0 hfs0 (by decide) (by omega) (by omega) (by omega) (fun i hi => by omega)) fun v93 H27 ⟨wb1, ot1, c1, cs1, hv, hcs1, hF9, hO9, st1⟩ => ?_ | refine aC (dowrite_all.2 (lba := ds) (nb := 16) (zN st [1, 9, 10] [11, 14, 16, 2]) hbx hxl hm11 hm21 hcs (by omega) hn0 hF1 hfs1 (by decide) (by omega) (by omega) (by omega) (fun i hi => by omega)) fun v93 H27 ⟨wb1, ot1, c1, cs1, hv, hcs1, hF9, hO9, st1⟩ => ?_
    subst hv
    first | replace st := st.call3 (o1 := some w) (o2 := some sb) (o3 := wb) 2 8 8 rfl rfl rfl st1 rfl | replace st := st.call3 (o1 := some w) (o2 := some sb) (o3 := wb) 1 8 8 rfl rfl rfl st1 rfl
    clear st1
    refine ⟨⟨zh st 8, trivial⟩, ?_⟩
    refine ⟨?_, trivial⟩
    first | refine zx st 5 fun H18 st => ?_ | refine zx st 6 fun H28 st => ?_
    refine ⟨trivial, ?_⟩
    refine zw ?_
    refine zm ?_
    first | refine zl st 5 ?_ | refine zl st 6 ?_
    refine zb (.bool false) ?_
    refine zf ?_
    refine zw ?_
    refine zb (.int .i64 1) ?_
    refine zm ?_
    refine sE ?_
    show AW _ _ _ _ _
    refine zw ?_
    refine zb (.bool false) ?_
    refine zf ?_
    refine zw ?_
    refine zm ?_
    refine zl st 11 ?_
    refine aN (v := .int .i64 1) rfl rfl (by constructor) ?_
    refine aBld rfl (by repeat constructor) ?_
    refine zm ?_
    refine zx st 9 fun H19 st => ?_
    refine sE ?_
    refine ⟨_, out2 zr (zc st 9) ⟨rfl, rfl⟩, ?_⟩
    exact ⟨wb1, ot1, c1, cs1, nw + n, _, rfl, hcs1, by omega, ⟨by omega, by omega⟩, hF9, hO9, st.sel [0, 1, 2, 3] (by decide)⟩
end Go.Proofs.YtjmjkdelkaflmaaGreatDoor.Abs
