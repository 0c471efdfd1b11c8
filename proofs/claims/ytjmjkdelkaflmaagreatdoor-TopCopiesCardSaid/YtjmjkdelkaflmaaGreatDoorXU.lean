/- A unit is well. -/
import Derived.Test.YtjmjkdelkaflmaaGreatDoorXI
import Derived.Test.YtjmjkdelkaflmaaGreatDoorXT
import Derived.Test.YtjmjkdelkaflmaaGreatDoorT2
import Derived.Test.YtjmjkdelkaflmaaGreatDoorXM
set_option linter.unusedVariables false
set_option linter.unusedSimpArgs false
set_option maxRecDepth 100000
namespace Go.Proofs.YtjmjkdelkaflmaaGreatDoor.Abs
open Go Go.RowKit
set_option maxHeartbeats 4000000 in
theorem awake_call {H : Hp}  :
  ACalls Tryz.prog 5 [] H (fun v H' => v = .bool true ∧ Stt [] H H' []) := by
 refine acallsW Tryz.func5 f5_ok (Nat.le_of_ble_eq_true rfl) fun hw => ?_
 have st : Stt [] H H [] := Stt.start hw
 unfold f5c
 refine zw ?_
 refine zm ?_
 refine zw ?_
 refine aC wnew_call fun v2 H1 ⟨w, sb, db, hv, st1⟩ => ?_
 subst hv
 replace st := st.call st1 rfl
 clear st1
 refine aC (whole_call (pr := 0) (zN st [0] [1]) (by decide) rfl rfl (by decide) (by decide)) fun v3 H2 ⟨u, dv, s, k, pg, tb, q, o0, o1, o2, o3, o4, o5, o6, o7, ct, hv, st1⟩ => ?_
 subst hv
 replace st := st.callT (ob := some w) 0 rfl st1 rfl
 clear st1
 have st := st.nf (by repeat constructor)
 refine zm ?_
 refine zw ?_
 refine zm ?_
 refine zb (.bool true) ?_
 refine zm ?_
 refine zg ?_
 refine zm ?_
 refine zg ?_
 refine aNewS st rfl rfl (by repeat constructor) fun b8 H3 st => ?_
 refine zg ?_
 refine aC (do_ok (n := 0) (qs := [accV o0 0 1, accV o1 0 1, accV o2 0 1, accV o3 0 1, accV o4 0 1, accV o5 0 1, accV o6 0 1, accV o7 0 1]) (zN st [2] [8, 7, 6, 0, 9]) rfl (by decide) rfl) fun v9 H4 ⟨ct1, hv, st1⟩ => ?_
 subst hv
 replace st := st.callT (ob := some u) 2 rfl st1 rfl
 clear st1
 refine zg ?_
 refine aC (tgood0) fun v10 H5 ⟨hv, st1⟩ => ?_
 subst hv
 replace st := st.call st1 rfl
 clear st1
 iterate 2 refine zm ?_
 refine zg ?_
 refine aC (class_8) fun v13 H6 ⟨hv, st1⟩ => ?_
 subst hv
 replace st := st.call st1 rfl
 clear st1
 refine zg ?_
 refine zb (.bool true) ?_
 iterate 2 refine zm ?_
 refine sE ?_
 refine ⟨_, out1 zr, ?_⟩
 exact ⟨rfl, st.drop⟩
theorem tag1_doread_all (a : Nat) {p : Prop} (h : a = a → p) : p := h rfl
set_option maxHeartbeats 8000000 in
theorem doread_all : (∀ {H : Hp} {s w sb db lba n nb dv : Nat} {wv : Value} {ob : Option Nat} {c : List (Value × Value)} {nm : ByteArray} {fs : List (Option Bk)} {ops stop : Int} {ca : Bool} {lg al q7 q8 q9 q10 q11 q12 q13 q14 : Value} {y : Value} (st0 : Stt [w] H H [⟨some w, true, zW sb db wv ops stop⟩, ⟨some sb, false, ⟨true, .mp c, []⟩⟩, ⟨ob, false, ⟨true, 5, (fileL fs).map (Value.int .u8)⟩⟩, ⟨some s, false, ⟨true, 176, [zP w, .string nm, .int .i64 (nb : Int), .bool ca]⟩⟩, ⟨some dv, false, zD s 0⟩]) (hn1 : 1 ≤ nm.size) (hn2 : nm.size ≤ 32) (hF : FileAt c nm ob fs) (hfs : FsOk fs) (hnb : (nb : Int) ≤ 4096) (hlba : (lba : Int) + (n : Int) ≤ (nb : Int)) (hfl4 : fs.length ≤ 4096) (ho : 0 ≤ ops ∧ ops ≤ 900000000) (hs : ∀ i : Nat, i < n → ops + (i : Int) ≠ stop) (hgood : ∀ i, i < n → GoodB 0 (lba + i) (blkAt fs (lba + i))), ACalls Tryz.prog 65 [zP dv, .agg #[.int .u8 7, lg, .int .u64 (lba : Int), .int .u64 (n : Int), al, .bool false, .int .u8 0, q7, q8, q9, q10, q11, q12, q13, q14], y] H (fun v H' => ∃ pp, v = .agg #[.int .u8 0, .int .u8 0, .int .u16 0, .int .u64 0, .bool false, .int .i64 0, .int .i64 0, .bool false, .bool false, accV pp (pkL false (bsR fs lba n)).length 1] ∧ Stt [w] H H' [⟨some w, true, zW sb db wv (ops + (n : Int)) stop⟩, ⟨pp, true, ⟨true, 5, (pkL false (bsR fs lba n)).map (Value.int .u8)⟩⟩])) ∧
  (∀ {H : Hp} {s w sb db lba n nb dv : Nat} {wv : Value} {ob : Option Nat} {c : List (Value × Value)} {nm : ByteArray} {fs : List (Option Bk)} {ops stop : Int} {ca : Bool} {lg al q7 q8 q9 q10 q11 q12 q13 q14 : Value} {y : Value} (st0 : Stt [w] H H [⟨some w, true, zW sb db wv ops stop⟩, ⟨some sb, false, ⟨true, .mp c, []⟩⟩, ⟨ob, false, ⟨true, 5, (fileL fs).map (Value.int .u8)⟩⟩, ⟨some s, false, ⟨true, 176, [zP w, .string nm, .int .i64 (nb : Int), .bool ca]⟩⟩, ⟨some dv, false, zD s 1⟩]) (hn1 : 1 ≤ nm.size) (hn2 : nm.size ≤ 32) (hF : FileAt c nm ob fs) (hfs : FsOk fs) (hnb : (nb : Int) ≤ 4096) (hlba : (lba : Int) + (n : Int) ≤ (nb : Int)) (hfl4 : fs.length ≤ 4096) (ho : 0 ≤ ops ∧ ops ≤ 900000000) (hs : ∀ i : Nat, i < n → ops + (i : Int) ≠ stop) (hgood : ∀ i, i < n → GoodB 1 (lba + i) (blkAt fs (lba + i))), ACalls Tryz.prog 65 [zP dv, .agg #[.int .u8 7, lg, .int .u64 (lba : Int), .int .u64 (n : Int), al, .bool false, .int .u8 0, q7, q8, q9, q10, q11, q12, q13, q14], y] H (fun v H' => ∃ pp, v = .agg #[.int .u8 0, .int .u8 0, .int .u16 0, .int .u64 0, .bool false, .int .i64 0, .int .i64 0, .bool false, .bool false, accV pp (pkL false (bsR fs lba n)).length 1] ∧ Stt [w] H H' [⟨some w, true, zW sb db wv (ops + (n : Int)) stop⟩, ⟨pp, true, ⟨true, 5, (pkL false (bsR fs lba n)).map (Value.int .u8)⟩⟩])) := by
 refine ⟨@tag1_doread_all 0 _ ?_, @tag1_doread_all 1 _ ?_⟩ <;> intro ta H s w sb db lba n nb dv wv ob c nm fs ops stop ca lg al q7 q8 q9 q10 q11 q12 q13 q14 y st0 hn1 hn2 hF hfs hnb hlba hfl4 ho hs hgood
 all_goals
  refine acallsW Tryz.func65 f65_ok (Nat.le_of_ble_eq_true rfl) fun hw => ?_
  have st : Stt [w] H H [] := Stt.start hw
  replace st := st0
  unfold f65c
  refine zw ?_
  refine aBoxN st rfl rfl (by repeat constructor) rfl fun b4 H1 st => ?_
  refine zp st fun b6 H2 st => ?_
  refine zw ?_
  refine zm ?_
  refine zb (.bool false) ?_
  refine zm ?_
  refine zg ?_
  refine zm ?_
  refine zg ?_
  refine zm ?_
  refine zg ?_
  refine zm ?_
  refine zg ?_
  refine zl st 6 ?_
  refine zg ?_
  refine zb (.bool false) ?_
  refine zm ?_
  refine zf ?_
  show AWp _ _ _ _ _
  iterate 3 refine zm ?_
  refine zl st 6 ?_
  refine zm ?_
  refine zl st 1 ?_
  refine ⟨?_, trivial⟩
  first | guard_hyp ta : 0 = 0; refine aC (known_0) fun v30 H3 ⟨hv, st1⟩ => ?_ | refine aC (known_1) fun v30 H3 ⟨hv, st1⟩ => ?_
  subst hv
  replace st := st.call st1 rfl
  clear st1
  refine ⟨trivial, ?_⟩
  refine zm ?_
  refine zf ?_
  show AWp _ _ _ _ _
  refine zm ?_
  refine zl st 1 ?_
  refine zm ?_
  refine zl st 1 ?_
  refine zm ?_
  refine ⟨?_, trivial⟩
  refine aC (dblocks_call (zM st [] [6, 5]) hnb) fun v39 H4 ⟨hv, st1⟩ => ?_
  subst hv
  replace st := st.call st1 rfl
  clear st1
  refine ⟨⟨zh st 1, zh st 1, trivial⟩, ?_⟩
  refine ⟨?_, trivial⟩
  refine aC (within_call (by omega)) fun v40 H5 ⟨hv, st1⟩ => ?_
  subst hv
  replace st := st.call st1 rfl
  clear st1
  refine ⟨trivial, ?_⟩
  iterate 2 refine zm ?_
  iterate 3 refine zk ?_
  iterate 2 refine zm ?_
  iterate 3 refine zk ?_
  refine zm ?_
  refine zf ?_
  refine zw ?_
  refine zm ?_
  refine zl st 1 ?_
  refine zw ?_
  refine zb (.bool true) ?_
  refine zm ?_
  show AW _ (.cond _ _ _) _ _ _
  refine cT rfl ?_
  refine zw ?_
  refine zm ?_
  refine aLdA st 1 rfl rfl (by first | decide | simp [*]) (by repeat constructor) ?_
  first | guard_hyp ta : 0 = 0; refine aC (dread_0 (zN st [2] [3, 4, 5, 6]) hn1 hn2 hF hfs hnb hlba hfl4 ho hs hgood) fun v62 H6 ⟨ow, hv, st1⟩ => ?_ | refine aC (dread_1 (zN st [2] [3, 4, 5, 6]) hn1 hn2 hF hfs hnb hlba hfl4 ho hs hgood) fun v62 H6 ⟨ow, hv, st1⟩ => ?_
  subst hv
  replace st := st.callT (ob := some w) 2 rfl st1 rfl
  clear st1
  refine zm ?_
  refine aExtA rfl rfl ?_
  iterate 2 refine zm ?_
  refine zp st fun b8 H7 st => ?_
  refine aMovA rfl ?_
  refine zx st 0 fun H8 st => ?_
  refine zm ?_
  refine zw ?_
  iterate 2 refine zm ?_
  refine zf ?_
  refine zw ?_
  refine aMovA rfl ?_
  refine zm ?_
  refine zl st 4 ?_
  refine zb (.bool false) ?_
  refine aC (pack_call (w := false) (bs := bsR fs lba n) (by rw [bsR_len]; exact (st.rowAcc 2 rfl (by decide) (by rw [encs_len (bsR_ok hfs _ _), bsR_len]))) (bsR_ok hfs _ _) (by rw [bsR_len]; omega)) fun v73 H9 ⟨pp, hv, st1⟩ => ?_
  subst hv
  replace st := st.call st1 rfl
  clear st1
  refine aC (good_a) fun v74 H10 ⟨hv, st1⟩ => ?_
  subst hv
  replace st := st.call st1 rfl
  clear st1
  refine zx st 4 fun H11 st => ?_
  refine sE ?_
  refine ⟨_, out1 (zc st 4), ?_⟩
  exact ⟨pp, rfl, st.sel [2, 0] (by decide)⟩
theorem tag1_dowrite0_all (a : Nat) {p : Prop} (h : a = a → p) : p := h rfl
set_option maxHeartbeats 8000000 in
theorem dowrite0_all : (∀ {H : Hp} {s w lba nb dv : Nat} {nm : ByteArray} {ca : Bool} {xb : Option Nat} {lg al q7 q8 q9 q10 q11 q12 q13 q14 : Value} (st0 : Stt [] H H [⟨some s, false, ⟨true, 176, [zP w, .string nm, .int .i64 (nb : Int), .bool ca]⟩⟩, ⟨some dv, false, zD s 0⟩, ⟨xb, false, ⟨true, 5, []⟩⟩]) (hnb : (nb : Int) ≤ 4096) (hlba : (lba : Int) ≤ (nb : Int)), ACalls Tryz.prog 65 [zP dv, .agg #[.int .u8 8, lg, .int .u64 (lba : Int), .int .u64 0, al, .bool false, .int .u8 0, q7, q8, q9, q10, q11, q12, q13, q14], accV xb 0 1] H (fun v H' => v = zR ∧ Stt [] H H' [])) ∧
  (∀ {H : Hp} {s w lba nb dv : Nat} {nm : ByteArray} {ca : Bool} {xb : Option Nat} {lg al q7 q8 q9 q10 q11 q12 q13 q14 : Value} (st0 : Stt [] H H [⟨some s, false, ⟨true, 176, [zP w, .string nm, .int .i64 (nb : Int), .bool ca]⟩⟩, ⟨some dv, false, zD s 1⟩, ⟨xb, false, ⟨true, 5, []⟩⟩]) (hnb : (nb : Int) ≤ 4096) (hlba : (lba : Int) ≤ (nb : Int)), ACalls Tryz.prog 65 [zP dv, .agg #[.int .u8 8, lg, .int .u64 (lba : Int), .int .u64 0, al, .bool false, .int .u8 0, q7, q8, q9, q10, q11, q12, q13, q14], accV xb 0 1] H (fun v H' => v = zR ∧ Stt [] H H' [])) := by
 refine ⟨@tag1_dowrite0_all 0 _ ?_, @tag1_dowrite0_all 1 _ ?_⟩ <;> intro ta H s w lba nb dv nm ca xb lg al q7 q8 q9 q10 q11 q12 q13 q14 st0 hnb hlba
 all_goals
  refine acallsW Tryz.func65 f65_ok (Nat.le_of_ble_eq_true rfl) fun hw => ?_
  have st : Stt [] H H [] := Stt.start hw
  replace st := st0
  have hbx : ByteL [] := fun x hx => by cases hx
  have hxl : ([] : List Int).length = 16 * 0 := rfl
  unfold f65c
  refine zw ?_
  refine aBoxN st rfl rfl (by repeat constructor) rfl fun b4 H1 st => ?_
  refine zp st fun b6 H2 st => ?_
  refine zw ?_
  refine zm ?_
  refine zb (.bool false) ?_
  refine zm ?_
  refine zg ?_
  refine zm ?_
  refine zg ?_
  refine zm ?_
  refine zg ?_
  refine zm ?_
  refine zg ?_
  refine zl st 3 ?_
  refine zg ?_
  refine zb (.bool false) ?_
  refine zm ?_
  refine zf ?_
  show AWp _ _ _ _ _
  iterate 3 refine zm ?_
  refine zl st 3 ?_
  refine zm ?_
  refine zl st 1 ?_
  refine ⟨?_, trivial⟩
  first | guard_hyp ta : 0 = 0; refine aC (known_0) fun v30 H3 ⟨hv, st1⟩ => ?_ | refine aC (known_1) fun v30 H3 ⟨hv, st1⟩ => ?_
  subst hv
  replace st := st.call st1 rfl
  clear st1
  refine ⟨trivial, ?_⟩
  refine zm ?_
  refine zf ?_
  show AWp _ _ _ _ _
  refine zm ?_
  refine zl st 1 ?_
  refine zm ?_
  refine zl st 1 ?_
  refine zm ?_
  refine ⟨?_, trivial⟩
  refine aC (dblocks_call (zM st [] [3, 2]) hnb) fun v39 H4 ⟨hv, st1⟩ => ?_
  subst hv
  replace st := st.call st1 rfl
  clear st1
  refine ⟨⟨zh st 1, zh st 1, trivial⟩, ?_⟩
  refine ⟨?_, trivial⟩
  refine aC (within_call (by omega)) fun v40 H5 ⟨hv, st1⟩ => ?_
  subst hv
  replace st := st.call st1 rfl
  clear st1
  refine ⟨trivial, ?_⟩
  iterate 2 refine zm ?_
  iterate 3 refine zk ?_
  iterate 2 refine zm ?_
  iterate 3 refine zk ?_
  refine zm ?_
  refine zf ?_
  refine zw ?_
  refine zm ?_
  refine zl st 1 ?_
  refine zw ?_
  refine zb (.bool false) ?_
  refine zm ?_
  refine zf ?_
  refine zw ?_
  refine zb (.bool true) ?_
  refine zm ?_
  show AW _ (.cond _ _ _) _ _ _
  refine cT rfl ?_
  show AW _ (.cond _ _ _) _ _ _
  refine cT rfl ?_
  refine zw ?_
  refine zm ?_
  refine aLdA st 1 rfl rfl (by first | decide | simp [*]) (by repeat constructor) ?_
  refine aMovA rfl ?_
  refine zm ?_
  refine zl st 1 ?_
  first | guard_hyp ta : 0 = 0; refine aC (come_0 (xs := []) (n := 0) (zM st [] [3]) (by exact (st.rowAcc 4 rfl (by decide) (rfl))) hbx hxl (by omega)) fun v84 H6 ⟨oc, hv, st1⟩ => ?_ | refine aC (come_1 (xs := []) (n := 0) (zM st [] [3]) (by exact (st.rowAcc 4 rfl (by decide) (rfl))) hbx hxl (by omega)) fun v84 H6 ⟨oc, hv, st1⟩ => ?_
  subst hv
  replace st := st.call st1 rfl
  clear st1
  refine zm ?_
  refine aExtA rfl rfl ?_
  iterate 2 refine zm ?_
  refine zp st fun b11 H7 st => ?_
  refine aMovA rfl ?_
  refine zx st 0 fun H8 st => ?_
  refine zm ?_
  refine zw ?_
  iterate 2 refine zm ?_
  refine zf ?_
  refine zw ?_
  iterate 2 refine zm ?_
  refine zl st 3 ?_
  refine aMovA rfl ?_
  refine zm ?_
  refine zl st 3 ?_
  refine zm ?_
  refine zg ?_
  refine zm ?_
  refine zg ?_
  refine zl st 3 ?_
  refine zg ?_
  refine zb (.bool false) ?_
  refine zm ?_
  refine aC (dwrite_0 (zM st [] [4, 5, 1]) hnb hlba) fun v102 H9 ⟨hv, st1⟩ => ?_
  subst hv
  replace st := st.call st1 rfl
  clear st1
  refine zx st 2 fun H10 st => ?_
  refine sE ?_
  refine ⟨_, out1 (zc st 2), ?_⟩
  exact ⟨rfl, st.drop⟩
theorem tag1_dowrite_all (a : Nat) {p : Prop} (h : a = a → p) : p := h rfl
set_option maxHeartbeats 8000000 in
theorem dowrite_all : (∀ {H : Hp} {s w sb db lba nb nw dv n : Nat} {wb ob xb : Option Nat} {c : List (Value × Value)} {cs : List Value} {nm : ByteArray} {fs : List (Option Bk)} {xs : List Int} {ops stop : Int} {lg al q7 q8 q9 q10 q11 q12 q13 q14 : Value} (st0 : Stt ([w] ++ [sb] ++ wb.toList) H H [⟨some w, true, zW sb db (accV wb nw 5) ops stop⟩, ⟨some sb, true, ⟨true, .mp c, []⟩⟩, ⟨wb, true, ⟨true, 121, cs⟩⟩, ⟨ob, false, ⟨true, 5, (fileL fs).map (Value.int .u8)⟩⟩, ⟨some s, false, zS w nm (nb : Int)⟩, ⟨some dv, false, zD s 0⟩, ⟨xb, false, ⟨true, 5, xs.map (Value.int .u8)⟩⟩]) (hbx : ByteL xs) (hxl : xs.length = 16 * n) (hn1 : 1 ≤ nm.size) (hn2 : nm.size ≤ 32) (hcs : cs.length = nw * 5) (hnw : nw + n ≤ 1000000) (hn0 : 0 < n) (hF : FileAt c nm ob fs) (hfs : FsOk fs) (hnb : (nb : Int) ≤ 4096) (hlba : (lba : Int) + (n : Int) ≤ (nb : Int)) (hfl4 : fs.length ≤ nb) (ho : 0 ≤ ops ∧ ops ≤ 900000000) (hs : ∀ i : Nat, i < n → ops + (i : Int) ≠ stop), ACalls Tryz.prog 65 [zP dv, .agg #[.int .u8 8, lg, .int .u64 (lba : Int), .int .u64 (n : Int), al, .bool false, .int .u8 0, q7, q8, q9, q10, q11, q12, q13, q14], accV xb xs.length 1] H (fun v H' => ∃ wb1 ob1 c1 cs1, v = zR ∧ cs1.length = (nw + n) * 5 ∧ FileAt c1 nm ob1 (setN fs lba (mkN 0 lba (unL false xs) n) n) ∧ (∀ n2 u2, n2 ≠ nm → Found c n2 u2 → Found c1 n2 u2) ∧ Stt ([w] ++ [sb] ++ wb.toList) H H' [⟨some w, true, zW sb db (accV wb1 (nw + n) 5) (ops + (n : Int)) stop⟩, ⟨some sb, true, ⟨true, .mp c1, []⟩⟩, ⟨wb1, true, ⟨true, 121, cs1⟩⟩, ⟨ob1, true, ⟨true, 5, (fileL (setN fs lba (mkN 0 lba (unL false xs) n) n)).map (Value.int .u8)⟩⟩])) ∧
  (∀ {H : Hp} {s w sb db lba nb nw dv n : Nat} {wb ob xb : Option Nat} {c : List (Value × Value)} {cs : List Value} {nm : ByteArray} {fs : List (Option Bk)} {xs : List Int} {ops stop : Int} {lg al q7 q8 q9 q10 q11 q12 q13 q14 : Value} (st0 : Stt ([w] ++ [sb] ++ wb.toList) H H [⟨some w, true, zW sb db (accV wb nw 5) ops stop⟩, ⟨some sb, true, ⟨true, .mp c, []⟩⟩, ⟨wb, true, ⟨true, 121, cs⟩⟩, ⟨ob, false, ⟨true, 5, (fileL fs).map (Value.int .u8)⟩⟩, ⟨some s, false, zS w nm (nb : Int)⟩, ⟨some dv, false, zD s 1⟩, ⟨xb, false, ⟨true, 5, xs.map (Value.int .u8)⟩⟩]) (hbx : ByteL xs) (hxl : xs.length = 16 * n) (hn1 : 1 ≤ nm.size) (hn2 : nm.size ≤ 32) (hcs : cs.length = nw * 5) (hnw : nw + n ≤ 1000000) (hn0 : 0 < n) (hF : FileAt c nm ob fs) (hfs : FsOk fs) (hnb : (nb : Int) ≤ 4096) (hlba : (lba : Int) + (n : Int) ≤ (nb : Int)) (hfl4 : fs.length ≤ nb) (ho : 0 ≤ ops ∧ ops ≤ 900000000) (hs : ∀ i : Nat, i < n → ops + (i : Int) ≠ stop), ACalls Tryz.prog 65 [zP dv, .agg #[.int .u8 8, lg, .int .u64 (lba : Int), .int .u64 (n : Int), al, .bool false, .int .u8 0, q7, q8, q9, q10, q11, q12, q13, q14], accV xb xs.length 1] H (fun v H' => ∃ wb1 ob1 c1 cs1, v = zR ∧ cs1.length = (nw + n) * 5 ∧ FileAt c1 nm ob1 (setN fs lba (mkN 1 lba (unL false xs) n) n) ∧ (∀ n2 u2, n2 ≠ nm → Found c n2 u2 → Found c1 n2 u2) ∧ Stt ([w] ++ [sb] ++ wb.toList) H H' [⟨some w, true, zW sb db (accV wb1 (nw + n) 5) (ops + (n : Int)) stop⟩, ⟨some sb, true, ⟨true, .mp c1, []⟩⟩, ⟨wb1, true, ⟨true, 121, cs1⟩⟩, ⟨ob1, true, ⟨true, 5, (fileL (setN fs lba (mkN 1 lba (unL false xs) n) n)).map (Value.int .u8)⟩⟩])) := by
 refine ⟨@tag1_dowrite_all 0 _ ?_, @tag1_dowrite_all 1 _ ?_⟩ <;> intro ta H s w sb db lba nb nw dv n wb ob xb c cs nm fs xs ops stop lg al q7 q8 q9 q10 q11 q12 q13 q14 st0 hbx hxl hn1 hn2 hcs hnw hn0 hF hfs hnb hlba hfl4 ho hs
 all_goals
  refine acallsW Tryz.func65 f65_ok (Nat.le_of_ble_eq_true rfl) fun hw => ?_
  have st : Stt ([w] ++ [sb] ++ wb.toList) H H [] := Stt.start hw
  replace st := st0
  first | guard_hyp ta : 0 = 0; have hbs : BksOk (mkN 0 lba (unL false xs) n) := mkN_ok (unL_ok hbx) n | have hbs : BksOk (mkN 1 lba (unL false xs) n) := mkN_ok (unL_ok hbx) n
  first | guard_hyp ta : 0 = 0; have hbl : (mkN 0 lba (unL false xs) n).length = n := by rw [mkN_len, unL_len]; show xs.length / 16 = n; omega | have hbl : (mkN 1 lba (unL false xs) n).length = n := by rw [mkN_len, unL_len]; show xs.length / 16 = n; omega
  unfold f65c
  refine zw ?_
  refine aBoxN st rfl rfl (by repeat constructor) rfl fun b4 H1 st => ?_
  refine zp st fun b6 H2 st => ?_
  refine zw ?_
  refine zm ?_
  refine zb (.bool false) ?_
  refine zm ?_
  refine zg ?_
  refine zm ?_
  refine zg ?_
  refine zm ?_
  refine zg ?_
  refine zm ?_
  refine zg ?_
  refine zl st 7 ?_
  refine zg ?_
  refine zb (.bool false) ?_
  refine zm ?_
  refine zf ?_
  show AWp _ _ _ _ _
  iterate 3 refine zm ?_
  refine zl st 7 ?_
  refine zm ?_
  refine zl st 1 ?_
  refine ⟨?_, trivial⟩
  first | guard_hyp ta : 0 = 0; refine aC (known_0) fun v30 H3 ⟨hv, st1⟩ => ?_ | refine aC (known_1) fun v30 H3 ⟨hv, st1⟩ => ?_
  subst hv
  replace st := st.call st1 rfl
  clear st1
  refine ⟨trivial, ?_⟩
  refine zm ?_
  refine zf ?_
  show AWp _ _ _ _ _
  refine zm ?_
  refine zl st 1 ?_
  refine zm ?_
  refine zl st 1 ?_
  refine zm ?_
  refine ⟨?_, trivial⟩
  refine aC (dblocks_call (zM st [] [7, 6]) hnb) fun v39 H4 ⟨hv, st1⟩ => ?_
  subst hv
  replace st := st.call st1 rfl
  clear st1
  refine ⟨⟨zh st 1, zh st 1, trivial⟩, ?_⟩
  refine ⟨?_, trivial⟩
  refine aC (within_call (by omega)) fun v40 H5 ⟨hv, st1⟩ => ?_
  subst hv
  replace st := st.call st1 rfl
  clear st1
  refine ⟨trivial, ?_⟩
  iterate 2 refine zm ?_
  iterate 3 refine zk ?_
  iterate 2 refine zm ?_
  iterate 3 refine zk ?_
  refine zm ?_
  refine zf ?_
  refine zw ?_
  refine zm ?_
  refine zl st 1 ?_
  refine zw ?_
  refine zb (.bool false) ?_
  refine zm ?_
  refine zf ?_
  refine zw ?_
  refine zb (.bool true) ?_
  refine zm ?_
  show AW _ (.cond _ _ _) _ _ _
  refine cT rfl ?_
  show AW _ (.cond _ _ _) _ _ _
  refine cT rfl ?_
  refine zw ?_
  refine zm ?_
  refine aLdA st 1 rfl rfl (by first | decide | simp [*]) (by repeat constructor) ?_
  refine aMovA rfl ?_
  refine zm ?_
  refine zl st 1 ?_
  first | guard_hyp ta : 0 = 0; refine aC (come_0 (xs := xs) (n := n) (zM st [] [7]) (by exact (st.rowAcc 8 rfl (by decide) (by simp))) hbx hxl (by omega)) fun v84 H6 ⟨oc, hv, st1⟩ => ?_ | refine aC (come_1 (xs := xs) (n := n) (zM st [] [7]) (by exact (st.rowAcc 8 rfl (by decide) (by simp))) hbx hxl (by omega)) fun v84 H6 ⟨oc, hv, st1⟩ => ?_
  subst hv
  replace st := st.call st1 rfl
  clear st1
  refine zm ?_
  refine aExtA rfl rfl ?_
  iterate 2 refine zm ?_
  refine zp st fun b11 H7 st => ?_
  refine aMovA rfl ?_
  refine zx st 0 fun H8 st => ?_
  refine zm ?_
  refine zw ?_
  iterate 2 refine zm ?_
  refine zf ?_
  refine zw ?_
  iterate 2 refine zm ?_
  refine zl st 3 ?_
  refine aMovA rfl ?_
  refine zm ?_
  refine zl st 3 ?_
  refine zm ?_
  refine zg ?_
  refine zm ?_
  refine zg ?_
  refine zl st 3 ?_
  refine zg ?_
  refine zb (.bool false) ?_
  refine zm ?_
  first | guard_hyp ta : 0 = 0; refine aC (dwrite_ok (bs := (mkN 0 lba (unL false xs) n)) (zN st [4, 5, 6] [7, 8, 9, 1]) hn1 hn2 hcs (by rw [hbl]; exact hnw) hbs (by rw [hbl]; exact hn0) hF hfs hnb (by rw [hbl]; exact hlba) hfl4 ho (by rw [hbl]; exact hs)) fun v102 H9 ⟨wb1, ob1, c1, cs1, hv, hcs1, hF1, hO1, st1⟩ => ?_ | refine aC (dwrite_ok (bs := (mkN 1 lba (unL false xs) n)) (zN st [4, 5, 6] [7, 8, 9, 1]) hn1 hn2 hcs (by rw [hbl]; exact hnw) hbs (by rw [hbl]; exact hn0) hF hfs hnb (by rw [hbl]; exact hlba) hfl4 ho (by rw [hbl]; exact hs)) fun v102 H9 ⟨wb1, ob1, c1, cs1, hv, hcs1, hF1, hO1, st1⟩ => ?_
  rw [hbl] at hcs1 hF1 st1
  subst hv
  replace st := st.call3 (o1 := some w) (o2 := some sb) (o3 := wb) 4 4 4 rfl rfl rfl st1 rfl
  clear st1
  refine zx st 6 fun H10 st => ?_
  refine sE ?_
  refine ⟨_, out1 (zc st 6), ?_⟩
  exact ⟨wb1, ob1, c1, cs1, rfl, hcs1, hF1, hO1, st.sel [0, 1, 2, 3] (by decide)⟩
end Go.Proofs.YtjmjkdelkaflmaaGreatDoor.Abs
