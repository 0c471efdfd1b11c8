/- A unit is asked whether it is ready. -/
import Derived.Test.YtjmjkdelkaflmaaGreatDoorXI
import Derived.Test.YtjmjkdelkaflmaaGreatDoorXP
import Derived.Test.YtjmjkdelkaflmaaGreatDoorXS
set_option linter.unusedVariables false
set_option linter.unusedSimpArgs false
set_option maxRecDepth 100000
namespace Go.Proofs.YtjmjkdelkaflmaaGreatDoor.Abs
open Go Go.RowKit
theorem ucheck_call {H : Hp} {s0 s1 s2 s3 s4 s5 s6 s7 : Value}  :
  ACalls Tryz.prog 20 [.agg #[s0, s1, s2, s3, s4, s5, s6, s7]] H (fun v H' => v = .agg #[.int .u8 2, s0, s1, s2, s3, s4, s5, s6, s7, .slice none 0 0] ∧ Stt [] H H' []) := by
 refine acallsW Tryz.func20 f20_ok (Nat.le_of_ble_eq_true rfl) fun hw => ?_
 have st : Stt [] H H [] := Stt.start hw
 unfold f20c
 refine zw ?_
 refine aBoxN st rfl rfl (by repeat constructor) rfl fun b1 H1 st => ?_
 refine zp st fun b2 H2 st => ?_
 refine zw ?_
 refine aLdA st 1 rfl rfl (by first | decide | simp [*]) (by repeat constructor) ?_
 refine aBld rfl (by repeat constructor) ?_
 refine zx st 0 fun H3 st => ?_
 refine sE ?_
 refine ⟨_, out1 (zc st 0), ?_⟩
 exact ⟨rfl, st.drop⟩
theorem run_ready {H : Hp} {u n : Nat}  :
  ACalls Tryz.prog 29 [zP u, .int .i64 (n : Int), .agg #[.int .u8 1, .bool false, .int .u64 0, .int .u64 0, .int .i64 0, .bool false, .int .u8 0, .bool false, .bool false, .int .u8 0, .int .u8 0, .bool false, .int .u8 0, .int .u8 0, .bool false], .slice none 0 0] H (fun v H' => v = zR ∧ Stt [] H H' []) := by
 refine acallsW Tryz.func29 f29_ok (Nat.le_of_ble_eq_true rfl) fun hw => ?_
 have st : Stt [] H H [] := Stt.start hw
 unfold f29c
 refine zw ?_
 refine aBoxN st rfl rfl (by repeat constructor) rfl fun b6 H1 st => ?_
 refine zp st fun b8 H2 st => ?_
 refine zw ?_
 refine zm ?_
 refine zl st 1 ?_
 refine zw ?_
 refine zb (.bool true) ?_
 refine zm ?_
 show AW _ (.cond _ _ _) _ _ _
 refine cT rfl ?_
 refine zw ?_
 refine aBld rfl (by repeat constructor) ?_
 refine zx st 0 fun H3 st => ?_
 refine sE ?_
 refine ⟨_, out1 (zc st 0), ?_⟩
 exact ⟨rfl, st.drop⟩
theorem do_ok {o : Option Nat} {H : Hp} {u cb n : Nat} {om : Int} {qs : List Value} {i0 i1 i2 i3 : ByteArray} {pr : Int} {dv k pg tb q : Nat} {pe : Value} {ct : Int} (st0 : Stt [u] H H [⟨some u, true, ⟨true, 103, [.string i0, .string i1, .string i2, .string i3, .int .u8 pr, zP dv, zP k, zP pg, zP tb, zP q, pe, .int .u32 1, .int .i32 om, .int .u32 0, .int .i64 0, .int .i64 ct]⟩⟩, ⟨some q, false, ⟨true, 154, qs⟩⟩, ⟨some tb, false, zT⟩, ⟨some pg, false, zG⟩, ⟨some cb, false, ⟨true, 5, ([0, 0, 0, 0, 0, 0] : List Int).map (Value.int .u8)⟩⟩, ⟨o, false, ⟨true, 23, []⟩⟩]) (hl : qs.length = 8) (hn : n < 8) (hq : qs[n]? = some (accV o 0 1)) :
  ACalls Tryz.prog 12 [zP u, .int .i64 (n : Int), .slice (some ⟨cb, 0, none⟩) 6 1, .slice none 0 0] H (fun v H' => ∃ ct1, v = zR ∧ Stt [u] H H' [⟨some u, true, ⟨true, 103, [.string i0, .string i1, .string i2, .string i3, .int .u8 pr, zP dv, zP k, zP pg, zP tb, zP q, pe, .int .u32 1, .int .i32 om, .int .u32 0, .int .i64 0, .int .i64 ct1]⟩⟩]) := by
 refine acallsW Tryz.func12 f12_ok (Nat.le_of_ble_eq_true rfl) fun hw => ?_
 have st : Stt [u] H H [] := Stt.start hw
 replace st := st0
 unfold f12c
 refine zw ?_
 refine zp st fun b8 H1 st => ?_
 refine zw ?_
 refine zm ?_
 refine zb (.bool false) ?_
 refine zm ?_
 refine zg ?_
 refine zm ?_
 refine zg ?_
 refine zm ?_
 refine zg ?_
 refine zm ?_
 refine zg ?_
 refine zl st 1 ?_
 refine zg ?_
 refine zb (.bool false) ?_
 iterate 2 refine zm ?_
 refine zg ?_
 refine zm ?_
 refine zg ?_
 refine aBinV (.bool false) rfl rfl (ltF (by omega)) ?_
 iterate 2 refine zm ?_
 refine zg ?_
 refine zm ?_
 refine zg ?_
 refine aBinV (.bool false) rfl rfl (geF (by omega)) ?_
 refine zm ?_
 refine zf ?_
 refine zw ?_
 iterate 3 refine zm ?_
 refine aC (uadd_call (zN st [1] [])) fun v37 H2 ⟨n37, hv, st1⟩ => ?_
 subst hv
 replace st := st.callT (ob := some u) 1 rfl st1 rfl
 clear st1
 refine zw ?_
 refine zm ?_
 refine aC (start_1 (zM st [] [0])) fun v39 H3 ⟨hv, st1⟩ => ?_
 subst hv
 replace st := st.call st1 rfl
 clear st1
 refine zb (.bool false) ?_
 refine zf ?_
 refine zw ?_
 refine zm ?_
 refine aC (parse_0 ((st.rowAll 5 rfl (rfl)))) fun v45 H4 ⟨hv, st1⟩ => ?_
 subst hv
 replace st := st.call st1 rfl
 clear st1
 iterate 4 refine zm ?_
 refine zp st fun b9 H5 st => ?_
 refine zp st fun b10 H6 st => ?_
 refine zx st 1 fun H7 st => ?_
 refine zx st 0 fun H8 st => ?_
 refine zm ?_
 refine zw ?_
 iterate 2 refine zm ?_
 refine zf ?_
 refine zw ?_
 refine zm ?_
 refine zl st 1 ?_
 refine zb (.bool false) ?_
 refine zm ?_
 refine zg ?_
 refine zm ?_
 refine zg ?_
 refine zl st 1 ?_
 refine zg ?_
 refine zb (.bool false) ?_
 iterate 2 refine zm ?_
 refine zg ?_
 refine zm ?_
 refine zg ?_
 refine zl st 1 ?_
 refine zg ?_
 refine zb (.bool false) ?_
 iterate 2 refine zm ?_
 refine zw ?_
 iterate 3 refine zm ?_
 refine zl st 2 ?_
 refine zm ?_
 refine aC (qpeek_e (b := 0) (zM st [] [4, 8]) hl hn hq) fun v72 H9 ⟨hv, st1⟩ => ?_
 subst hv
 replace st := st.call st1 rfl
 clear st1
 iterate 5 refine zm ?_
 refine zw ?_
 iterate 2 refine zm ?_
 iterate 2 refine zk ?_
 refine zm ?_
 refine zf ?_
 show AWp _ _ _ _ _
 iterate 3 refine zm ?_
 refine zl st 2 ?_
 iterate 2 refine zm ?_
 refine zl st 1 ?_
 refine ⟨?_, trivial⟩
 refine aC (class_1) fun v96 H10 ⟨hv, st1⟩ => ?_
 subst hv
 replace st := st.call st1 rfl
 clear st1
 refine ⟨⟨zh st 2, trivial⟩, ?_⟩
 refine ⟨?_, trivial⟩
 refine aC (conflict_call (zM st [] [5])) fun v97 H11 ⟨hv, st1⟩ => ?_
 subst hv
 replace st := st.call st1 rfl
 clear st1
 refine ⟨⟨zh st 1, trivial⟩, ?_⟩
 refine zf ?_
 refine zw ?_
 refine zm ?_
 refine zl st 1 ?_
 refine aC (alters_1) fun v101 H12 ⟨hv, st1⟩ => ?_
 subst hv
 replace st := st.call st1 rfl
 clear st1
 refine zm ?_
 iterate 6 refine zk ?_
 refine zm ?_
 refine zf ?_
 refine zw ?_
 iterate 2 refine zm ?_
 refine aLdA st 1 rfl rfl (by first | decide | simp [*]) (by repeat constructor) ?_
 refine zm ?_
 refine aC (run_ready) fun v116 H13 ⟨hv, st1⟩ => ?_
 subst hv
 replace st := st.call st1 rfl
 clear st1
 refine zx st 3 fun H14 st => ?_
 refine sE ?_
 refine ⟨_, out1 (zc st 3), ?_⟩
 exact ⟨_, rfl, st.sel [2] (by decide)⟩
theorem do_pend {bn : Nat} {H : Hp} {u cb n : Nat} {om : Int} {qs : List Value} {i0 i1 i2 i3 : ByteArray} {pr : Int} {dv k pg tb q : Nat} {pe : Value} {ct : Int} (st0 : Stt ([q] ++ [u]) H H [⟨some q, true, ⟨true, 154, qs⟩⟩, ⟨some u, true, ⟨true, 103, [.string i0, .string i1, .string i2, .string i3, .int .u8 pr, zP dv, zP k, zP pg, zP tb, zP q, pe, .int .u32 1, .int .i32 om, .int .u32 0, .int .i64 0, .int .i64 ct]⟩⟩, ⟨some cb, false, ⟨true, 5, ([0, 0, 0, 0, 0, 0] : List Int).map (Value.int .u8)⟩⟩, ⟨some bn, false, ⟨true, 23, [.int .u16 10496]⟩⟩]) (hl : qs.length = 8) (hn : n < 8) (hq : qs[n]? = some (.slice (some ⟨bn, 0, none⟩) 1 1)) :
  ACalls Tryz.prog 12 [zP u, .int .i64 (n : Int), .slice (some ⟨cb, 0, none⟩) 6 1, .slice none 0 0] H (fun v H' => ∃ o ct1, v = .agg #[.int .u8 2, .int .u8 6, .int .u16 10496, .int .u64 0, .bool false, .int .i64 0, .int .i64 0, .bool false, .bool false, .slice none 0 0] ∧ Stt ([q] ++ [u]) H H' [⟨some q, true, ⟨true, 154, (qs.set n (accV o 0 1))⟩⟩, ⟨some u, true, ⟨true, 103, [.string i0, .string i1, .string i2, .string i3, .int .u8 pr, zP dv, zP k, zP pg, zP tb, zP q, pe, .int .u32 1, .int .i32 om, .int .u32 0, .int .i64 0, .int .i64 ct1]⟩⟩, ⟨o, true, ⟨true, 23, []⟩⟩]) := by
 refine acallsW Tryz.func12 f12_ok (Nat.le_of_ble_eq_true rfl) fun hw => ?_
 have st : Stt ([q] ++ [u]) H H [] := Stt.start hw
 replace st := st0
 unfold f12c
 refine zw ?_
 refine zp st fun b8 H1 st => ?_
 refine zw ?_
 refine zm ?_
 refine zb (.bool false) ?_
 refine zm ?_
 refine zg ?_
 refine zm ?_
 refine zg ?_
 refine zm ?_
 refine zg ?_
 refine zm ?_
 refine zg ?_
 refine zl st 2 ?_
 refine zg ?_
 refine zb (.bool false) ?_
 iterate 2 refine zm ?_
 refine zg ?_
 refine zm ?_
 refine zg ?_
 refine aBinV (.bool false) rfl rfl (ltF (by omega)) ?_
 iterate 2 refine zm ?_
 refine zg ?_
 refine zm ?_
 refine zg ?_
 refine aBinV (.bool false) rfl rfl (geF (by omega)) ?_
 refine zm ?_
 refine zf ?_
 refine zw ?_
 iterate 3 refine zm ?_
 refine aC (uadd_call (zN st [2] [])) fun v37 H2 ⟨n37, hv, st1⟩ => ?_
 subst hv
 replace st := st.callT (ob := some u) 2 rfl st1 rfl
 clear st1
 refine zw ?_
 refine zm ?_
 refine aC (start_1 (zM st [] [0])) fun v39 H3 ⟨hv, st1⟩ => ?_
 subst hv
 replace st := st.call st1 rfl
 clear st1
 refine zb (.bool false) ?_
 refine zf ?_
 refine zw ?_
 refine zm ?_
 refine aC (parse_0 ((st.rowAll 3 rfl (rfl)))) fun v45 H4 ⟨hv, st1⟩ => ?_
 subst hv
 replace st := st.call st1 rfl
 clear st1
 iterate 4 refine zm ?_
 refine zp st fun b9 H5 st => ?_
 refine zp st fun b10 H6 st => ?_
 refine zx st 1 fun H7 st => ?_
 refine zx st 0 fun H8 st => ?_
 refine zm ?_
 refine zw ?_
 iterate 2 refine zm ?_
 refine zf ?_
 refine zw ?_
 refine zm ?_
 refine zl st 1 ?_
 refine zb (.bool false) ?_
 refine zm ?_
 refine zg ?_
 refine zm ?_
 refine zg ?_
 refine zl st 1 ?_
 refine zg ?_
 refine zb (.bool false) ?_
 iterate 2 refine zm ?_
 refine zg ?_
 refine zm ?_
 refine zg ?_
 refine zl st 1 ?_
 refine zg ?_
 refine zb (.bool false) ?_
 iterate 2 refine zm ?_
 refine zw ?_
 iterate 3 refine zm ?_
 refine zl st 2 ?_
 refine zm ?_
 refine aC (qpeek_p (o := none) (zM st [] [4, 6]) hl hn hq) fun v72 H9 ⟨hv, st1⟩ => ?_
 subst hv
 replace st := st.call st1 rfl
 clear st1
 iterate 5 refine zm ?_
 refine zw ?_
 iterate 2 refine zm ?_
 refine zg ?_
 refine zm ?_
 refine zg ?_
 iterate 2 refine zm ?_
 show AW _ (.cond _ _ _) _ _ _
 refine cT rfl ?_
 refine zw ?_
 iterate 3 refine zm ?_
 refine zl st 2 ?_
 refine zm ?_
 refine aC (qnext_p (zN st [4] [6]) hl hn hq) fun v85 H10 ⟨o85, hv, st1⟩ => ?_
 subst hv
 replace st := st.callT (ob := some q) 4 rfl st1 rfl
 clear st1
 refine zw ?_
 refine zm ?_
 refine aBld rfl (by repeat constructor) ?_
 refine aC (ucheck_call) fun v88 H11 ⟨hv, st1⟩ => ?_
 subst hv
 replace st := st.call st1 rfl
 clear st1
 refine zx st 5 fun H12 st => ?_
 refine sE ?_
 refine ⟨_, out1 (zc st 5), ?_⟩
 exact ⟨o85, _, rfl, st.sel [0, 4, 1] (by decide)⟩
theorem do_first {H : Hp} {w sb db u cb : Nat} {wv : Value} {c : List (Value × Value)} {fp : ByteArray} {ops stop : Int} {i0 i1 i2 i3 : ByteArray} {pr : Int} {dv k pg tb q : Nat} {pe : Value} {fa ct : Int} (st0 : Stt ([w] ++ [k] ++ [q] ++ [u]) H H [⟨some w, true, zW sb db wv ops stop⟩, ⟨some k, true, ⟨true, 178, [zP w, .string fp, .bool false, .int .i64 (-1), .int .u64 0]⟩⟩, ⟨some q, true, ⟨true, 154, [.slice none 0 0, .slice none 0 0, .slice none 0 0, .slice none 0 0, .slice none 0 0, .slice none 0 0, .slice none 0 0, .slice none 0 0]⟩⟩, ⟨some u, true, ⟨true, 103, [.string i0, .string i1, .string i2, .string i3, .int .u8 pr, zP dv, zP k, zP pg, zP tb, zP q, pe, .int .u32 0, .int .i32 0, .int .u32 0, .int .i64 fa, .int .i64 ct]⟩⟩, ⟨some sb, false, ⟨true, .mp c, []⟩⟩, ⟨some cb, false, ⟨true, 5, ([0, 0, 0, 0, 0, 0] : List Int).map (Value.int .u8)⟩⟩]) (hfp : 1 ≤ fp.size ∧ fp.size ≤ 30) (hf0 : Found c ((fp ++ ⟨#[46]⟩) ++ ⟨#[48]⟩) none) (hf1 : Found c ((fp ++ ⟨#[46]⟩) ++ ⟨#[49]⟩) none) (ho : 0 ≤ ops ∧ ops ≤ 900000000) (hs : stop < 0) :
  ACalls Tryz.prog 12 [zP u, .int .i64 0, .slice (some ⟨cb, 0, none⟩) 6 1, .slice none 0 0] H (fun v H' => ∃ o b1 b2 b3 b4 b5 b6 b7 ct1, v = .agg #[.int .u8 2, .int .u8 6, .int .u16 10496, .int .u64 0, .bool false, .int .i64 0, .int .i64 0, .bool false, .bool false, .slice none 0 0] ∧ Stt ([w] ++ [k] ++ [q] ++ [u]) H H' [⟨some w, true, zW sb db wv (ops + 2) stop⟩, ⟨some k, true, ⟨true, 178, [zP w, .string fp, .bool true, .int .i64 (-1), .int .u64 0]⟩⟩, ⟨some q, true, ⟨true, 154, [accV o 0 1, .slice (some ⟨b1, 0, none⟩) 1 1, .slice (some ⟨b2, 0, none⟩) 1 1, .slice (some ⟨b3, 0, none⟩) 1 1, .slice (some ⟨b4, 0, none⟩) 1 1, .slice (some ⟨b5, 0, none⟩) 1 1, .slice (some ⟨b6, 0, none⟩) 1 1, .slice (some ⟨b7, 0, none⟩) 1 1]⟩⟩, ⟨some u, true, ⟨true, 103, [.string i0, .string i1, .string i2, .string i3, .int .u8 pr, zP dv, zP k, zP pg, zP tb, zP q, pe, .int .u32 1, .int .i32 0, .int .u32 0, .int .i64 0, .int .i64 ct1]⟩⟩, ⟨o, true, ⟨true, 23, []⟩⟩, ⟨some b1, true, ⟨true, 23, [.int .u16 10496]⟩⟩, ⟨some b2, true, ⟨true, 23, [.int .u16 10496]⟩⟩, ⟨some b3, true, ⟨true, 23, [.int .u16 10496]⟩⟩, ⟨some b4, true, ⟨true, 23, [.int .u16 10496]⟩⟩, ⟨some b5, true, ⟨true, 23, [.int .u16 10496]⟩⟩, ⟨some b6, true, ⟨true, 23, [.int .u16 10496]⟩⟩, ⟨some b7, true, ⟨true, 23, [.int .u16 10496]⟩⟩]) := by
 refine acallsW Tryz.func12 f12_ok (Nat.le_of_ble_eq_true rfl) fun hw => ?_
 have st : Stt ([w] ++ [k] ++ [q] ++ [u]) H H [] := Stt.start hw
 replace st := st0
 unfold f12c
 refine zw ?_
 refine zp st fun b8 H1 st => ?_
 refine zw ?_
 refine zm ?_
 refine zb (.bool false) ?_
 refine zm ?_
 refine zg ?_
 refine zm ?_
 refine zg ?_
 refine zm ?_
 refine zg ?_
 refine zm ?_
 refine zg ?_
 refine zl st 4 ?_
 refine zg ?_
 refine zb (.bool false) ?_
 iterate 2 refine zm ?_
 refine zg ?_
 refine zm ?_
 refine zg ?_
 refine zb (.bool false) ?_
 iterate 2 refine zm ?_
 refine zg ?_
 refine zm ?_
 refine zg ?_
 refine zb (.bool false) ?_
 refine zm ?_
 refine zf ?_
 refine zw ?_
 iterate 3 refine zm ?_
 refine aC (uadd_call (zN st [4] [])) fun v37 H2 ⟨n37, hv, st1⟩ => ?_
 subst hv
 replace st := st.callT (ob := some u) 4 rfl st1 rfl
 clear st1
 refine zw ?_
 refine zm ?_
 refine aC (start_0 (st.takeW [2, 3, 4, 0] [5] (by decide) (by intro p hp b hb; simp at hp; rcases hp with rfl | rfl | rfl | rfl <;> simp_all)) hfp hf0 hf1 ho hs) fun v39 H3 ⟨b0, b1, b2, b3, b4, b5, b6, b7, hv, st1⟩ => ?_
 subst hv
 replace st := st.call4 (o1 := some w) (o2 := some k) (o3 := some q) (o4 := some u) 2 2 2 0 rfl rfl rfl rfl st1 rfl
 clear st1
 refine zb (.bool false) ?_
 refine zf ?_
 refine zw ?_
 refine zm ?_
 refine aC (parse_0 ((st.rowAll 14 rfl (rfl)))) fun v45 H4 ⟨hv, st1⟩ => ?_
 subst hv
 replace st := st.call st1 rfl
 clear st1
 iterate 4 refine zm ?_
 refine zp st fun b9 H5 st => ?_
 refine zp st fun b10 H6 st => ?_
 refine zx st 1 fun H7 st => ?_
 refine zx st 0 fun H8 st => ?_
 refine zm ?_
 refine zw ?_
 iterate 2 refine zm ?_
 refine zf ?_
 refine zw ?_
 refine zm ?_
 refine zl st 1 ?_
 refine zb (.bool false) ?_
 refine zm ?_
 refine zg ?_
 refine zm ?_
 refine zg ?_
 refine zl st 1 ?_
 refine zg ?_
 refine zb (.bool false) ?_
 iterate 2 refine zm ?_
 refine zg ?_
 refine zm ?_
 refine zg ?_
 refine zl st 1 ?_
 refine zg ?_
 refine zb (.bool false) ?_
 iterate 2 refine zm ?_
 refine zw ?_
 iterate 3 refine zm ?_
 refine zl st 5 ?_
 refine zm ?_
 refine aC (qpeek_p (o := none) (n := 0) (qs := [.slice (some ⟨b0, 0, none⟩) 1 1, .slice (some ⟨b1, 0, none⟩) 1 1, .slice (some ⟨b2, 0, none⟩) 1 1, .slice (some ⟨b3, 0, none⟩) 1 1, .slice (some ⟨b4, 0, none⟩) 1 1, .slice (some ⟨b5, 0, none⟩) 1 1, .slice (some ⟨b6, 0, none⟩) 1 1, .slice (some ⟨b7, 0, none⟩) 1 1]) (zM st [] [4, 6]) rfl (by decide) rfl) fun v72 H9 ⟨hv, st1⟩ => ?_
 subst hv
 replace st := st.call st1 rfl
 clear st1
 iterate 5 refine zm ?_
 refine zw ?_
 iterate 2 refine zm ?_
 refine zg ?_
 refine zm ?_
 refine zg ?_
 iterate 2 refine zm ?_
 show AW _ (.cond _ _ _) _ _ _
 refine cT rfl ?_
 refine zw ?_
 iterate 3 refine zm ?_
 refine zl st 5 ?_
 refine zm ?_
 refine aC (qnext_p (n := 0) (qs := [.slice (some ⟨b0, 0, none⟩) 1 1, .slice (some ⟨b1, 0, none⟩) 1 1, .slice (some ⟨b2, 0, none⟩) 1 1, .slice (some ⟨b3, 0, none⟩) 1 1, .slice (some ⟨b4, 0, none⟩) 1 1, .slice (some ⟨b5, 0, none⟩) 1 1, .slice (some ⟨b6, 0, none⟩) 1 1, .slice (some ⟨b7, 0, none⟩) 1 1]) (zN st [4] [6]) rfl (by decide) rfl) fun v85 H10 ⟨o85, hv, st1⟩ => ?_
 subst hv
 replace st := st.callT (ob := some q) 4 rfl st1 rfl
 clear st1
 refine zw ?_
 refine zm ?_
 refine aBld rfl (by repeat constructor) ?_
 refine aC (ucheck_call) fun v88 H11 ⟨hv, st1⟩ => ?_
 subst hv
 replace st := st.call st1 rfl
 clear st1
 refine zx st 15 fun H12 st => ?_
 refine sE ?_
 refine ⟨_, out1 (zc st 15), ?_⟩
 exact ⟨o85, b1, b2, b3, b4, b5, b6, b7, _, rfl, st.sel [4, 5, 0, 6, 1, 8, 9, 10, 11, 12, 13, 14] (by decide)⟩
theorem Stt.nf {X : List Nat} {H0 H : Hp} {L L' : List Ent} (st : Stt X H0 H L) (h : NfL L L') : Stt X H0 H L' := h.eq ▸ st
theorem shr8 {H : Hp} {a : Nat} (h : a < 256) : (some (Value.int .i64 ((a : Int).fdiv (2 ^ min (8 : Int).toNat IntKind.i64.bits)), H) : Option (Value × Hp)) = some (.int .i64 0, H) := by
  rw [shr_eq, show (2 : Int) ^ min (8 : Int).toNat IntKind.i64.bits = 256 by decide, show (a : Int) / 256 = 0 by omega]
theorem onb_call {H : Hp} {op fl : Int} {l n : Nat} (hl : l < 256) (hn : n < 256) :
  ACalls Tryz.prog 13 [.int .u8 op, .int .u8 fl, .int .i64 (l : Int), .int .i64 (n : Int)] H (fun v H' => ∃ c, v = .slice (some ⟨c, 0, none⟩) 16 1 ∧ Stt [] H H' [⟨some c, true, ⟨true, 5, [.int .u8 op, .int .u8 fl, .int .u8 0, .int .u8 0, .int .u8 0, .int .u8 0, .int .u8 0, .int .u8 0, .int .u8 0, .int .u8 (l : Int), .int .u8 0, .int .u8 0, .int .u8 0, .int .u8 (n : Int), .int .u8 0, .int .u8 0]⟩⟩]) := by
 refine acallsW Tryz.func13 f13_ok (Nat.le_of_ble_eq_true rfl) fun hw => ?_
 have st : Stt [] H H [] := Stt.start hw
 unfold f13c
 refine zw ?_
 refine zm ?_
 refine zw ?_
 iterate 3 refine zm ?_
 refine aN (v := .int .i64 0) (by rfl) (by rw [e_shr rfl rfl (by decide)]; rw [shr8 hl]) (by constructor) ?_
 refine aConvV (n := 0) (n' := 0) rfl (by decide) ?_
 refine zm ?_
 refine aConvV (n := (l : Int)) (n' := (l : Int)) rfl (by rw [w8]; omega) ?_
 refine zm ?_
 refine aN (v := .int .i64 0) (by rfl) (by rw [e_shr rfl rfl (by decide)]; rw [shr8 hn]) (by constructor) ?_
 refine aConvV (n := 0) (n' := 0) rfl (by decide) ?_
 refine zm ?_
 refine aConvV (n := (n : Int)) (n' := (n : Int)) rfl (by rw [w8]; omega) ?_
 refine aLit st rfl (by repeat constructor) fun b21 H1 st => ?_
 refine zm ?_
 refine sE ?_
 refine ⟨_, out1 zr, ?_⟩
 exact ⟨b21, rfl, st.sel [0] (by decide)⟩
theorem six_step {fill : Int} {i : Nat} (h : i < 16) : ((List.replicate i fill ++ List.replicate (16 - i) 0).map (Value.int .u8)).set (0 + ((i : Int)).toNat * 1) (.int .u8 fill) = (List.replicate (i + 1) fill ++ List.replicate (16 - (i + 1)) 0).map (Value.int .u8) := by
  rw [show 0 + ((i : Int)).toNat * 1 = i by omega, show 16 - i = (16 - (i + 1)) + 1 by omega, List.replicate_succ, List.replicate_succ', List.map_append, List.set_append_right _ _ (by simp)]
  simp
theorem six_call {H : Hp} {fill : Int}  :
  ACalls Tryz.prog 8 [.slice none 0 0, .int .u8 fill] H (fun v H' => ∃ c, v = .slice (some ⟨c, 0, none⟩) 16 1 ∧ Stt [] H H' [⟨some c, true, ⟨true, 5, (List.replicate 16 fill).map (Value.int .u8)⟩⟩]) := by
 refine acallsW Tryz.func8 f8_ok (Nat.le_of_ble_eq_true rfl) fun hw => ?_
 have st : Stt [] H H [] := Stt.start hw
 unfold f8c
 refine zw ?_
 refine zm ?_
 refine zw ?_
 refine aNewS st rfl rfl (by repeat constructor) fun b7 H1 st => ?_
 have st := st.recell 0 rfl (cs' := (List.replicate 0 fill ++ List.replicate (16 - 0) 0).map (Value.int .u8)) rfl
 refine zm ?_
 refine zw ?_
 refine zm ?_
 refine sE ?_
 show AW _ (.loop _) _ _ _
 refine AW_loopN (fun m t1 H1 => ∃ (i : Nat), m = 16 - i ∧ (i ≤ 16) ∧ t1 6 = .int .i64 (i : Int) ∧ Stt [] H H1 [⟨some b7, true, ⟨true, 5, ((List.replicate i fill ++ List.replicate (16 - i) (0 : Int)).map (Value.int .u8))⟩⟩]) (16 - 0) ⟨0, rfl, Nat.zero_le _, rfl, (st.sel [0] (by decide))⟩ [6, 8, 9, 10, 11, 12, 13, 14, 15, 16, 17, 18, 19, 20, 21, 22, 23, 24, 25, 26] (by decide) ?_
 rintro m t1 H1 hk hI
 obtain ⟨i, rfl, hi, ht6, st⟩ := hI
 obtain ⟨u, rfl⟩ : ∃ u, t1 = (upd (mix [6, 8, 9, 10, 11, 12, 13, 14, 15, 16, 17, 18, 19, 20, 21, 22, 23, 24, 25, 26] _ u) (some 6) _) := ⟨t1, by rw [← hk, upd_self ht6]⟩
 clear hk ht6
 refine zw ?_
 iterate 2 refine zm ?_
 show AW _ (.cond _ _ _) _ _ _
 refine cC' rfl (fun h2 => ?_) (fun h2 => ?_)
 ·have hlt : i < 16 := by have := of_decide_eq_true h2; omega
  refine zw ?_
  iterate 3 refine zm ?_
  refine aIxL rfl rfl (by omega) ?_
  refine aStAt (cs := ((List.replicate (i + 1) fill ++ List.replicate (16 - (i + 1)) (0 : Int)).map (Value.int .u8))) st 0 rfl rfl rfl rfl rfl (by simp; omega) (six_step hlt) fun H3 st => ?_
  refine zw ?_
  iterate 2 refine zm ?_
  refine aN (v := .int .i64 0) rfl rfl (by constructor) ?_
  refine aBinV (.bool false) rfl rfl (ltF (by omega)) ?_
  refine zf ?_
  refine zw ?_
  refine zm ?_
  refine aBinV (.int .i64 ((i + 1 : Nat) : Int)) rfl rfl (addI (by omega) (by omega)) ?_
  refine zm ?_
  refine sE ?_
  exact ⟨_, by omega, (i + 1), rfl, by omega, rfl, (st.sel [0] (by decide))⟩
 ·have hge : i = 16 := by have := of_decide_eq_false h2; omega
  subst hge
  refine zw ?_
  iterate 2 refine zm ?_
  refine sE ?_
  refine ⟨_, out1 zr, ?_⟩
  exact ⟨b7, rfl, by have st9 := st.sel [0] (by decide); simpa using st9⟩
theorem wnew_call {H : Hp}  :
  ACalls Tryz.prog 6 [] H (fun v H' => ∃ w sb db, v = zP w ∧ Stt [] H H' [⟨some w, true, zW sb db (.slice none 0 0) 0 (-1)⟩, ⟨some sb, true, ⟨true, .mp [], []⟩⟩, ⟨some db, true, ⟨true, .mp [], []⟩⟩]) := by
 refine acallsW Tryz.func6 f6_ok (Nat.le_of_ble_eq_true rfl) fun hw => ?_
 have st : Stt [] H H [] := Stt.start hw
 unfold f6c
 refine zw ?_
 refine zm ?_
 refine zw ?_
 refine aMkMap st fun b1 H1 st => ?_
 refine aMkMap st fun b2 H2 st => ?_
 refine aBld rfl (by repeat constructor) ?_
 refine aBoxN st rfl rfl (by repeat constructor) rfl fun b4 H3 st => ?_
 refine zm ?_
 refine sE ?_
 refine ⟨_, out1 zr, ?_⟩
 exact ⟨b4, b1, b2, rfl, st.sel [0, 2, 1] (by decide)⟩
section
variable {P : Program} {R : Tm → Hp → Prop} {t : Tm} {X : List Nat} {H0 H : Hp} {L : List Ent} {d : Option Nat} {x y : Opd}
theorem aPtrNe {neg : Bool} {b b' o o' : Nat} {ok ok' : Bool} {e e' : TypeId} {cs cs' : List Value} (st : Stt X H0 H L) (i j : Nat) (hx : ev t x = .pointer (some ⟨b, o, none⟩)) (hy : ev t y = .pointer (some ⟨b', o', none⟩)) (hi : L[i]? = some ⟨some b, ok, ⟨true, .ty e, cs⟩⟩) (hj : L[j]? = some ⟨some b', ok', ⟨true, .ty e', cs'⟩⟩) (hij : i ≠ j) (h5 : e ≠ 5 ∧ e' ≠ 5) (kk : R (upd t d (.bool neg)) H) : aStep P ⟨d, .mapGet none undef neg x y, none⟩ R t H := by
  have hne : b ≠ b' := fun e => hij (nodup_keys st.dis hi hj rfl (by rw [e]))
  refine ⟨.bool neg, H, ?_, kk⟩
  simp only [aI, show isTup undef = true from rfl, if_true, hx, hy, ptrEq, if_neg hne, st.get hi, st.get hj]
  rw [if_pos ⟨trivial, trivial, rfl, rfl, by simp [ET.is, h5.1], by simp [ET.is, h5.2]⟩]
  cases neg <;> rfl
end
theorem strNeF {tk : Nat} {a b : ByteArray} (h : a = b) : aBin tk .neq (.string a) (.string b) = some (.bool false) := by
  subst h
  simp [aBin, aStr]
theorem peers_call {H : Hp} {u uo lb dvo : Nat} {w0 w1 w2 w3 w4 w5 w6 w7 w8 w9 w11 w12 w13 w14 w15 v0 v1 v2 v3 v4 v6 v7 v8 v9 v10 v11 v12 v13 v14 v15 : Value} (st0 : Stt [u] H H [⟨some u, true, ⟨true, 103, [w0, w1, w2, w3, w4, w5, w6, w7, w8, w9, .slice none 0 0, w11, w12, w13, w14, w15]⟩⟩, ⟨some uo, false, ⟨true, 103, [v0, v1, v2, v3, v4, zP dvo, v6, v7, v8, v9, v10, v11, v12, v13, v14, v15]⟩⟩, ⟨some lb, false, ⟨true, 27, [zP uo]⟩⟩]) :
  ACalls Tryz.prog 32 [zP u, .slice (some ⟨lb, 0, none⟩) 1 1] H (fun v H' => ∃ pe, v = .tuple #[] ∧ Stt [u] H H' [⟨some u, true, ⟨true, 103, [w0, w1, w2, w3, w4, w5, w6, w7, w8, w9, .slice (some ⟨pe, 0, none⟩) 1 1, w11, w12, w13, w14, w15]⟩⟩, ⟨some pe, true, ⟨true, 27, [zP uo]⟩⟩]) := by
 refine acallsW Tryz.func32 f32_ok (Nat.le_of_ble_eq_true rfl) fun hw => ?_
 have st : Stt [u] H H [] := Stt.start hw
 replace st := st0
 unfold f32c
 refine zw ?_
 refine zm ?_
 refine zb (.bool false) ?_
 refine zf ?_
 refine zw ?_
 iterate 3 refine zm ?_
 refine zx st 0 fun H1 st => ?_
 refine zw ?_
 refine zm ?_
 refine aN (v := .int .i64 1) rfl rfl (by constructor) ?_
 refine zm ?_
 refine sE ?_
 show AW _ (.loop _) _ _ _
 refine AW_fuel 2 ?_
 show AW _ _ _ _ _
 refine zw ?_
 refine zb (.bool true) ?_
 show AW _ (.cond _ _ _) _ _ _
 refine cT rfl ?_
 refine zw ?_
 refine zm ?_
 refine zl st 2 ?_
 refine zm ?_
 refine zw ?_
 refine zm ?_
 refine zb (.bool true) ?_
 refine zm ?_
 refine zg ?_
 refine zm ?_
 refine zg ?_
 refine zm ?_
 refine zg ?_
 refine zm ?_
 refine zg ?_
 refine zl st 1 ?_
 refine zg ?_
 refine zb (.bool true) ?_
 iterate 2 refine zm ?_
 refine zg ?_
 refine zm ?_
 refine zg ?_
 refine zm ?_
 refine zg ?_
 refine aPtrNe st 1 0 rfl rfl rfl rfl (by decide) (by decide) ?_
 refine zm ?_
 show AW _ (.cond _ _ _) _ _ _
 refine cT rfl ?_
 refine zw ?_
 iterate 4 refine zm ?_
 refine zl st 0 ?_
 refine zm ?_
 refine aLit st rfl (by repeat constructor) fun b37 H2 st => ?_
 have st := st.nil 27
 have hnil : (Value.slice none 0 0) = accV none 0 1 := rfl
 refine aAppP st 0 (ob := none) (n := 0) rfl rfl rfl (by decide) (rfl) (st.rowAll 1 rfl (rfl)).src (rfl) (by decide) (by decide) (by decide) (by repeat constructor) fun b38 H3 st => ?_
 iterate 2 refine zm ?_
 refine zx st 2 fun H4 st => ?_
 refine zw ?_
 refine zb (.int .i64 1) ?_
 refine zm ?_
 refine sE ?_
 show AW _ _ _ _ _
 refine zw ?_
 refine zb (.bool false) ?_
 refine zf ?_
 refine ⟨_, rfl , ?_⟩
 exact ⟨b38, rfl, st.sel [2, 0] (by decide)⟩
theorem tgood0 {H : Hp} {r0 r1 r2 r3 r4 r5 r6 r7 r8 : Value}  :
  ACalls Tryz.prog 11 [.agg #[.int .u8 0, r0, r1, r2, r3, r4, r5, r6, r7, r8]] H (fun v H' => v = .bool true ∧ Stt [] H H' []) := by
 refine acallsW Tryz.func11 f11_ok (Nat.le_of_ble_eq_true rfl) fun hw => ?_
 have st : Stt [] H H [] := Stt.start hw
 unfold f11c
 refine zw ?_
 refine aBoxN st rfl rfl (by repeat constructor) rfl fun b1 H1 st => ?_
 refine zm ?_
 refine zw ?_
 refine zm ?_
 refine zl st 0 ?_
 refine zb (.bool true) ?_
 refine zm ?_
 refine sE ?_
 refine ⟨_, out1 zr, ?_⟩
 exact ⟨rfl, st.drop⟩
end Go.Proofs.YtjmjkdelkaflmaaGreatDoor.Abs
