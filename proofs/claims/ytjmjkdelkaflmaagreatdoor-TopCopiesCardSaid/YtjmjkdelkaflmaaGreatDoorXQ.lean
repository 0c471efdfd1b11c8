/- Slots: names. -/
import Derived.Test.YtjmjkdelkaflmaaGreatDoorXI
import Derived.Test.YtjmjkdelkaflmaaGreatDoorXP
set_option linter.unusedVariables false
set_option linter.unusedSimpArgs false
set_option maxRecDepth 100000
namespace Go.Proofs.YtjmjkdelkaflmaaGreatDoor.Abs
open Go Go.RowKit
section
variable {P : Program} {R : Tm → Hp → Prop} {t : Tm} {H : Hp} {d : Option Nat} {x : Opd}
theorem aTextV {n : Nat} {xs : List Int} {u : Value} {ys : ByteArray} (hs : Sl H 1 n (xs.map (Value.int .u8)) u) (hx : ev t x = u) (hy : ofInts xs = ys) (kk : R (upd t d (.string ys)) H) : aStep P ⟨d, .str x, none⟩ R t H := by
  subst hy
  exact aText hs hx kk
theorem aCatV {tk : Nat} {y : Opd} {a b : ByteArray} (hx : ev t x = .string a) (hy : ev t y = .string b) (h : a.size + b.size ≤ 9223372036854775807) (kk : R (upd t d (.string (a ++ b))) H) : aStep P ⟨d, .bin tk .add x y, none⟩ R t H :=
  aBinV (.string (a ++ b)) hx hy (by simp only [aBin, aStr, if_pos h]) kk
end
theorem sname_0 {H : Hp} {k w : Nat} {fp : ByteArray} {sr : Bool} {a g : Int} (st0 : Stt [] H H [⟨some k, false, ⟨true, 178, [zP w, .string fp, .bool sr, .int .i64 a, .int .u64 g]⟩⟩]) (hfp : fp.size ≤ 30) :
  ACalls Tryz.prog 121 [zP k, .int .i64 0] H (fun v H' => v = .string ((fp ++ ⟨#[46]⟩) ++ ⟨#[48]⟩) ∧ Stt [] H H' []) := by
 refine acallsW Tryz.func121 f121_ok (Nat.le_of_ble_eq_true rfl) fun hw => ?_
 have st : Stt [] H H [] := Stt.start hw
 replace st := st0
 unfold f121c
 refine zw ?_
 refine zm ?_
 refine sE ?_
 show AWp _ _ _ _ _
 iterate 3 refine zm ?_
 refine zl st 0 ?_
 refine aCatV rfl rfl (by show fp.size + 1 ≤ _; omega) ?_
 refine zm ?_
 refine aBinV (.int .i64 48) rfl rfl (rfl) ?_
 refine aConvV (n := 48) (n' := 48) rfl (by decide) ?_
 refine ⟨?_, trivial⟩
 refine aLit st rfl (by repeat constructor) fun b13 H1 st => ?_
 refine ⟨⟨zh st 1, trivial⟩, ?_⟩
 refine aTextV (xs := [48]) (ys := ⟨#[48]⟩) (st.rowAll 0 rfl rfl) rfl rfl ?_
 refine aCatV rfl rfl (by rw [ByteArray.size_append]; show fp.size + 1 + 1 ≤ _; omega) ?_
 refine zm ?_
 refine pE ?_
 refine ⟨_, out1 zr, ?_⟩
 exact ⟨rfl, st.drop⟩
theorem sname_1 {H : Hp} {k w : Nat} {fp : ByteArray} {sr : Bool} {a g : Int} (st0 : Stt [] H H [⟨some k, false, ⟨true, 178, [zP w, .string fp, .bool sr, .int .i64 a, .int .u64 g]⟩⟩]) (hfp : fp.size ≤ 30) :
  ACalls Tryz.prog 121 [zP k, .int .i64 1] H (fun v H' => v = .string ((fp ++ ⟨#[46]⟩) ++ ⟨#[49]⟩) ∧ Stt [] H H' []) := by
 refine acallsW Tryz.func121 f121_ok (Nat.le_of_ble_eq_true rfl) fun hw => ?_
 have st : Stt [] H H [] := Stt.start hw
 replace st := st0
 unfold f121c
 refine zw ?_
 refine zm ?_
 refine sE ?_
 show AWp _ _ _ _ _
 iterate 3 refine zm ?_
 refine zl st 0 ?_
 refine aCatV rfl rfl (by show fp.size + 1 ≤ _; omega) ?_
 refine zm ?_
 refine aBinV (.int .i64 49) rfl rfl (rfl) ?_
 refine aConvV (n := 49) (n' := 49) rfl (by decide) ?_
 refine ⟨?_, trivial⟩
 refine aLit st rfl (by repeat constructor) fun b13 H1 st => ?_
 refine ⟨⟨zh st 1, trivial⟩, ?_⟩
 refine aTextV (xs := [49]) (ys := ⟨#[49]⟩) (st.rowAll 0 rfl rfl) rfl rfl ?_
 refine aCatV rfl rfl (by rw [ByteArray.size_append]; show fp.size + 1 + 1 ≤ _; omega) ?_
 refine zm ?_
 refine pE ?_
 refine ⟨_, out1 zr, ?_⟩
 exact ⟨rfl, st.drop⟩
theorem decode_nil {H : Hp}  :
  ACalls Tryz.prog 122 [.slice none 0 0] H (fun v H' => v = .tuple #[.int .u64 0, .slice none 0 0, .int .i64 3] ∧ Stt [] H H' []) := by
 refine acallsW Tryz.func122 f122_ok (Nat.le_of_ble_eq_true rfl) fun hw => ?_
 have st : Stt [] H H [] := Stt.start hw
 unfold f122c
 refine zw ?_
 iterate 3 refine zm ?_
 refine zw ?_
 iterate 2 refine zm ?_
 refine zb (.bool true) ?_
 refine zm ?_
 iterate 4 refine zk ?_
 refine zm ?_
 show AW _ (.cond _ _ _) _ _ _
 refine cT rfl ?_
 refine zw ?_
 iterate 3 refine zm ?_
 refine sE ?_
 refine ⟨_, out3 zr zr zr ⟨rfl, rfl, rfl⟩, ?_⟩
 exact ⟨rfl, st.drop⟩
theorem kload_call {H : Hp} {w k sb db : Nat} {wv : Value} {c : List (Value × Value)} {fp : ByteArray} {ops stop : Int} (st0 : Stt ([w] ++ [k]) H H [⟨some w, true, zW sb db wv ops stop⟩, ⟨some k, true, ⟨true, 178, [zP w, .string fp, .bool false, .int .i64 (-1), .int .u64 0]⟩⟩, ⟨some sb, false, ⟨true, .mp c, []⟩⟩]) (hfp0 : 1 ≤ fp.size ∧ fp.size ≤ 30) (hf0 : Found c ((fp ++ ⟨#[46]⟩) ++ ⟨#[48]⟩) none) (hf1 : Found c ((fp ++ ⟨#[46]⟩) ++ ⟨#[49]⟩) none) (ho : 0 ≤ ops ∧ ops ≤ 900000000) (hs : stop < 0) :
  ACalls Tryz.prog 73 [zP k] H (fun v H' => v = .tuple #[.slice none 0 0, .int .u64 0, .int .i64 8] ∧ Stt ([w] ++ [k]) H H' [⟨some w, true, zW sb db wv (ops + 2) stop⟩, ⟨some k, true, ⟨true, 178, [zP w, .string fp, .bool true, .int .i64 (-1), .int .u64 0]⟩⟩]) := by
 refine acallsW Tryz.func73 f73_ok (Nat.le_of_ble_eq_true rfl) fun hw => ?_
 have st : Stt ([w] ++ [k]) H H [] := Stt.start hw
 replace st := st0
 have hfp := hfp0.2
 unfold f73c
 refine zw ?_
 iterate 3 refine zm ?_
 refine zw ?_
 refine zm ?_
 refine zb (.bool false) ?_
 refine zf ?_
 refine zw ?_
 iterate 3 refine zm ?_
 refine zx st 1 fun H1 st => ?_
 refine zw ?_
 refine zm ?_
 refine zw ?_
 iterate 2 refine zm ?_
 refine zw ?_
 refine zm ?_
 refine sE ?_
 show AW _ (.loop _) _ _ _
 refine AW_fuel 3 ?_
 show AW _ _ _ _ _
 refine zw ?_
 refine zb (.bool true) ?_
 show AW _ (.cond _ _ _) _ _ _
 refine cT rfl ?_
 refine zw ?_
 iterate 2 refine zm ?_
 refine sE ?_
 show AWp _ _ _ _ _
 iterate 3 refine zm ?_
 refine zl st 1 ?_
 iterate 2 refine zm ?_
 refine ⟨?_, trivial⟩
 refine aC (sname_0 (zM st [] [1]) hfp) fun v29_0 H2 ⟨hv, st1⟩ => ?_
 subst hv
 replace st := st.call st1 rfl
 clear st1
 refine ⟨⟨zh st 1, trivial⟩, ?_⟩
 refine ⟨?_, trivial⟩
 refine aC (read_n (ob := none) (old := []) (off := 0) (n := 4116) (zN st [0] [2]) (by simp only [ByteArray.size_append]; show 1 ≤ fp.size + 1 + 1; omega) (by simp only [ByteArray.size_append]; show fp.size + 1 + 1 ≤ 32; omega) hf0 (by omega) (by omega) (by omega) (by omega)) fun v30_0 H3 ⟨hv, st1⟩ => ?_
 subst hv
 replace st := st.callT (ob := some w) 0 rfl st1 rfl
 clear st1
 refine ⟨trivial, ?_⟩
 iterate 5 refine zm ?_
 refine zw ?_
 refine zm ?_
 refine zb (.bool true) ?_
 refine zm ?_
 refine zg ?_
 refine zm ?_
 refine zg ?_
 refine zb (.bool false) ?_
 refine zm ?_
 refine zf ?_
 refine zw ?_
 refine zm ?_
 refine aC (decode_nil) fun v42 H4 ⟨hv, st1⟩ => ?_
 subst hv
 replace st := st.call st1 rfl
 clear st1
 iterate 7 refine zm ?_
 refine zw ?_
 refine zm ?_
 refine zb (.bool false) ?_
 refine zm ?_
 iterate 3 refine zk ?_
 refine gU rfl ?_
 refine gU rfl ?_
 refine gU rfl ?_
 refine zk ?_
 refine zm ?_
 refine zf ?_
 refine zw ?_
 refine zb (.int .i64 1) ?_
 refine zm ?_
 refine sE ?_
 show AW _ _ _ _ _
 refine zw ?_
 refine zb (.bool true) ?_
 show AW _ (.cond _ _ _) _ _ _
 refine cT rfl ?_
 refine zw ?_
 iterate 2 refine zm ?_
 refine sE ?_
 show AWp _ _ _ _ _
 iterate 3 refine zm ?_
 refine zl st 1 ?_
 iterate 2 refine zm ?_
 refine ⟨?_, trivial⟩
 refine aC (sname_1 (zM st [] [1]) hfp) fun v29_1 H5 ⟨hv, st1⟩ => ?_
 subst hv
 replace st := st.call st1 rfl
 clear st1
 refine ⟨⟨zh st 1, trivial⟩, ?_⟩
 refine ⟨?_, trivial⟩
 refine aC (read_n (ob := none) (old := []) (off := 0) (n := 4116) (zN st [0] [2]) (by simp only [ByteArray.size_append]; show 1 ≤ fp.size + 1 + 1; omega) (by simp only [ByteArray.size_append]; show fp.size + 1 + 1 ≤ 32; omega) hf1 (by omega) (by omega) (by omega) (by omega)) fun v30_1 H6 ⟨hv, st1⟩ => ?_
 subst hv
 replace st := st.callT (ob := some w) 0 rfl st1 rfl
 clear st1
 refine ⟨trivial, ?_⟩
 iterate 5 refine zm ?_
 refine zw ?_
 refine zm ?_
 refine zb (.bool true) ?_
 refine zm ?_
 refine zg ?_
 refine zm ?_
 refine zg ?_
 refine zb (.bool false) ?_
 refine zm ?_
 refine zf ?_
 refine zw ?_
 refine zm ?_
 refine aC (decode_nil) fun v42 H7 ⟨hv, st1⟩ => ?_
 subst hv
 replace st := st.call st1 rfl
 clear st1
 iterate 7 refine zm ?_
 refine zw ?_
 refine zm ?_
 refine zb (.bool false) ?_
 refine zm ?_
 iterate 3 refine zk ?_
 refine gU rfl ?_
 refine gU rfl ?_
 refine gU rfl ?_
 refine zk ?_
 refine zm ?_
 refine zf ?_
 refine zw ?_
 refine zb (.int .i64 2) ?_
 refine zm ?_
 refine sE ?_
 show AW _ _ _ _ _
 refine zw ?_
 refine zb (.bool false) ?_
 refine zf ?_
 refine zw ?_
 iterate 7 refine zm ?_
 refine zx st 1 fun H8 st => ?_
 iterate 2 refine zm ?_
 refine zx st 1 fun H9 st => ?_
 iterate 2 refine zm ?_
 refine zx st 1 fun H10 st => ?_
 refine zw ?_
 refine zm ?_
 refine zb (.bool true) ?_
 show AW _ (.cond _ _ _) _ _ _
 refine cT rfl ?_
 refine zw ?_
 iterate 3 refine zm ?_
 refine sE ?_
 refine ⟨_, out3 zr zr zr ⟨rfl, rfl, rfl⟩, ?_⟩
 have st := st.recell 0 rfl (cs' := [.map (some sb), .map (some db), wv, .int .i64 (ops + 2), .map none, .int .i64 stop, .bool false]) (by rw [show ops + 1 + 1 = ops + 2 by omega])
 exact ⟨rfl, st.sel [0, 1] (by decide)⟩
theorem uload_call {H : Hp} {w sb db u : Nat} {wv : Value} {c : List (Value × Value)} {fp : ByteArray} {ops stop : Int} {om : Int} {i0 i1 i2 i3 : ByteArray} {pr : Int} {dv k pg tb q : Nat} {pe : Value} {od fa ct : Int} (st0 : Stt ([w] ++ [k] ++ [q]) H H [⟨some w, true, zW sb db wv ops stop⟩, ⟨some k, true, ⟨true, 178, [zP w, .string fp, .bool false, .int .i64 (-1), .int .u64 0]⟩⟩, ⟨some q, true, ⟨true, 154, [.slice none 0 0, .slice none 0 0, .slice none 0 0, .slice none 0 0, .slice none 0 0, .slice none 0 0, .slice none 0 0, .slice none 0 0]⟩⟩, ⟨some u, false, ⟨true, 103, [.string i0, .string i1, .string i2, .string i3, .int .u8 pr, zP dv, zP k, zP pg, zP tb, zP q, pe, .int .u32 od, .int .i32 om, .int .u32 0, .int .i64 fa, .int .i64 ct]⟩⟩, ⟨some sb, false, ⟨true, .mp c, []⟩⟩]) (hfp : 1 ≤ fp.size ∧ fp.size ≤ 30) (hf0 : Found c ((fp ++ ⟨#[46]⟩) ++ ⟨#[48]⟩) none) (hf1 : Found c ((fp ++ ⟨#[46]⟩) ++ ⟨#[49]⟩) none) (ho : 0 ≤ ops ∧ ops ≤ 900000000) (hs : stop < 0) :
  ACalls Tryz.prog 45 [zP u] H (fun v H' => ∃ b0 b1 b2 b3 b4 b5 b6 b7, v = .int .i64 0 ∧ Stt ([w] ++ [k] ++ [q]) H H' [⟨some w, true, zW sb db wv (ops + 2) stop⟩, ⟨some k, true, ⟨true, 178, [zP w, .string fp, .bool true, .int .i64 (-1), .int .u64 0]⟩⟩, ⟨some q, true, ⟨true, 154, [.slice (some ⟨b0, 0, none⟩) 1 1, .slice (some ⟨b1, 0, none⟩) 1 1, .slice (some ⟨b2, 0, none⟩) 1 1, .slice (some ⟨b3, 0, none⟩) 1 1, .slice (some ⟨b4, 0, none⟩) 1 1, .slice (some ⟨b5, 0, none⟩) 1 1, .slice (some ⟨b6, 0, none⟩) 1 1, .slice (some ⟨b7, 0, none⟩) 1 1]⟩⟩, ⟨some b0, true, ⟨true, 23, [.int .u16 10496]⟩⟩, ⟨some b1, true, ⟨true, 23, [.int .u16 10496]⟩⟩, ⟨some b2, true, ⟨true, 23, [.int .u16 10496]⟩⟩, ⟨some b3, true, ⟨true, 23, [.int .u16 10496]⟩⟩, ⟨some b4, true, ⟨true, 23, [.int .u16 10496]⟩⟩, ⟨some b5, true, ⟨true, 23, [.int .u16 10496]⟩⟩, ⟨some b6, true, ⟨true, 23, [.int .u16 10496]⟩⟩, ⟨some b7, true, ⟨true, 23, [.int .u16 10496]⟩⟩]) := by
 refine acallsW Tryz.func45 f45_ok (Nat.le_of_ble_eq_true rfl) fun hw => ?_
 have st : Stt ([w] ++ [k] ++ [q]) H H [] := Stt.start hw
 replace st := st0
 unfold f45c
 refine zw ?_
 refine zm ?_
 refine zw ?_
 refine zm ?_
 refine sE ?_
 show AW _ (.loop _) _ _ _
 refine AW_fuel 9 ?_
 show AW _ _ _ _ _
 refine zw ?_
 refine zb (.bool true) ?_
 show AW _ (.cond _ _ _) _ _ _
 refine cT rfl ?_
 refine zw ?_
 iterate 2 refine zm ?_
 refine zw ?_
 iterate 3 refine zm ?_
 refine zl st 3 ?_
 refine zm ?_
 refine aC (qadd_call (n := 0) (qs := [.slice none 0 0, .slice none 0 0, .slice none 0 0, .slice none 0 0, .slice none 0 0, .slice none 0 0, .slice none 0 0, .slice none 0 0]) (zN st [2] []) rfl (by decide) rfl) fun v16_0 H1 ⟨b0, hv, st1⟩ => ?_
 subst hv
 replace st := st.callT (ob := some q) 2 rfl st1 rfl
 clear st1
 have st := st.recell 0 rfl (cs' := [.slice (some ⟨b0, 0, none⟩) 1 1, .slice none 0 0, .slice none 0 0, .slice none 0 0, .slice none 0 0, .slice none 0 0, .slice none 0 0, .slice none 0 0]) rfl
 refine zw ?_
 refine zb (.int .i64 1) ?_
 refine zm ?_
 refine sE ?_
 show AW _ _ _ _ _
 refine zw ?_
 refine zb (.bool true) ?_
 show AW _ (.cond _ _ _) _ _ _
 refine cT rfl ?_
 refine zw ?_
 iterate 2 refine zm ?_
 refine zw ?_
 iterate 3 refine zm ?_
 refine zl st 4 ?_
 refine zm ?_
 refine aC (qadd_call (n := 1) (qs := [.slice (some ⟨b0, 0, none⟩) 1 1, .slice none 0 0, .slice none 0 0, .slice none 0 0, .slice none 0 0, .slice none 0 0, .slice none 0 0, .slice none 0 0]) (zN st [0] []) rfl (by decide) rfl) fun v16_1 H2 ⟨b1, hv, st1⟩ => ?_
 subst hv
 replace st := st.callT (ob := some q) 0 rfl st1 rfl
 clear st1
 have st := st.recell 0 rfl (cs' := [.slice (some ⟨b0, 0, none⟩) 1 1, .slice (some ⟨b1, 0, none⟩) 1 1, .slice none 0 0, .slice none 0 0, .slice none 0 0, .slice none 0 0, .slice none 0 0, .slice none 0 0]) rfl
 refine zw ?_
 refine zb (.int .i64 2) ?_
 refine zm ?_
 refine sE ?_
 show AW _ _ _ _ _
 refine zw ?_
 refine zb (.bool true) ?_
 show AW _ (.cond _ _ _) _ _ _
 refine cT rfl ?_
 refine zw ?_
 iterate 2 refine zm ?_
 refine zw ?_
 iterate 3 refine zm ?_
 refine zl st 5 ?_
 refine zm ?_
 refine aC (qadd_call (n := 2) (qs := [.slice (some ⟨b0, 0, none⟩) 1 1, .slice (some ⟨b1, 0, none⟩) 1 1, .slice none 0 0, .slice none 0 0, .slice none 0 0, .slice none 0 0, .slice none 0 0, .slice none 0 0]) (zN st [0] []) rfl (by decide) rfl) fun v16_2 H3 ⟨b2, hv, st1⟩ => ?_
 subst hv
 replace st := st.callT (ob := some q) 0 rfl st1 rfl
 clear st1
 have st := st.recell 0 rfl (cs' := [.slice (some ⟨b0, 0, none⟩) 1 1, .slice (some ⟨b1, 0, none⟩) 1 1, .slice (some ⟨b2, 0, none⟩) 1 1, .slice none 0 0, .slice none 0 0, .slice none 0 0, .slice none 0 0, .slice none 0 0]) rfl
 refine zw ?_
 refine zb (.int .i64 3) ?_
 refine zm ?_
 refine sE ?_
 show AW _ _ _ _ _
 refine zw ?_
 refine zb (.bool true) ?_
 show AW _ (.cond _ _ _) _ _ _
 refine cT rfl ?_
 refine zw ?_
 iterate 2 refine zm ?_
 refine zw ?_
 iterate 3 refine zm ?_
 refine zl st 6 ?_
 refine zm ?_
 refine aC (qadd_call (n := 3) (qs := [.slice (some ⟨b0, 0, none⟩) 1 1, .slice (some ⟨b1, 0, none⟩) 1 1, .slice (some ⟨b2, 0, none⟩) 1 1, .slice none 0 0, .slice none 0 0, .slice none 0 0, .slice none 0 0, .slice none 0 0]) (zN st [0] []) rfl (by decide) rfl) fun v16_3 H4 ⟨b3, hv, st1⟩ => ?_
 subst hv
 replace st := st.callT (ob := some q) 0 rfl st1 rfl
 clear st1
 have st := st.recell 0 rfl (cs' := [.slice (some ⟨b0, 0, none⟩) 1 1, .slice (some ⟨b1, 0, none⟩) 1 1, .slice (some ⟨b2, 0, none⟩) 1 1, .slice (some ⟨b3, 0, none⟩) 1 1, .slice none 0 0, .slice none 0 0, .slice none 0 0, .slice none 0 0]) rfl
 refine zw ?_
 refine zb (.int .i64 4) ?_
 refine zm ?_
 refine sE ?_
 show AW _ _ _ _ _
 refine zw ?_
 refine zb (.bool true) ?_
 show AW _ (.cond _ _ _) _ _ _
 refine cT rfl ?_
 refine zw ?_
 iterate 2 refine zm ?_
 refine zw ?_
 iterate 3 refine zm ?_
 refine zl st 7 ?_
 refine zm ?_
 refine aC (qadd_call (n := 4) (qs := [.slice (some ⟨b0, 0, none⟩) 1 1, .slice (some ⟨b1, 0, none⟩) 1 1, .slice (some ⟨b2, 0, none⟩) 1 1, .slice (some ⟨b3, 0, none⟩) 1 1, .slice none 0 0, .slice none 0 0, .slice none 0 0, .slice none 0 0]) (zN st [0] []) rfl (by decide) rfl) fun v16_4 H5 ⟨b4, hv, st1⟩ => ?_
 subst hv
 replace st := st.callT (ob := some q) 0 rfl st1 rfl
 clear st1
 have st := st.recell 0 rfl (cs' := [.slice (some ⟨b0, 0, none⟩) 1 1, .slice (some ⟨b1, 0, none⟩) 1 1, .slice (some ⟨b2, 0, none⟩) 1 1, .slice (some ⟨b3, 0, none⟩) 1 1, .slice (some ⟨b4, 0, none⟩) 1 1, .slice none 0 0, .slice none 0 0, .slice none 0 0]) rfl
 refine zw ?_
 refine zb (.int .i64 5) ?_
 refine zm ?_
 refine sE ?_
 show AW _ _ _ _ _
 refine zw ?_
 refine zb (.bool true) ?_
 show AW _ (.cond _ _ _) _ _ _
 refine cT rfl ?_
 refine zw ?_
 iterate 2 refine zm ?_
 refine zw ?_
 iterate 3 refine zm ?_
 refine zl st 8 ?_
 refine zm ?_
 refine aC (qadd_call (n := 5) (qs := [.slice (some ⟨b0, 0, none⟩) 1 1, .slice (some ⟨b1, 0, none⟩) 1 1, .slice (some ⟨b2, 0, none⟩) 1 1, .slice (some ⟨b3, 0, none⟩) 1 1, .slice (some ⟨b4, 0, none⟩) 1 1, .slice none 0 0, .slice none 0 0, .slice none 0 0]) (zN st [0] []) rfl (by decide) rfl) fun v16_5 H6 ⟨b5, hv, st1⟩ => ?_
 subst hv
 replace st := st.callT (ob := some q) 0 rfl st1 rfl
 clear st1
 have st := st.recell 0 rfl (cs' := [.slice (some ⟨b0, 0, none⟩) 1 1, .slice (some ⟨b1, 0, none⟩) 1 1, .slice (some ⟨b2, 0, none⟩) 1 1, .slice (some ⟨b3, 0, none⟩) 1 1, .slice (some ⟨b4, 0, none⟩) 1 1, .slice (some ⟨b5, 0, none⟩) 1 1, .slice none 0 0, .slice none 0 0]) rfl
 refine zw ?_
 refine zb (.int .i64 6) ?_
 refine zm ?_
 refine sE ?_
 show AW _ _ _ _ _
 refine zw ?_
 refine zb (.bool true) ?_
 show AW _ (.cond _ _ _) _ _ _
 refine cT rfl ?_
 refine zw ?_
 iterate 2 refine zm ?_
 refine zw ?_
 iterate 3 refine zm ?_
 refine zl st 9 ?_
 refine zm ?_
 refine aC (qadd_call (n := 6) (qs := [.slice (some ⟨b0, 0, none⟩) 1 1, .slice (some ⟨b1, 0, none⟩) 1 1, .slice (some ⟨b2, 0, none⟩) 1 1, .slice (some ⟨b3, 0, none⟩) 1 1, .slice (some ⟨b4, 0, none⟩) 1 1, .slice (some ⟨b5, 0, none⟩) 1 1, .slice none 0 0, .slice none 0 0]) (zN st [0] []) rfl (by decide) rfl) fun v16_6 H7 ⟨b6, hv, st1⟩ => ?_
 subst hv
 replace st := st.callT (ob := some q) 0 rfl st1 rfl
 clear st1
 have st := st.recell 0 rfl (cs' := [.slice (some ⟨b0, 0, none⟩) 1 1, .slice (some ⟨b1, 0, none⟩) 1 1, .slice (some ⟨b2, 0, none⟩) 1 1, .slice (some ⟨b3, 0, none⟩) 1 1, .slice (some ⟨b4, 0, none⟩) 1 1, .slice (some ⟨b5, 0, none⟩) 1 1, .slice (some ⟨b6, 0, none⟩) 1 1, .slice none 0 0]) rfl
 refine zw ?_
 refine zb (.int .i64 7) ?_
 refine zm ?_
 refine sE ?_
 show AW _ _ _ _ _
 refine zw ?_
 refine zb (.bool true) ?_
 show AW _ (.cond _ _ _) _ _ _
 refine cT rfl ?_
 refine zw ?_
 iterate 2 refine zm ?_
 refine zw ?_
 iterate 3 refine zm ?_
 refine zl st 10 ?_
 refine zm ?_
 refine aC (qadd_call (n := 7) (qs := [.slice (some ⟨b0, 0, none⟩) 1 1, .slice (some ⟨b1, 0, none⟩) 1 1, .slice (some ⟨b2, 0, none⟩) 1 1, .slice (some ⟨b3, 0, none⟩) 1 1, .slice (some ⟨b4, 0, none⟩) 1 1, .slice (some ⟨b5, 0, none⟩) 1 1, .slice (some ⟨b6, 0, none⟩) 1 1, .slice none 0 0]) (zN st [0] []) rfl (by decide) rfl) fun v16_7 H8 ⟨b7, hv, st1⟩ => ?_
 subst hv
 replace st := st.callT (ob := some q) 0 rfl st1 rfl
 clear st1
 have st := st.recell 0 rfl (cs' := [.slice (some ⟨b0, 0, none⟩) 1 1, .slice (some ⟨b1, 0, none⟩) 1 1, .slice (some ⟨b2, 0, none⟩) 1 1, .slice (some ⟨b3, 0, none⟩) 1 1, .slice (some ⟨b4, 0, none⟩) 1 1, .slice (some ⟨b5, 0, none⟩) 1 1, .slice (some ⟨b6, 0, none⟩) 1 1, .slice (some ⟨b7, 0, none⟩) 1 1]) rfl
 refine zw ?_
 refine zb (.int .i64 8) ?_
 refine zm ?_
 refine sE ?_
 show AW _ _ _ _ _
 refine zw ?_
 refine zb (.bool false) ?_
 refine zf ?_
 refine zw ?_
 iterate 3 refine zm ?_
 refine zl st 11 ?_
 refine aC (kload_call (zN st [9, 10] [12]) hfp hf0 hf1 ho hs) fun v23 H9 ⟨hv, st1⟩ => ?_
 subst hv
 replace st := st.call2 (o1 := some w) (o2 := some k) 9 9 rfl rfl st1 rfl
 clear st1
 iterate 7 refine zm ?_
 refine zw ?_
 refine zm ?_
 refine zb (.bool true) ?_
 refine zm ?_
 show AW _ (.cond _ _ _) _ _ _
 refine cT rfl ?_
 refine zw ?_
 refine zm ?_
 refine sE ?_
 refine ⟨_, out1 zr, ?_⟩
 exact ⟨b0, b1, b2, b3, b4, b5, b6, b7, rfl, st.sel [0, 1, 2, 10, 9, 8, 7, 6, 5, 4, 3] (by decide)⟩
theorem start1_call {H : Hp} {w sb db u bu : Nat} {wv : Value} {c : List (Value × Value)} {fp : ByteArray} {ops stop : Int} {om : Int} {i0 i1 i2 i3 : ByteArray} {pr : Int} {dv k pg tb q : Nat} {pe : Value} {od fa ct : Int} (st0 : Stt ([w] ++ [k] ++ [q] ++ [u]) H H [⟨some w, true, zW sb db wv ops stop⟩, ⟨some k, true, ⟨true, 178, [zP w, .string fp, .bool false, .int .i64 (-1), .int .u64 0]⟩⟩, ⟨some q, true, ⟨true, 154, [.slice none 0 0, .slice none 0 0, .slice none 0 0, .slice none 0 0, .slice none 0 0, .slice none 0 0, .slice none 0 0, .slice none 0 0]⟩⟩, ⟨some u, true, ⟨true, 103, [.string i0, .string i1, .string i2, .string i3, .int .u8 pr, zP dv, zP k, zP pg, zP tb, zP q, pe, .int .u32 od, .int .i32 om, .int .u32 0, .int .i64 fa, .int .i64 ct]⟩⟩, ⟨some sb, false, ⟨true, .mp c, []⟩⟩, ⟨some bu, false, ⟨true, 27, [zP u]⟩⟩]) (hfp : 1 ≤ fp.size ∧ fp.size ≤ 30) (hf0 : Found c ((fp ++ ⟨#[46]⟩) ++ ⟨#[48]⟩) none) (hf1 : Found c ((fp ++ ⟨#[46]⟩) ++ ⟨#[49]⟩) none) (ho : 0 ≤ ops ∧ ops ≤ 900000000) (hs : stop < 0) :
  ACalls Tryz.prog 44 [zP bu] H (fun v H' => ∃ b0 b1 b2 b3 b4 b5 b6 b7, v = .tuple #[] ∧ Stt ([w] ++ [k] ++ [q] ++ [u]) H H' [⟨some w, true, zW sb db wv (ops + 2) stop⟩, ⟨some k, true, ⟨true, 178, [zP w, .string fp, .bool true, .int .i64 (-1), .int .u64 0]⟩⟩, ⟨some q, true, ⟨true, 154, [.slice (some ⟨b0, 0, none⟩) 1 1, .slice (some ⟨b1, 0, none⟩) 1 1, .slice (some ⟨b2, 0, none⟩) 1 1, .slice (some ⟨b3, 0, none⟩) 1 1, .slice (some ⟨b4, 0, none⟩) 1 1, .slice (some ⟨b5, 0, none⟩) 1 1, .slice (some ⟨b6, 0, none⟩) 1 1, .slice (some ⟨b7, 0, none⟩) 1 1]⟩⟩, ⟨some u, true, ⟨true, 103, [.string i0, .string i1, .string i2, .string i3, .int .u8 pr, zP dv, zP k, zP pg, zP tb, zP q, pe, .int .u32 od, .int .i32 om, .int .u32 0, .int .i64 0, .int .i64 ct]⟩⟩, ⟨some b0, true, ⟨true, 23, [.int .u16 10496]⟩⟩, ⟨some b1, true, ⟨true, 23, [.int .u16 10496]⟩⟩, ⟨some b2, true, ⟨true, 23, [.int .u16 10496]⟩⟩, ⟨some b3, true, ⟨true, 23, [.int .u16 10496]⟩⟩, ⟨some b4, true, ⟨true, 23, [.int .u16 10496]⟩⟩, ⟨some b5, true, ⟨true, 23, [.int .u16 10496]⟩⟩, ⟨some b6, true, ⟨true, 23, [.int .u16 10496]⟩⟩, ⟨some b7, true, ⟨true, 23, [.int .u16 10496]⟩⟩]) := by
 refine acallsW Tryz.func44 f44_ok (Nat.le_of_ble_eq_true rfl) fun hw => ?_
 have st : Stt ([w] ++ [k] ++ [q] ++ [u]) H H [] := Stt.start hw
 replace st := st0
 unfold f44c
 show AWp _ _ _ _ _
 refine zl st 5 ?_
 refine zl st 5 ?_
 refine ⟨?_, trivial⟩
 refine aC (uload_call (zN st [0, 1, 2] [3, 4]) hfp hf0 hf1 ho hs) fun v3 H1 ⟨b0, b1, b2, b3, b4, b5, b6, b7, hv, st1⟩ => ?_
 subst hv
 replace st := st.call3 (o1 := some w) (o2 := some k) (o3 := some q) 0 0 0 rfl rfl rfl st1 rfl
 clear st1
 refine ⟨⟨zh st 13, trivial⟩, ?_⟩
 iterate 2 refine zm ?_
 refine ⟨?_, trivial⟩
 refine zx st 11 fun H2 st => ?_
 refine ⟨trivial, ?_⟩
 refine pE ?_
 refine ⟨_, rfl , ?_⟩
 exact ⟨b0, b1, b2, b3, b4, b5, b6, b7, rfl, st.sel [0, 1, 2, 11, 3, 4, 5, 6, 7, 8, 9, 10] (by decide)⟩
end Go.Proofs.YtjmjkdelkaflmaaGreatDoor.Abs
