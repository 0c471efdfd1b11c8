/- Protection. -/
import Derived.Test.YtjmjkdelkaflmaaGreatDoorXI
import Derived.Test.YtjmjkdelkaflmaaGreatDoorXJ
import Derived.Test.YtjmjkdelkaflmaaGreatDoorXK
set_option linter.unusedVariables false
set_option linter.unusedSimpArgs false
set_option maxRecDepth 100000
namespace Go.Proofs.YtjmjkdelkaflmaaGreatDoor.Abs
open Go Go.RowKit
theorem make_0 {H : Hp} {lba app : Int} {d : List Int} (hd : d.length = 16) :
  ACalls Tryz.prog 143 [.int .u8 0, .int .u64 lba, .agg (d.map (Value.int .u8)).toArray, .int .u16 app] H (fun v H' => v = .agg #[.int .u16 (d.foldl c16y 0), .int .u16 app, .int .u32 0] ∧ Stt [] H H' []) := by
 refine acallsW Tryz.func143 f143_ok (Nat.le_of_ble_eq_true rfl) fun hw => ?_
 have st : Stt [] H H [] := Stt.start hw
 unfold f143c
 refine zw ?_
 refine aBoxA st rfl (by simp [hd]) fun b6 H1 st => ?_
 refine zp st fun b8 H2 st => ?_
 refine zw ?_
 refine zm ?_
 refine aC (c16_sl (xs := d) (hd ▸ st.row (n := 16) (sz := 1) (c := 0) (cs := (d.map (Value.int .u8))) 1 rfl (by simp [hd]) (by rw [show (0 + 0 * 1 : Nat) = 0 from rfl, List.drop_zero, List.take_of_length_le (by simp [hd])])) (by omega)) fun v11 H3 ⟨hv, st1⟩ => ?_
 subst hv
 replace st := st.call st1 rfl
 clear st1
 refine zm ?_
 refine aBld rfl (by repeat constructor) ?_
 refine zp st fun b9 H4 st => ?_
 refine zx st 0 fun H5 st => ?_
 refine zw ?_
 refine zm ?_
 refine aBinV (.bool false) rfl rfl (rfl) ?_
 refine zm ?_
 refine zg ?_
 refine zm ?_
 refine zg ?_
 refine aBinV (.bool false) rfl rfl (rfl) ?_
 refine zm ?_
 refine zf ?_
 refine zw ?_
 refine aLdA st 0 rfl rfl (by first | decide | simp [*]) (by repeat constructor) ?_
 refine zx st 1 fun H6 st => ?_
 refine sE ?_
 refine ⟨_, out1 (zc st 1), ?_⟩
 exact ⟨rfl, st.drop⟩
theorem make_1 {H : Hp} {lba app : Int} {d : List Int} (hd : d.length = 16) :
  ACalls Tryz.prog 143 [.int .u8 1, .int .u64 lba, .agg (d.map (Value.int .u8)).toArray, .int .u16 app] H (fun v H' => v = .agg #[.int .u16 (d.foldl c16y 0), .int .u16 app, .int .u32 (IntKind.u32.wrap lba)] ∧ Stt [] H H' []) := by
 refine acallsW Tryz.func143 f143_ok (Nat.le_of_ble_eq_true rfl) fun hw => ?_
 have st : Stt [] H H [] := Stt.start hw
 unfold f143c
 refine zw ?_
 refine aBoxA st rfl (by simp [hd]) fun b6 H1 st => ?_
 refine zp st fun b8 H2 st => ?_
 refine zw ?_
 refine zm ?_
 refine aC (c16_sl (xs := d) (hd ▸ st.row (n := 16) (sz := 1) (c := 0) (cs := (d.map (Value.int .u8))) 1 rfl (by simp [hd]) (by rw [show (0 + 0 * 1 : Nat) = 0 from rfl, List.drop_zero, List.take_of_length_le (by simp [hd])])) (by omega)) fun v11 H3 ⟨hv, st1⟩ => ?_
 subst hv
 replace st := st.call st1 rfl
 clear st1
 refine zm ?_
 refine aBld rfl (by repeat constructor) ?_
 refine zp st fun b9 H4 st => ?_
 refine zx st 0 fun H5 st => ?_
 refine zw ?_
 refine zm ?_
 refine aBinV (.bool true) rfl rfl (rfl) ?_
 refine zm ?_
 iterate 2 refine zk ?_
 refine zm ?_
 show AW _ (.cond _ _ _) _ _ _
 refine cT rfl ?_
 refine zw ?_
 iterate 3 refine zm ?_
 refine zx st 0 fun H6 st => ?_
 refine zw ?_
 refine aLdA st 0 rfl rfl (by first | decide | simp [*]) (by repeat constructor) ?_
 refine zx st 1 fun H7 st => ?_
 refine sE ?_
 refine ⟨_, out1 (zc st 1), ?_⟩
 exact ⟨rfl, st.drop⟩
theorem known_0 {H : Hp}  :
  ACalls Tryz.prog 101 [.int .u8 0, .int .u8 0] H (fun v H' => v = .bool true ∧ Stt [] H H' []) := by
 refine acallsW Tryz.func101 f101_ok (Nat.le_of_ble_eq_true rfl) fun hw => ?_
 have st : Stt [] H H [] := Stt.start hw
 unfold f101c
 refine zw ?_
 refine zm ?_
 refine zw ?_
 refine zm ?_
 refine zb (.bool true) ?_
 refine zm ?_
 refine zg ?_
 refine zm ?_
 refine zg ?_
 refine zb (.bool true) ?_
 refine zg ?_
 refine zm ?_
 iterate 3 refine zk ?_
 refine gU rfl ?_
 refine gU rfl ?_
 refine zk ?_
 refine zg ?_
 iterate 3 refine zm ?_
 refine sE ?_
 refine ⟨_, out1 zr, ?_⟩
 exact ⟨rfl, st.drop⟩
theorem known_1 {H : Hp}  :
  ACalls Tryz.prog 101 [.int .u8 1, .int .u8 0] H (fun v H' => v = .bool true ∧ Stt [] H H' []) := by
 refine acallsW Tryz.func101 f101_ok (Nat.le_of_ble_eq_true rfl) fun hw => ?_
 have st : Stt [] H H [] := Stt.start hw
 unfold f101c
 refine zw ?_
 refine zm ?_
 refine zw ?_
 refine zm ?_
 refine zb (.bool true) ?_
 refine zm ?_
 refine zg ?_
 refine zm ?_
 refine zg ?_
 refine zb (.bool true) ?_
 refine zg ?_
 refine zm ?_
 iterate 3 refine zk ?_
 refine gU rfl ?_
 refine gU rfl ?_
 refine zk ?_
 refine zg ?_
 iterate 3 refine zm ?_
 refine sE ?_
 refine ⟨_, out1 zr, ?_⟩
 exact ⟨rfl, st.drop⟩
theorem esc_t {H : Hp} {g a r : Int} (ha : a = 65535) :
  ACalls Tryz.prog 163 [.int .u8 1, .agg #[.int .u16 g, .int .u16 a, .int .u32 r]] H (fun v H' => v = .bool true ∧ Stt [] H H' []) := by
 refine acallsW Tryz.func163 f163_ok (Nat.le_of_ble_eq_true rfl) fun hw => ?_
 have st : Stt [] H H [] := Stt.start hw
 unfold f163c
 refine zw ?_
 refine aBoxN st rfl rfl (by repeat constructor) rfl fun b3 H1 st => ?_
 refine zm ?_
 refine zw ?_
 refine zm ?_
 refine zl st 0 ?_
 refine aBinV (.bool false) rfl rfl (neF ha) ?_
 refine zf ?_
 refine zw ?_
 refine zm ?_
 refine zb (.bool true) ?_
 refine zm ?_
 iterate 3 refine zk ?_
 iterate 2 refine zm ?_
 refine sE ?_
 refine ⟨_, out1 zr, ?_⟩
 exact ⟨rfl, st.drop⟩
theorem esc_f {H : Hp} {g a r : Int} (ha : a ≠ 65535) :
  ACalls Tryz.prog 163 [.int .u8 1, .agg #[.int .u16 g, .int .u16 a, .int .u32 r]] H (fun v H' => v = .bool false ∧ Stt [] H H' []) := by
 refine acallsW Tryz.func163 f163_ok (Nat.le_of_ble_eq_true rfl) fun hw => ?_
 have st : Stt [] H H [] := Stt.start hw
 unfold f163c
 refine zw ?_
 refine aBoxN st rfl rfl (by repeat constructor) rfl fun b3 H1 st => ?_
 refine zm ?_
 refine zw ?_
 refine zm ?_
 refine zl st 0 ?_
 refine aBinV (.bool true) rfl rfl (neT ha) ?_
 show AW _ (.cond _ _ _) _ _ _
 refine cT rfl ?_
 refine zw ?_
 refine zm ?_
 refine sE ?_
 refine ⟨_, out1 zr, ?_⟩
 exact ⟨rfl, st.drop⟩
theorem check_0 {H : Hp} {lba g a r : Int} {d : List Int} (hd : d.length = 16) :
  ACalls Tryz.prog 141 [.int .u8 0, .int .u8 0, .int .u64 lba, .agg (blk d g a r).toArray] H (fun v H' => v = .int .u16 0 ∧ Stt [] H H' []) := by
 refine acallsW Tryz.func141 f141_ok (Nat.le_of_ble_eq_true rfl) fun hw => ?_
 have st : Stt [] H H [] := Stt.start hw
 unfold f141c
 refine zw ?_
 refine aBoxA st rfl (by simp [blk, hd]) fun b7 H1 st => ?_
 refine zm ?_
 refine zw ?_
 refine zm ?_
 refine zb (.bool true) ?_
 refine zm ?_
 iterate 2 refine zk ?_
 iterate 2 refine zm ?_
 iterate 2 refine zk ?_
 iterate 2 refine zm ?_
 iterate 2 refine zk ?_
 iterate 2 refine zm ?_
 iterate 4 refine zk ?_
 refine zm ?_
 show AW _ (.cond _ _ _) _ _ _
 refine cT rfl ?_
 refine zw ?_
 refine zm ?_
 refine sE ?_
 refine ⟨_, out1 zr, ?_⟩
 exact ⟨rfl, st.drop⟩
theorem check_e {H : Hp} {lba g a r : Int} {d : List Int} (hd : d.length = 16) (ha : a = 65535) :
  ACalls Tryz.prog 141 [.int .u8 1, .int .u8 0, .int .u64 lba, .agg (blk d g a r).toArray] H (fun v H' => v = .int .u16 0 ∧ Stt [] H H' []) := by
 refine acallsW Tryz.func141 f141_ok (Nat.le_of_ble_eq_true rfl) fun hw => ?_
 have st : Stt [] H H [] := Stt.start hw
 unfold f141c
 refine zw ?_
 refine aBoxA st rfl (by simp [blk, hd]) fun b7 H1 st => ?_
 refine zm ?_
 refine zw ?_
 refine zm ?_
 refine zb (.bool false) ?_
 refine zm ?_
 refine zg ?_
 refine zm ?_
 refine zg ?_
 refine zb (.bool false) ?_
 iterate 2 refine zm ?_
 refine zg ?_
 refine zm ?_
 refine zg ?_
 refine zb (.bool false) ?_
 iterate 2 refine zm ?_
 refine zg ?_
 refine zm ?_
 refine zg ?_
 refine zb (.bool false) ?_
 iterate 2 refine zm ?_
 refine zg ?_
 refine zm ?_
 refine zg ?_
 refine zm ?_
 refine zg ?_
 refine aLdA (xs := [.int .u16 g, .int .u16 a, .int .u32 r]) st 0 rfl rfl (by simp [blk, hd]) (by unfold blk; rw [List.drop_left' (by simp [hd])]; exact NfL.any _) ?_
 refine zg ?_
 refine aC (esc_t ha) fun v27 H2 ⟨hv, st1⟩ => ?_
 subst hv
 replace st := st.call st1 rfl
 clear st1
 refine zm ?_
 show AW _ (.cond _ _ _) _ _ _
 refine cT rfl ?_
 refine zw ?_
 refine zm ?_
 refine sE ?_
 refine ⟨_, out1 zr, ?_⟩
 exact ⟨rfl, st.drop⟩
theorem check_g {H : Hp} {lba g a r : Int} {d : List Int} (hd : d.length = 16) (ha : a ≠ 65535) (hg : g = d.foldl c16y 0) (hr : r = IntKind.u32.wrap lba) :
  ACalls Tryz.prog 141 [.int .u8 1, .int .u8 0, .int .u64 lba, .agg (blk d g a r).toArray] H (fun v H' => v = .int .u16 0 ∧ Stt [] H H' []) := by
 refine acallsW Tryz.func141 f141_ok (Nat.le_of_ble_eq_true rfl) fun hw => ?_
 have st : Stt [] H H [] := Stt.start hw
 unfold f141c
 refine zw ?_
 refine aBoxA st rfl (by simp [blk, hd]) fun b7 H1 st => ?_
 refine zm ?_
 refine zw ?_
 refine zm ?_
 refine zb (.bool false) ?_
 refine zm ?_
 refine zg ?_
 refine zm ?_
 refine zg ?_
 refine zb (.bool false) ?_
 iterate 2 refine zm ?_
 refine zg ?_
 refine zm ?_
 refine zg ?_
 refine zb (.bool false) ?_
 iterate 2 refine zm ?_
 refine zg ?_
 refine zm ?_
 refine zg ?_
 refine zb (.bool false) ?_
 iterate 2 refine zm ?_
 refine zg ?_
 refine zm ?_
 refine zg ?_
 refine zm ?_
 refine zg ?_
 refine aLdA (xs := [.int .u16 g, .int .u16 a, .int .u32 r]) st 0 rfl rfl (by simp [blk, hd]) (by unfold blk; rw [List.drop_left' (by simp [hd])]; exact NfL.any _) ?_
 refine zg ?_
 refine aC (esc_f ha) fun v27 H2 ⟨hv, st1⟩ => ?_
 subst hv
 replace st := st.call st1 rfl
 clear st1
 refine zm ?_
 refine zf ?_
 show AWp _ _ _ _ _
 refine zm ?_
 refine zb (.bool true) ?_
 refine zm ?_
 refine zg ?_
 refine zm ?_
 refine zg ?_
 refine zm ?_
 refine zg ?_
 refine aLd (v := .int .u16 g) st 0 rfl rfl (by unfold blk; rw [List.getElem?_append_right (by simp [hd])]; simp [hd]) (by constructor) ?_
 refine zg ?_
 refine zm ?_
 refine zg ?_
 refine zm ?_
 refine ⟨?_, trivial⟩
 refine zg ?_
 refine aC (c16_sl (xs := d) (hd ▸ st.row (n := 16) (sz := 1) (c := 0) (cs := (d.map (Value.int .u8))) 0 rfl (by simp [blk, hd]) (by rw [show (0 + 0 + 0 * 1 : Nat) = 0 from rfl, List.drop_zero]; unfold blk; rw [List.take_left' (by simp [hd])])) (by omega)) fun v37 H3 ⟨hv, st1⟩ => ?_
 subst hv
 replace st := st.call st1 rfl
 clear st1
 refine ⟨⟨⟨some true, .bool true, (h_Ld (v := .int .u16 g) st 0 rfl rfl (by unfold blk; rw [List.getElem?_append_right (by simp [hd])]; simp [hd]) (by constructor))⟩, trivial⟩, ?_⟩
 refine zg ?_
 refine aBinV (.bool false) rfl rfl (neF hg) ?_
 refine zm ?_
 refine zf ?_
 refine zw ?_
 refine zm ?_
 refine zb (.bool true) ?_
 refine zm ?_
 refine zg ?_
 refine zm ?_
 refine zg ?_
 refine zb (.bool true) ?_
 iterate 2 refine zm ?_
 refine zg ?_
 refine zm ?_
 refine zg ?_
 refine zm ?_
 refine zg ?_
 refine aLd (v := .int .u32 r) st 0 rfl rfl (by unfold blk; rw [List.getElem?_append_right (by simp [hd])]; simp [hd]) (by constructor) ?_
 refine zg ?_
 refine zm ?_
 refine zg ?_
 refine zm ?_
 refine zg ?_
 refine aBinV (.bool false) rfl rfl (neF hr) ?_
 refine zm ?_
 refine zf ?_
 refine zw ?_
 refine zm ?_
 refine sE ?_
 refine ⟨_, out1 zr, ?_⟩
 exact ⟨rfl, st.drop⟩
theorem enc_take {b : Bk} (h : b.ok) : (b.enc.drop (0 + 0 + 0 * 1)).take (16 * 1) = b.d.map (Value.int .u8) := by
  rw [show (0 + 0 + 0 * 1 : Nat) = 0 from rfl, List.drop_zero]
  unfold Bk.enc blk
  rw [List.take_left' (by simp [h.1])]
theorem enc_tail {b : Bk} (h : b.ok) : (b.enc.drop (0 + 16)).take 3 = [.int .u16 b.g, .int .u16 b.a, .int .u32 b.r] := by
  unfold Bk.enc blk
  rw [List.drop_left' (by simp [h.1])]
  rfl
theorem pack_call {H : Hp} {bs : List Bk} {x : Value} {w : Bool} (hx : Sl H 19 bs.length (encs bs) x) (hb : BksOk bs) (hl : bs.length * 24 ≤ 140737488351232) :
  ACalls Tryz.prog 107 [x, .bool w] H (fun v H' => ∃ ob, v = accV ob (pkL w bs).length 1 ∧ Stt [] H H' [⟨ob, true, ⟨true, 5, (pkL w bs).map (Value.int .u8)⟩⟩]) := by
 refine acallsW Tryz.func107 f107_ok (Nat.le_of_ble_eq_true rfl) fun hw => ?_
 have st : Stt [] H H [] := Stt.start hw
 unfold f107c
 refine zw ?_
 refine zm ?_
 refine zw ?_
 refine zm ?_
 refine zw ?_
 refine aMovV x rfl ?_
 refine aLen (st.slc hx) rfl ?_
 refine zm ?_
 refine sE ?_
 show AW _ (.loop _) _ _ _
 have st := st.nil 5
 refine AW_loopN (fun m t1 H1 => ∃ (j : Nat) (ob : Option Nat), m = bs.length - j ∧ (j ≤ bs.length) ∧ t1 5 = accV ob (pkL w (bs.take j)).length 1 ∧ t1 11 = .int .i64 (j : Int) ∧ Stt [] H H1 [⟨ob, true, ⟨true, 5, (pkL w (bs.take j)).map (Value.int .u8)⟩⟩]) (bs.length - 0) ⟨0, none, rfl, by omega, rfl, rfl, (st.sel [0] (by decide))⟩ [5, 7, 8, 11, 12, 13, 14, 15, 16, 17, 18, 19, 20, 21, 22, 23, 24, 25, 26, 27, 28, 29, 30, 31, 32, 33, 34, 35, 36, 37, 38, 39, 40, 41, 42, 43, 44, 45, 46, 47, 48, 49, 50, 51, 52, 53, 54] (by decide) ?_
 rintro m t1 H1 hk hI
 obtain ⟨j, ob, rfl, hf0, ht5, ht11, st⟩ := hI
 obtain ⟨u, rfl⟩ : ∃ u, t1 = (upd (upd (mix [5, 7, 8, 11, 12, 13, 14, 15, 16, 17, 18, 19, 20, 21, 22, 23, 24, 25, 26, 27, 28, 29, 30, 31, 32, 33, 34, 35, 36, 37, 38, 39, 40, 41, 42, 43, 44, 45, 46, 47, 48, 49, 50, 51, 52, 53, 54] _ u) (some 5) _) (some 11) _) := ⟨t1, by rw [← hk, upd_self ht5, upd_self ht11]⟩
 clear hk ht5 ht11
 refine zw ?_
 refine zm ?_
 show AW _ (.cond _ _ _) _ _ _
 refine cC' rfl (fun h1 => ?_) (fun h1 => ?_)
 ·have hlt : j < bs.length := by have := of_decide_eq_true h1; omega
  have hbj := hb _ (List.getElem_mem hlt)
  have hbt : BksOk (bs.take j) := fun b hm => hb b (List.mem_of_mem_take hm)
  have hstep := pkL_take (w := w) hlt
  refine zw ?_
  refine aIx (st.slc hx) rfl rfl (by omega) fun b13 o13 g13 => ?_
  rw [show ((j : Int)).toNat = j from rfl, encs_get hb hlt] at g13
  refine aLdAG rfl g13 ?_
  refine zp st fun b7 H2 st => ?_
  refine aStAllA st 0 rfl rfl rfl (Bk_len hbj) (rfl) fun H3 st => ?_
  refine zw ?_
  refine aMovA rfl ?_
  iterate 2 refine zm ?_
  refine aAppP st 1 (ob := ob) rfl rfl rfl (by decide) (by simp) (st.row (n := 16) (sz := 1) (c := 0) 0 rfl (by rw [Bk_len hbj]; omega) (enc_take hbj)).src (by simp [Bk_len hbj, hbj.1]) (by have := pkL_len (w := w) (bs := bs.take j) hbt; simp only [List.length_take] at this; split at this <;> omega) (by have := pkL_len (w := w) (bs := bs.take j) hbt; simp only [List.length_take] at this; split at this <;> omega) (by have := pkL_len (w := w) (bs := bs.take j) hbt; simp only [List.length_take] at this; split at this <;> omega) (NfL.any _) fun b18 H4 st => ?_
  refine zm ?_
  refine zw ?_
  refine zm ?_
  show AW _ (.cond _ _ _) _ _ _
  refine cC' rfl (fun h5 => ?_) (fun h5 => ?_)
  ·have hwb : w = true := h5
   refine zw ?_
   refine zm ?_
   refine aLdA (xs := [.int .u16 bs[j].g, .int .u16 bs[j].a, .int .u32 bs[j].r]) st 0 rfl rfl (by rw [Bk_len hbj]; omega) (by rw [enc_tail hbj]; exact NfL.any _) ?_
   refine zp st fun b8 H6 st => ?_
   refine zx st 0 fun H7 st => ?_
   refine zw ?_
   iterate 2 refine zm ?_
   refine zl st 0 ?_
   iterate 3 refine zm ?_
   refine zl st 0 ?_
   iterate 2 refine zm ?_
   refine zl st 0 ?_
   iterate 3 refine zm ?_
   refine zl st 0 ?_
   iterate 2 refine zm ?_
   refine zl st 0 ?_
   iterate 3 refine zm ?_
   refine zl st 0 ?_
   iterate 3 refine zm ?_
   refine zl st 0 ?_
   iterate 3 refine zm ?_
   refine zl st 0 ?_
   refine zm ?_
   refine aLit st rfl (by repeat constructor) fun b52 H8 st => ?_
   refine aAppP st 3 (ob := some b18) rfl rfl rfl (by decide) (by simp [hbj.1]) (st.rowAll 0 rfl (by first | rfl | (simp [beB_len, *]; done) | (simp [beB_len, *]; omega))).src (rfl) (by have := pkL_len (w := w) (bs := bs.take j) hbt; simp only [List.length_take] at this; split at this <;> omega) (by have := pkL_len (w := w) (bs := bs.take j) hbt; simp only [List.length_take] at this; split at this <;> omega) (by have := pkL_len (w := w) (bs := bs.take j) hbt; simp only [List.length_take] at this; split at this <;> omega) (NfL.any _) fun b53 H9 st => ?_
   refine zm ?_
   refine zw ?_
   iterate 2 refine zm ?_
   refine sE ?_
   exact ⟨_, by omega, j + 1, some b53, rfl, by omega, congrArg (fun n => accV (some _) n 1) (by rw [hstep]; simp [pkB, hbj.1, beB_len, hwb]), congrArg (Value.int .i64) (wi _ (by omega)), (by have st2 := (st.sel [3] (by decide)); rw [hstep]; simpa [pkB, hwb, be2 hbj.2.2.1, be2 hbj.2.2.2.1, be4 hbj.2.2.2.2] using st2)⟩
  ·have hwb : w = false := h5
   refine zw ?_
   iterate 2 refine zm ?_
   refine sE ?_
   exact ⟨_, by omega, j + 1, some b18, rfl, by omega, congrArg (fun n => accV (some _) n 1) (by rw [hstep]; simp [pkB, hbj.1, beB_len, hwb]), congrArg (Value.int .i64) (wi _ (by omega)), (by have st2 := (st.sel [1] (by decide)); rw [hstep]; simpa [pkB, hwb, be2 hbj.2.2.1, be2 hbj.2.2.2.1, be4 hbj.2.2.2.2] using st2)⟩
 ·have hge : j = bs.length := by have := of_decide_eq_false h1; omega
  subst hge
  refine zw ?_
  refine aMovA rfl ?_
  refine aMovA rfl ?_
  refine sE ?_
  refine ⟨_, out1 (r_acc rfl), ?_⟩
  rw [List.take_length] at st ⊢; exact ⟨ob, rfl, by simpa using st.pick 0 rfl⟩
theorem unB_enc_false {c : List Int} : (unB false c).enc = (c.map (Value.int .u8)).take 16 ++ [.int .u16 0, .int .u16 0, .int .u32 0] := by simp [unB, Bk.enc, blk, List.map_take]
theorem rem_ne {n k : Nat} (h : ((((n : Int).tmod (k : Int)) != 0)) = true) (hk : 0 < k) : ¬ (n % k = 0) := by
  rw [Int.tmod_eq_emod_of_nonneg (by omega)] at h
  simp only [bne_iff_ne, ne_eq] at h
  omega
theorem rem_eq {n k : Nat} (h : ((((n : Int).tmod (k : Int)) != 0)) = false) (hk : 0 < k) : n % k = 0 := by
  rw [Int.tmod_eq_emod_of_nonneg (by omega)] at h
  simp only [bne_eq_false_iff_eq] at h
  omega
theorem putAll1 {c : List Value} {m : Nat} (hc : 16 ≤ m) : ([.int .u8 0, .int .u8 0, .int .u8 0, .int .u8 0, .int .u8 0, .int .u8 0, .int .u8 0, .int .u8 0, .int .u8 0, .int .u8 0, .int .u8 0, .int .u8 0, .int .u8 0, .int .u8 0, .int .u8 0, .int .u8 0, .int .u16 0, .int .u16 0, .int .u32 0] : List Value).take (0 + 0 + 0 * 1) ++ c.take (min m (16 - 0) * 1) ++ ([.int .u8 0, .int .u8 0, .int .u8 0, .int .u8 0, .int .u8 0, .int .u8 0, .int .u8 0, .int .u8 0, .int .u8 0, .int .u8 0, .int .u8 0, .int .u8 0, .int .u8 0, .int .u8 0, .int .u8 0, .int .u8 0, .int .u16 0, .int .u16 0, .int .u32 0] : List Value).drop (0 + 0 + 0 * 1 + min m (16 - 0) * 1) = c.take 16 ++ [.int .u16 0, .int .u16 0, .int .u32 0] :=
  putAll c [.int .u16 0, .int .u16 0, .int .u32 0] rfl (List.replicate 16 (.int .u8 0)) rfl m hc
theorem size_false_call {H : Hp}  :
  ACalls Tryz.prog 148 [.bool false] H (fun v H' => v = .int .i64 16 ∧ Stt [] H H' []) := by
 refine acallsW Tryz.func148 f148_ok (Nat.le_of_ble_eq_true rfl) fun hw => ?_
 have st : Stt [] H H [] := Stt.start hw
 unfold f148c
 refine zw ?_
 refine zm ?_
 refine zw ?_
 refine zm ?_
 refine zf ?_
 refine zw ?_
 refine zm ?_
 refine sE ?_
 refine ⟨_, out1 zr, ?_⟩
 exact ⟨rfl, st.drop⟩
theorem unpack_false_call {H : Hp} {xs : List Int} {x : Value} (hx : Sl H 1 xs.length (xs.map (Value.int .u8)) x) (hb0 : ByteL xs) (hl : xs.length ≤ 140737488355328) (hl2 : xs.length / 16 * 24 ≤ 140737488355328) :
  ACalls Tryz.prog 138 [x, .bool false] H (fun v H' => ∃ ob, v = .tuple #[accV ob (unR false xs).length 19, .bool (decide (xs.length % 16 = 0))] ∧ Stt [] H H' [⟨ob, true, ⟨true, 262, encs (unR false xs)⟩⟩]) := by
 refine acallsW Tryz.func138 f138_ok (Nat.le_of_ble_eq_true rfl) fun hw => ?_
 have st : Stt [] H H [] := Stt.start hw
 unfold f138c
 refine zw ?_
 iterate 2 refine zm ?_
 refine zw ?_
 refine zm ?_
 refine aC (size_false_call) fun v11 H1 ⟨hv, st1⟩ => ?_
 subst hv
 replace st := st.call st1 rfl
 clear st1
 refine zm ?_
 refine zw ?_
 refine aMovV x rfl ?_
 refine aLen (st.slc hx) rfl ?_
 refine zm ?_
 refine aN rfl (e_rem rfl rfl (by first | decide | omega)) (by constructor) ?_
 refine zm ?_
 show AW _ (.cond _ _ _) _ _ _
 refine cC' rfl (fun h2 => ?_) (fun h2 => ?_)
 ·have hne : ¬ (xs.length % szB false = 0) := rem_ne h2 (by decide)
  refine zw ?_
  iterate 2 refine zm ?_
  refine sE ?_
  refine ⟨_, out2 zr zr ⟨rfl, rfl⟩, ?_⟩
  exact ⟨none, by simp [unR, hne, accV]; exact hne, by simpa [unR, hne, encs] using (st.nil 262).pick 0 rfl⟩
 ·have heq : xs.length % 16 = 0 := rem_eq h2 (by decide)
  refine zw ?_
  refine zm ?_
  refine sE ?_
  show AW _ (.loop _) _ _ _
  have st := st.nil 262
  refine AW_loopN (fun m t1 H1 => ∃ (j : Nat) (ob : Option Nat) (v : Value), m = xs.length / 16 - j ∧ (j * 16 ≤ xs.length) ∧ (Sl H 1 (xs.length - j * 16) ((xs.drop (j * 16)).map (Value.int .u8)) v) ∧ t1 0 = v ∧ t1 7 = accV ob j 19 ∧ Stt [] H H1 [⟨ob, true, ⟨true, 262, encs ((unL false xs).take j)⟩⟩]) (xs.length / 16 - 0) ⟨0, none, x, rfl, by omega, by simpa using hx, rfl, rfl, (by simpa [encs] using (st.sel [0] (by decide)))⟩ [0, 7, 8, 9, 17, 18, 19, 20, 21, 22, 23, 24, 25, 26, 27, 28, 29, 30, 31, 32, 33, 34, 35, 36, 37, 38, 39, 40, 41, 42, 43, 44, 45, 46, 47, 48, 49, 50, 51, 52, 53, 54, 55, 56, 57, 58, 59, 60, 61, 62, 63, 64, 65, 66, 67, 68, 69, 70, 71, 72, 73, 74, 75, 76, 77] (by decide) ?_
  rintro m t1 H1 hk hI
  obtain ⟨j, ob, v, rfl, hj, hs, ht0, ht7, st⟩ := hI
  obtain ⟨u, rfl⟩ : ∃ u, t1 = (upd (upd (mix [0, 7, 8, 9, 17, 18, 19, 20, 21, 22, 23, 24, 25, 26, 27, 28, 29, 30, 31, 32, 33, 34, 35, 36, 37, 38, 39, 40, 41, 42, 43, 44, 45, 46, 47, 48, 49, 50, 51, 52, 53, 54, 55, 56, 57, 58, 59, 60, 61, 62, 63, 64, 65, 66, 67, 68, 69, 70, 71, 72, 73, 74, 75, 76, 77] _ u) (some 0) _) (some 7) _) := ⟨t1, by rw [← hk, upd_self ht0, upd_self ht7]⟩
  clear hk ht0 ht7
  refine zw ?_
  refine aMovV v rfl ?_
  refine aLen (st.slc hs) rfl ?_
  refine zm ?_
  show AW _ (.cond _ _ _) _ _ _
  refine cC' rfl (fun h3 => ?_) (fun h3 => ?_)
  ·have hgt : 0 < xs.length - j * 16 := by have := of_decide_eq_true h3; omega
   have hj1 : (j + 1) * 16 ≤ xs.length := by omega
   have hlen : 16 ≤ xs.length - j * 16 := by omega
   have hlt : j < xs.length / szB false := by show j < xs.length / 16; omega
   have hstep := unL_take hlt
   refine zw ?_
   refine zp st fun b8 H4 st => ?_
   refine zw ?_
   iterate 2 refine zm ?_
   refine aMovV v rfl ?_
   refine aCopy st 0 rfl rfl ((st.slc hs)).src (by simp) (by decide) (by omega) (by simp; omega) (by rw [putAll1 hlen]; exact NfL.any _) fun H5 st => ?_
   refine zw ?_
   refine zm ?_
   refine zf ?_
   refine zw ?_
   refine aMovA rfl ?_
   refine aLdAll st 0 rfl rfl (by simp; omega) ?_
   refine aLit1 st rfl (by simp; omega) rfl fun b76 H6 st => ?_
   refine aAppP st 2 (ob := ob) rfl rfl rfl (by decide) (by rw [encs_len (fun b hb => unL_ok hb0 b (List.mem_of_mem_take hb))]; simp [unL_len, szB]; omega) (st.rowAll 0 rfl (by simp; omega)).src (by simp; omega) (by omega) (by omega) (by omega) (NfL.any _) fun b77 H7 st => ?_
   refine zm ?_
   refine zw ?_
   refine aMovV v rfl ?_
   refine zm ?_
   refine aCutL (st.slc hs) rfl rfl (by omega) fun v22 s22 => ?_
   replace s22 := s22 _ hs
   refine aMovV v22 rfl ?_
   refine sE ?_
   exact ⟨_, by omega, j + 1, some b77, v22, rfl, by omega, (by have h2 := s22; simpa [List.drop_drop, Nat.add_mul, Nat.sub_sub, List.map_drop] using h2), rfl, rfl, (by have st2 := (st.sel [2] (by decide)); rw [hstep, unB_enc_false]; exact st2)⟩
  ·have hge : j = xs.length / szB false := by have := of_decide_eq_false h3; show j = xs.length / 16; omega
   refine zw ?_
   refine aMovA rfl ?_
   refine aMovA rfl ?_
   refine zm ?_
   refine sE ?_
   refine ⟨_, out2 (r_acc rfl) zr ⟨notTup_acc, rfl⟩, ?_⟩
   have hR : unR false xs = unL false xs := if_pos heq
   exact ⟨ob, by rw [hR, unL_len, ← hge]; simp [heq], by rw [hR]; have st2 := st.pick 0 rfl; rwa [List.take_of_length_le (by rw [unL_len]; omega)] at st2⟩
/-- A block that is right at its place. -/
def GoodB (kd : Int) (k : Nat) (b : Bk) : Prop := kd = 0 ∨ b.a = 65535 ∨ (b.a ≠ 65535 ∧ b.g = b.d.foldl c16y 0 ∧ b.r = IntKind.u32.wrap (k : Int))
theorem bsR_get {fs : List (Option Bk)} {lba n i : Nat} (h : i < n) : (bsR fs lba n)[i]'(by rw [bsR_len]; exact h) = blkAt fs (lba + i) := by simp [bsR]
theorem good_n {H : Hp} {p m : Nat}  :
  ACalls Tryz.prog 106 [.slice none 0 0] H (fun v H' => v = zR ∧ Stt [] H H' []) := by
 refine acallsW Tryz.func106 f106_ok (Nat.le_of_ble_eq_true rfl) fun hw => ?_
 have st : Stt [] H H [] := Stt.start hw
 unfold f106c
 refine zw ?_
 refine zp st fun b2 H1 st => ?_
 refine zw ?_
 refine zm ?_
 refine aBld rfl (by repeat constructor) ?_
 refine zx st 0 fun H2 st => ?_
 refine sE ?_
 refine ⟨_, out1 (zc st 0), ?_⟩
 exact ⟨rfl, st.drop⟩
theorem good_s {H : Hp} {p m : Nat}  :
  ACalls Tryz.prog 106 [.slice (some ⟨p, 0, none⟩) m 1] H (fun v H' => v = .agg #[.int .u8 0, .int .u8 0, .int .u16 0, .int .u64 0, .bool false, .int .i64 0, .int .i64 0, .bool false, .bool false, .slice (some ⟨p, 0, none⟩) m 1] ∧ Stt [] H H' []) := by
 refine acallsW Tryz.func106 f106_ok (Nat.le_of_ble_eq_true rfl) fun hw => ?_
 have st : Stt [] H H [] := Stt.start hw
 unfold f106c
 refine zw ?_
 refine zp st fun b2 H1 st => ?_
 refine zw ?_
 refine zm ?_
 refine aBld rfl (by repeat constructor) ?_
 refine zx st 0 fun H2 st => ?_
 refine sE ?_
 refine ⟨_, out1 (zc st 0), ?_⟩
 exact ⟨rfl, st.drop⟩
theorem dblocks_call {H : Hp} {dv s w nb : Nat} {nm : ByteArray} {pr : Int} {ca : Bool} (st0 : Stt [] H H [⟨some dv, false, zD s pr⟩, ⟨some s, false, ⟨true, 176, [zP w, .string nm, .int .i64 (nb : Int), .bool ca]⟩⟩]) (hnb : (nb : Int) ≤ 4096) :
  ACalls Tryz.prog 103 [zP dv] H (fun v H' => v = .int .u64 (nb : Int) ∧ Stt [] H H' []) := by
 refine acallsW Tryz.func103 f103_ok (Nat.le_of_ble_eq_true rfl) fun hw => ?_
 have st : Stt [] H H [] := Stt.start hw
 replace st := st0
 unfold f103c
 refine zw ?_
 refine zm ?_
 refine zw ?_
 iterate 3 refine zm ?_
 refine zl st 0 ?_
 refine aC (blocks_call (nb := (nb : Int)) (zM st [] [1])) fun v7 H1 ⟨hv, st1⟩ => ?_
 subst hv
 replace st := st.call st1 rfl
 clear st1
 refine aConvV (n := (nb : Int)) (n' := (nb : Int)) rfl (by rw [w64]; omega) ?_
 refine zm ?_
 refine sE ?_
 refine ⟨_, out1 zr, ?_⟩
 exact ⟨rfl, st.drop⟩
theorem subU {tk : Nat} {a b : Int} (h : 0 ≤ a - b ∧ a - b < 18446744073709551616) : aBin tk .sub (.int .u64 a) (.int .u64 b) = some (.int .u64 (a - b)) := by
  simp only [aBin, isShift, aInt, if_true, if_false, Bool.false_eq_true]
  rw [w64, Int.emod_eq_of_lt h.1 h.2]
theorem addU64 {tk : Nat} {a b c : Int} (h : a + b = c) (hc : 0 ≤ c ∧ c < 18446744073709551616) : aBin tk .add (.int .u64 a) (.int .u64 b) = some (.int .u64 c) := by
  simp only [aBin, isShift, aInt, if_true, if_false, Bool.false_eq_true]
  rw [h, w64, Int.emod_eq_of_lt hc.1 hc.2]
theorem within_call {H : Hp} {a b c : Int} (h : 0 ≤ a ∧ 0 ≤ b ∧ a + b ≤ c ∧ c ≤ 4096) :
  ACalls Tryz.prog 102 [.int .u64 a, .int .u64 b, .int .u64 c] H (fun v H' => v = .bool true ∧ Stt [] H H' []) := by
 refine acallsW Tryz.func102 f102_ok (Nat.le_of_ble_eq_true rfl) fun hw => ?_
 have st : Stt [] H H [] := Stt.start hw
 unfold f102c
 refine zw ?_
 refine zm ?_
 refine zw ?_
 iterate 2 refine zm ?_
 refine aBinV (.bool true) rfl rfl (leT (by omega)) ?_
 refine zm ?_
 refine zg ?_
 refine zm ?_
 refine zg ?_
 refine zm ?_
 refine zg ?_
 refine zm ?_
 refine zg ?_
 refine aBinV (.int .u64 (c - a)) rfl rfl (subU (by omega)) ?_
 refine zg ?_
 refine aBinV (.bool true) rfl rfl (leT (by omega)) ?_
 iterate 2 refine zm ?_
 refine sE ?_
 refine ⟨_, out1 zr, ?_⟩
 exact ⟨rfl, st.drop⟩
theorem dread_0 {H : Hp} {s w sb db lba n nb dv : Nat} {wv : Value} {ob : Option Nat} {c : List (Value × Value)} {nm : ByteArray} {fs : List (Option Bk)} {ops stop : Int} {ca : Bool} {lg al q7 q8 q9 q10 q11 q12 q13 q14 : Value} (st0 : Stt [w] H H [⟨some w, true, zW sb db wv ops stop⟩, ⟨some sb, false, ⟨true, .mp c, []⟩⟩, ⟨ob, false, ⟨true, 5, (fileL fs).map (Value.int .u8)⟩⟩, ⟨some s, false, ⟨true, 176, [zP w, .string nm, .int .i64 (nb : Int), .bool ca]⟩⟩, ⟨some dv, false, zD s 0⟩]) (hn1 : 1 ≤ nm.size) (hn2 : nm.size ≤ 32) (hF : FileAt c nm ob fs) (hfs : FsOk fs) (hnb : (nb : Int) ≤ 4096) (hlba : (lba : Int) + (n : Int) ≤ (nb : Int)) (hfl4 : fs.length ≤ 4096) (ho : 0 ≤ ops ∧ ops ≤ 900000000) (hs : ∀ i : Nat, i < n → ops + (i : Int) ≠ stop) (hgood : ∀ i, i < n → GoodB 0 (lba + i) (blkAt fs (lba + i))) :
  ACalls Tryz.prog 105 [zP dv, .agg #[.int .u8 7, lg, .int .u64 (lba : Int), .int .u64 (n : Int), al, .bool false, .int .u8 0, q7, q8, q9, q10, q11, q12, q13, q14]] H (fun v H' => ∃ ow, v = .tuple #[accV ow n 19, zR, .bool true] ∧ Stt [w] H H' [⟨some w, true, zW sb db wv (ops + (n : Int)) stop⟩, ⟨ow, true, ⟨true, 262, encs (bsR fs lba n)⟩⟩]) := by
 refine acallsW Tryz.func105 f105_ok (Nat.le_of_ble_eq_true rfl) fun hw => ?_
 have st : Stt [w] H H [] := Stt.start hw
 replace st := st0
 unfold f105c
 refine zw ?_
 refine aBoxN st rfl rfl (by repeat constructor) rfl fun b3 H1 st => ?_
 refine zm ?_
 refine zp st fun b5 H2 st => ?_
 refine zm ?_
 refine sE ?_
 show AWp _ _ _ _ _
 iterate 3 refine zm ?_
 refine zl st 6 ?_
 refine zm ?_
 refine zl st 1 ?_
 refine aConvV (n := (lba : Int)) (n' := (lba : Int)) rfl (wi _ (by omega)) ?_
 refine zm ?_
 refine zl st 1 ?_
 refine aConvV (n := (n : Int)) (n' := (n : Int)) rfl (wi _ (by omega)) ?_
 refine ⟨?_, trivial⟩
 refine aC (sread_ok (zN st [2] [3, 4, 5]) hn1 hn2 hF hfs hnb hlba hfl4 ho hs) fun v25 H3 ⟨ow, hv, st1⟩ => ?_
 subst hv
 replace st := st.callT (ob := some w) 2 rfl st1 rfl
 clear st1
 refine ⟨⟨zh st 3, zh st 3, trivial⟩, ?_⟩
 refine zm ?_
 refine aExtA rfl rfl ?_
 iterate 2 refine zm ?_
 refine aMovA rfl ?_
 iterate 2 refine zm ?_
 refine zw ?_
 refine zm ?_
 refine zb (.bool false) ?_
 refine zf ?_
 refine zw ?_
 refine aMovA rfl ?_
 refine aLen (st.rowAcc 1 rfl (by decide) (by rw [encs_len (bsR_ok hfs _ _), bsR_len])) rfl ?_
 refine zm ?_
 refine sE ?_
 show AW _ (.loop _) _ _ _
 refine AW_loopN (fun m t1 H1 => ∃ (i : Nat), m = n - i ∧ (i ≤ n) ∧ t1 39 = .int .i64 (i : Int) ∧ Stt [w] H H1 [⟨ow, true, ⟨true, 262, encs (bsR fs lba n)⟩⟩, ⟨some b3, true, ⟨true, 108, [.int .u8 7, lg, .int .u64 (lba : Int), .int .u64 (n : Int), al, .bool false, .int .u8 0, q7, q8, q9, q10, q11, q12, q13, q14]⟩⟩, ⟨some b5, true, ⟨true, 43, [.int .u8 0, .int .u8 0, .int .u16 0, .int .u64 0, .bool false, .int .i64 0, .int .i64 0, .bool false, .bool false, .slice none 0 0]⟩⟩, ⟨some w, true, zW sb db wv (ops + (n : Int)) stop⟩, ⟨some dv, false, zD s 0⟩]) (n - 0) ⟨0, rfl, Nat.zero_le _, rfl, (st.sel [1, 3, 2, 0, 7] (by decide))⟩ [4, 6, 10, 11, 12, 13, 39, 40, 41, 42, 43, 44, 45, 46, 47, 48, 49, 50, 51, 52, 53, 54, 55, 56, 57, 58, 59, 60, 61, 62, 63] (by decide) ?_
 rintro m t1 H1 hk hI
 obtain ⟨i, rfl, hi, ht39, st⟩ := hI
 obtain ⟨u, rfl⟩ : ∃ u, t1 = (upd (mix [4, 6, 10, 11, 12, 13, 39, 40, 41, 42, 43, 44, 45, 46, 47, 48, 49, 50, 51, 52, 53, 54, 55, 56, 57, 58, 59, 60, 61, 62, 63] _ u) (some 39) _) := ⟨t1, by rw [← hk, upd_self ht39]⟩
 clear hk ht39
 refine zw ?_
 refine zm ?_
 show AW _ (.cond _ _ _) _ _ _
 refine cC' rfl (fun h4 => ?_) (fun h4 => ?_)
 ·have hlt : i < n := by have := of_decide_eq_true h4; omega
  have hbi := blkAt_ok hfs (lba + i)
  refine zw ?_
  refine zm ?_
  refine aIx (st.rowAcc 0 rfl (by decide) (by rw [encs_len (bsR_ok hfs _ _), bsR_len])) rfl rfl (by omega) fun b42 o42 g42 => ?_
  rw [show ((i : Int)).toNat = i from rfl, encs_get (bsR_ok hfs lba n) (by rw [bsR_len]; exact hlt), bsR_get hlt] at g42
  refine aLdAG rfl g42 ?_
  refine zp st fun b11 H5 st => ?_
  refine zm ?_
  refine aStAllA st 0 rfl rfl rfl (Bk_len hbi) (rfl) fun H6 st => ?_
  refine zw ?_
  refine zm ?_
  refine zl st 2 ?_
  refine zm ?_
  refine aConvV (n := (i : Int)) (n' := (i : Int)) rfl (by rw [w64]; omega) ?_
  refine aBinV (.int .u64 ((lba + i : Nat) : Int)) rfl rfl (addU64 (by omega) (by omega)) ?_
  refine zm ?_
  refine sE ?_
  show AWp _ _ _ _ _
  iterate 3 refine zm ?_
  refine zl st 5 ?_
  refine zm ?_
  refine zl st 2 ?_
  refine zm ?_
  refine aLdAll st 0 rfl rfl (Bk_len hbi) ?_
  refine ⟨?_, trivial⟩
  refine aC (check_0 hbi.1) fun v57 H7 ⟨hv, st1⟩ => ?_
  subst hv
  replace st := st.call st1 rfl
  clear st1
  refine ⟨trivial, ?_⟩
  refine zm ?_
  refine zw ?_
  refine zm ?_
  refine zb (.bool false) ?_
  refine zf ?_
  refine zw ?_
  refine aBinV (.int .i64 ((i + 1 : Nat) : Int)) rfl rfl (addI (by omega) (by omega)) ?_
  refine zm ?_
  refine sE ?_
  exact ⟨_, by omega, (i + 1), rfl, by omega, rfl, (st.sel [1, 2, 3, 4, 5] (by decide))⟩
 ·have hge : i = n := by have := of_decide_eq_false h4; omega
  subst hge
  refine zw ?_
  refine aMovA rfl ?_
  refine aBld rfl (by repeat constructor) ?_
  refine aMovA rfl ?_
  refine zx st 2 fun H8 st => ?_
  refine zm ?_
  refine sE ?_
  refine ⟨_, out3 (r_acc rfl) (zc st 2) zr ⟨notTup_acc, rfl, rfl⟩, ?_⟩
  exact ⟨ow, rfl, st.sel [3, 0] (by decide)⟩
theorem dread_1 {H : Hp} {s w sb db lba n nb dv : Nat} {wv : Value} {ob : Option Nat} {c : List (Value × Value)} {nm : ByteArray} {fs : List (Option Bk)} {ops stop : Int} {ca : Bool} {lg al q7 q8 q9 q10 q11 q12 q13 q14 : Value} (st0 : Stt [w] H H [⟨some w, true, zW sb db wv ops stop⟩, ⟨some sb, false, ⟨true, .mp c, []⟩⟩, ⟨ob, false, ⟨true, 5, (fileL fs).map (Value.int .u8)⟩⟩, ⟨some s, false, ⟨true, 176, [zP w, .string nm, .int .i64 (nb : Int), .bool ca]⟩⟩, ⟨some dv, false, zD s 1⟩]) (hn1 : 1 ≤ nm.size) (hn2 : nm.size ≤ 32) (hF : FileAt c nm ob fs) (hfs : FsOk fs) (hnb : (nb : Int) ≤ 4096) (hlba : (lba : Int) + (n : Int) ≤ (nb : Int)) (hfl4 : fs.length ≤ 4096) (ho : 0 ≤ ops ∧ ops ≤ 900000000) (hs : ∀ i : Nat, i < n → ops + (i : Int) ≠ stop) (hgood : ∀ i, i < n → GoodB 1 (lba + i) (blkAt fs (lba + i))) :
  ACalls Tryz.prog 105 [zP dv, .agg #[.int .u8 7, lg, .int .u64 (lba : Int), .int .u64 (n : Int), al, .bool false, .int .u8 0, q7, q8, q9, q10, q11, q12, q13, q14]] H (fun v H' => ∃ ow, v = .tuple #[accV ow n 19, zR, .bool true] ∧ Stt [w] H H' [⟨some w, true, zW sb db wv (ops + (n : Int)) stop⟩, ⟨ow, true, ⟨true, 262, encs (bsR fs lba n)⟩⟩]) := by
 refine acallsW Tryz.func105 f105_ok (Nat.le_of_ble_eq_true rfl) fun hw => ?_
 have st : Stt [w] H H [] := Stt.start hw
 replace st := st0
 unfold f105c
 refine zw ?_
 refine aBoxN st rfl rfl (by repeat constructor) rfl fun b3 H1 st => ?_
 refine zm ?_
 refine zp st fun b5 H2 st => ?_
 refine zm ?_
 refine sE ?_
 show AWp _ _ _ _ _
 iterate 3 refine zm ?_
 refine zl st 6 ?_
 refine zm ?_
 refine zl st 1 ?_
 refine aConvV (n := (lba : Int)) (n' := (lba : Int)) rfl (wi _ (by omega)) ?_
 refine zm ?_
 refine zl st 1 ?_
 refine aConvV (n := (n : Int)) (n' := (n : Int)) rfl (wi _ (by omega)) ?_
 refine ⟨?_, trivial⟩
 refine aC (sread_ok (zN st [2] [3, 4, 5]) hn1 hn2 hF hfs hnb hlba hfl4 ho hs) fun v25 H3 ⟨ow, hv, st1⟩ => ?_
 subst hv
 replace st := st.callT (ob := some w) 2 rfl st1 rfl
 clear st1
 refine ⟨⟨zh st 3, zh st 3, trivial⟩, ?_⟩
 refine zm ?_
 refine aExtA rfl rfl ?_
 iterate 2 refine zm ?_
 refine aMovA rfl ?_
 iterate 2 refine zm ?_
 refine zw ?_
 refine zm ?_
 refine zb (.bool false) ?_
 refine zf ?_
 refine zw ?_
 refine aMovA rfl ?_
 refine aLen (st.rowAcc 1 rfl (by decide) (by rw [encs_len (bsR_ok hfs _ _), bsR_len])) rfl ?_
 refine zm ?_
 refine sE ?_
 show AW _ (.loop _) _ _ _
 refine AW_loopN (fun m t1 H1 => ∃ (i : Nat), m = n - i ∧ (i ≤ n) ∧ t1 39 = .int .i64 (i : Int) ∧ Stt [w] H H1 [⟨ow, true, ⟨true, 262, encs (bsR fs lba n)⟩⟩, ⟨some b3, true, ⟨true, 108, [.int .u8 7, lg, .int .u64 (lba : Int), .int .u64 (n : Int), al, .bool false, .int .u8 0, q7, q8, q9, q10, q11, q12, q13, q14]⟩⟩, ⟨some b5, true, ⟨true, 43, [.int .u8 0, .int .u8 0, .int .u16 0, .int .u64 0, .bool false, .int .i64 0, .int .i64 0, .bool false, .bool false, .slice none 0 0]⟩⟩, ⟨some w, true, zW sb db wv (ops + (n : Int)) stop⟩, ⟨some dv, false, zD s 1⟩]) (n - 0) ⟨0, rfl, Nat.zero_le _, rfl, (st.sel [1, 3, 2, 0, 7] (by decide))⟩ [4, 6, 10, 11, 12, 13, 39, 40, 41, 42, 43, 44, 45, 46, 47, 48, 49, 50, 51, 52, 53, 54, 55, 56, 57, 58, 59, 60, 61, 62, 63] (by decide) ?_
 rintro m t1 H1 hk hI
 obtain ⟨i, rfl, hi, ht39, st⟩ := hI
 obtain ⟨u, rfl⟩ : ∃ u, t1 = (upd (mix [4, 6, 10, 11, 12, 13, 39, 40, 41, 42, 43, 44, 45, 46, 47, 48, 49, 50, 51, 52, 53, 54, 55, 56, 57, 58, 59, 60, 61, 62, 63] _ u) (some 39) _) := ⟨t1, by rw [← hk, upd_self ht39]⟩
 clear hk ht39
 refine zw ?_
 refine zm ?_
 show AW _ (.cond _ _ _) _ _ _
 refine cC' rfl (fun h4 => ?_) (fun h4 => ?_)
 ·have hlt : i < n := by have := of_decide_eq_true h4; omega
  have hbi := blkAt_ok hfs (lba + i)
  refine zw ?_
  refine zm ?_
  refine aIx (st.rowAcc 0 rfl (by decide) (by rw [encs_len (bsR_ok hfs _ _), bsR_len])) rfl rfl (by omega) fun b42 o42 g42 => ?_
  rw [show ((i : Int)).toNat = i from rfl, encs_get (bsR_ok hfs lba n) (by rw [bsR_len]; exact hlt), bsR_get hlt] at g42
  refine aLdAG rfl g42 ?_
  refine zp st fun b11 H5 st => ?_
  refine zm ?_
  refine aStAllA st 0 rfl rfl rfl (Bk_len hbi) (rfl) fun H6 st => ?_
  refine zw ?_
  refine zm ?_
  refine zl st 2 ?_
  refine zm ?_
  refine aConvV (n := (i : Int)) (n' := (i : Int)) rfl (by rw [w64]; omega) ?_
  refine aBinV (.int .u64 ((lba + i : Nat) : Int)) rfl rfl (addU64 (by omega) (by omega)) ?_
  refine zm ?_
  refine sE ?_
  show AWp _ _ _ _ _
  iterate 3 refine zm ?_
  refine zl st 5 ?_
  refine zm ?_
  refine zl st 2 ?_
  refine zm ?_
  refine aLdAll st 0 rfl rfl (Bk_len hbi) ?_
  refine ⟨?_, trivial⟩
  rcases hgood i hlt with h0 | ha | ⟨ha, hg, hr⟩
  ·exact absurd h0 (by decide)
  ·refine aC (check_e hbi.1 ha) fun v57 H7 ⟨hv, st1⟩ => ?_
   subst hv
   replace st := st.call st1 rfl
   clear st1
   refine ⟨trivial, ?_⟩
   refine zm ?_
   refine zw ?_
   refine zm ?_
   refine zb (.bool false) ?_
   refine zf ?_
   refine zw ?_
   refine aBinV (.int .i64 ((i + 1 : Nat) : Int)) rfl rfl (addI (by omega) (by omega)) ?_
   refine zm ?_
   refine sE ?_
   exact ⟨_, by omega, (i + 1), rfl, by omega, rfl, (st.sel [1, 2, 3, 4, 5] (by decide))⟩
  ·refine aC (check_g hbi.1 ha hg hr) fun v57 H8 ⟨hv, st1⟩ => ?_
   subst hv
   replace st := st.call st1 rfl
   clear st1
   refine ⟨trivial, ?_⟩
   refine zm ?_
   refine zw ?_
   refine zm ?_
   refine zb (.bool false) ?_
   refine zf ?_
   refine zw ?_
   refine aBinV (.int .i64 ((i + 1 : Nat) : Int)) rfl rfl (addI (by omega) (by omega)) ?_
   refine zm ?_
   refine sE ?_
   exact ⟨_, by omega, (i + 1), rfl, by omega, rfl, (st.sel [1, 2, 3, 4, 5] (by decide))⟩
 ·have hge : i = n := by have := of_decide_eq_false h4; omega
  subst hge
  refine zw ?_
  refine aMovA rfl ?_
  refine aBld rfl (by repeat constructor) ?_
  refine aMovA rfl ?_
  refine zx st 2 fun H9 st => ?_
  refine zm ?_
  refine sE ?_
  refine ⟨_, out3 (r_acc rfl) (zc st 2) zr ⟨notTup_acc, rfl, rfl⟩, ?_⟩
  exact ⟨ow, rfl, st.sel [3, 0] (by decide)⟩
end Go.Proofs.YtjmjkdelkaflmaaGreatDoor.Abs
