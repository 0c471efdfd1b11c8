/- Store: records. -/
import Derived.Test.YtjmjkdelkaflmaaGreatDoorXI
import Derived.Test.YtjmjkdelkaflmaaGreatDoorXJ
set_option linter.unusedVariables false
set_option linter.unusedSimpArgs false
set_option maxRecDepth 100000
namespace Go.Proofs.YtjmjkdelkaflmaaGreatDoor.Abs
open Go Go.RowKit
theorem enc_g {b : Bk} (h : b.ok) : b.enc[16]? = some (.int .u16 b.g) := by
  unfold Bk.enc blk
  rw [List.getElem?_append_right (by simp [h.1])]
  simp [h.1]
theorem enc_a {b : Bk} (h : b.ok) : b.enc[17]? = some (.int .u16 b.a) := by
  unfold Bk.enc blk
  rw [List.getElem?_append_right (by simp [h.1])]
  simp [h.1]
theorem enc_r {b : Bk} (h : b.ok) : b.enc[18]? = some (.int .u32 b.r) := by
  unfold Bk.enc blk
  rw [List.getElem?_append_right (by simp [h.1])]
  simp [h.1]
theorem enc_take' {b : Bk} (h : b.ok) : (b.enc.drop (0 + 0 + 0 * 1)).take (16 * 1) = b.d.map (Value.int .u8) := by
  rw [show (0 + 0 + 0 * 1 : Nat) = 0 from rfl, List.drop_zero]
  unfold Bk.enc blk
  rw [List.take_left' (by simp [h.1])]
/-- A block as the file has it. -/
def rec25 (b : Bk) : List Int := 1 :: (b.d ++ (beB 2 b.g ++ (beB 2 b.a ++ beB 4 b.r)))
theorem rec_len {b : Bk} (h : b.ok) : (rec25 b).length = 25 := by simp [rec25, h.1, beB_len]
theorem rec_bytes {b : Bk} (h : b.ok) : ByteL (rec25 b) := by
  intro x hx
  rcases List.mem_cons.1 hx with rfl | hx
  · omega
  rcases List.mem_append.1 hx with hx | hx
  · exact h.2.1 x hx
  rcases List.mem_append.1 hx with hx | hx
  · exact beB_bytes _ _ x hx
  rcases List.mem_append.1 hx with hx | hx
  · exact beB_bytes _ _ x hx
  · exact beB_bytes _ _ x hx
theorem rec_get {b : Bk} (h : b.ok) : rgetV (rec25 b) 17 2 = b.g ∧ rgetV (rec25 b) 19 2 = b.a ∧ rgetV (rec25 b) 21 4 = b.r := by
  have hl := rec_len h
  have f1 : rfieldE (rec25 b).length 17 2 = 0 := by rw [hl]; rfl
  have f2 : rfieldE (rec25 b).length 19 2 = 0 := by rw [hl]; rfl
  have f3 : rfieldE (rec25 b).length 21 4 = 0 := by rw [hl]; rfl
  have e1 : (rec25 b).drop 17 = beB 2 b.g ++ (beB 2 b.a ++ beB 4 b.r) := by
    show (b.d ++ (beB 2 b.g ++ (beB 2 b.a ++ beB 4 b.r))).drop 16 = _
    exact List.drop_left' h.1
  have e2 : (rec25 b).drop 19 = beB 2 b.a ++ beB 4 b.r := by
    rw [show (19 : Nat) = 17 + 2 from rfl, ← List.drop_drop, e1]
    exact List.drop_left' (beB_len _ _)
  have e3 : (rec25 b).drop 21 = beB 4 b.r := by
    rw [show (21 : Nat) = 19 + 2 from rfl, ← List.drop_drop, e2]
    exact List.drop_left' (beB_len _ _)
  obtain ⟨_, _, ⟨g1, g2⟩, ⟨a1, a2⟩, ⟨r1, r2⟩⟩ := h
  refine ⟨?_, ?_, ?_⟩
  · unfold rgetV
    rw [if_pos f1, show Int.toNat 17 = 17 from rfl, e1, show Int.toNat 2 = 2 from rfl, List.take_left' (beB_len _ _), beN_beB, Int.emod_eq_of_lt g1 (by omega)]
  · unfold rgetV
    rw [if_pos f2, show Int.toNat 19 = 19 from rfl, e2, show Int.toNat 2 = 2 from rfl, List.take_left' (beB_len _ _), beN_beB, Int.emod_eq_of_lt a1 (by omega)]
  · unfold rgetV
    rw [if_pos f3, show Int.toNat 21 = 21 from rfl, e3, show Int.toNat 4 = 4 from rfl, List.take_of_length_le (by rw [beB_len]; exact Nat.le_refl _), beN_beB, Int.emod_eq_of_lt r1 (by omega)]
/-- What was never written. -/
def emptyB : Bk := ⟨List.replicate 16 0, 65535, 65535, 4294967295⟩
theorem emptyB_len : emptyB.enc.length = 19 := rfl
theorem emptyB_ok : emptyB.ok := ⟨rfl, fun x hx => by rw [List.eq_of_mem_replicate hx]; omega, by decide, by decide, by decide⟩
theorem record_call {H : Hp} {b : Bk} (hb : b.ok) :
  ACalls Tryz.prog 167 [.agg b.enc.toArray] H (fun v H' => ∃ r, v = .slice (some ⟨r, 0, none⟩) 25 1 ∧ Stt [] H H' [⟨some r, true, ⟨true, 5, (rec25 b).map (Value.int .u8)⟩⟩]) := by
 refine acallsW Tryz.func167 f167_ok (Nat.le_of_ble_eq_true rfl) fun hw => ?_
 have st : Stt [] H H [] := Stt.start hw
 unfold f167c
 refine zw ?_
 refine aBoxA st rfl (Bk_len hb) fun b1 H1 st => ?_
 refine zm ?_
 refine zw ?_
 refine aLit st rfl (by repeat constructor) fun b4 H2 st => ?_
 iterate 2 refine zm ?_
 refine aAppP st 0 (ob := some b4) rfl rfl rfl (by decide) (by first | rfl | (simp [beB_len, *]; done) | (simp [beB_len, *]; omega)) (st.row (n := 16) (sz := 1) (c := 0) 1 rfl (by rw [Bk_len hb]; omega) (enc_take' hb)).src (by simp [hb.1]) (by decide) (by decide) (by decide) (.any _) fun b7 H3 st => ?_
 refine zm ?_
 refine zw ?_
 iterate 3 refine zm ?_
 refine aLd (v := .int .u16 b.g) st 1 rfl rfl (enc_g hb) (by constructor) ?_
 iterate 4 refine zm ?_
 refine aLd (v := .int .u16 b.g) st 1 rfl rfl (enc_g hb) (by constructor) ?_
 iterate 3 refine zm ?_
 refine aLd (v := .int .u16 b.a) st 1 rfl rfl (enc_a hb) (by constructor) ?_
 iterate 4 refine zm ?_
 refine aLd (v := .int .u16 b.a) st 1 rfl rfl (enc_a hb) (by constructor) ?_
 refine zm ?_
 refine aLit st rfl (by repeat constructor) fun b27 H4 st => ?_
 refine aAppP st 1 (ob := some b7) rfl rfl rfl (by decide) (by simp [hb.1]) (st.rowAll 0 rfl (by first | rfl | (simp [beB_len, *]; done) | (simp [beB_len, *]; omega))).src (rfl) (by decide) (by decide) (by decide) (.any _) fun b28 H5 st => ?_
 refine zm ?_
 refine zw ?_
 iterate 3 refine zm ?_
 refine aLd (v := .int .u32 b.r) st 2 rfl rfl (enc_r hb) (by constructor) ?_
 iterate 4 refine zm ?_
 refine aLd (v := .int .u32 b.r) st 2 rfl rfl (enc_r hb) (by constructor) ?_
 iterate 4 refine zm ?_
 refine aLd (v := .int .u32 b.r) st 2 rfl rfl (enc_r hb) (by constructor) ?_
 iterate 4 refine zm ?_
 refine aLd (v := .int .u32 b.r) st 2 rfl rfl (enc_r hb) (by constructor) ?_
 refine zm ?_
 refine aLit st rfl (by repeat constructor) fun b49 H6 st => ?_
 refine aAppP st 2 (ob := some b28) rfl rfl rfl (by decide) (by simp [hb.1]) (st.rowAll 0 rfl (by first | rfl | (simp [beB_len, *]; done) | (simp [beB_len, *]; omega))).src (rfl) (by decide) (by decide) (by decide) (.any _) fun b50 H7 st => ?_
 refine zm ?_
 refine sE ?_
 refine ⟨_, out1 zr, ?_⟩
 have st := st.recell 2 rfl (cs' := (rec25 b).map (Value.int .u8)) (by unfold rec25; rw [be2 hb.2.2.1, be2 hb.2.2.2.1, be4 hb.2.2.2.2]; simp)
 exact ⟨b50, rfl, st.sel [2] (by decide)⟩
theorem empty_call {H : Hp}  :
  ACalls Tryz.prog 183 [] H (fun v H' => v = .agg emptyB.enc.toArray ∧ Stt [] H H' []) := by
 refine acallsW Tryz.func183 f183_ok (Nat.le_of_ble_eq_true rfl) fun hw => ?_
 have st : Stt [] H H [] := Stt.start hw
 unfold f183c
 refine zw ?_
 refine zp st fun b0 H1 st => ?_
 refine zw ?_
 refine aBld rfl (by repeat constructor) ?_
 refine aBld rfl (by repeat constructor) ?_
 refine zx st 0 fun H2 st => ?_
 refine sE ?_
 refine ⟨_, out1 (zc st 0), ?_⟩
 exact ⟨rfl, st.drop⟩
theorem block_n {H : Hp} {r : Nat} {b : Bk} {z : Int} {zs : List Int}  :
  ACalls Tryz.prog 162 [.slice none 0 0] H (fun v H' => v = .agg emptyB.enc.toArray ∧ Stt [] H H' []) := by
 refine acallsW Tryz.func162 f162_ok (Nat.le_of_ble_eq_true rfl) fun hw => ?_
 have st : Stt [] H H [] := Stt.start hw
 unfold f162c
 refine zw ?_
 refine zp st fun b2 H1 st => ?_
 refine zw ?_
 iterate 2 refine zm ?_
 refine zb (.bool true) ?_
 refine zm ?_
 iterate 4 refine zk ?_
 refine zm ?_
 show AW _ (.cond _ _ _) _ _ _
 refine cT rfl ?_
 refine zw ?_
 refine aC (empty_call) fun v19 H2 ⟨hv, st1⟩ => ?_
 subst hv
 replace st := st.call st1 rfl
 clear st1
 refine aStAllA st 0 rfl rfl rfl (emptyB_len) (rfl) fun H3 st => ?_
 refine sE ?_
 refine ⟨_, out1 (r_cellA st 0 rfl rfl (Nat.le_of_eq (by rw [Nat.zero_add]; exact (emptyB_len).symm)) (by rw [List.drop_zero, List.take_of_length_le (Nat.le_of_eq (emptyB_len))]; exact NfL.any _)), ?_⟩
 exact ⟨rfl, st.drop⟩
theorem block_z {H : Hp} {r : Nat} {b : Bk} {z : Int} {zs : List Int} (st0 : Stt [] H H [⟨some r, false, ⟨true, 5, (z :: zs).map (Value.int .u8)⟩⟩]) (hz : z ≠ 1) (hzs : zs.length = 24) :
  ACalls Tryz.prog 162 [.slice (some ⟨r, 0, none⟩) 25 1] H (fun v H' => v = .agg emptyB.enc.toArray ∧ Stt [] H H' []) := by
 refine acallsW Tryz.func162 f162_ok (Nat.le_of_ble_eq_true rfl) fun hw => ?_
 have st : Stt [] H H [] := Stt.start hw
 replace st := st0
 unfold f162c
 refine zw ?_
 refine zp st fun b2 H1 st => ?_
 refine zw ?_
 refine zm ?_
 refine aN (v := .int .i64 25) rfl rfl (by constructor) ?_
 refine zb (.bool false) ?_
 refine zm ?_
 refine zg ?_
 refine zm ?_
 refine zg ?_
 refine zm ?_
 refine zg ?_
 refine aLd (v := .int .u8 z) st 1 rfl rfl rfl (by constructor) ?_
 refine zg ?_
 refine aBinV (.bool true) rfl rfl (neT hz) ?_
 refine zm ?_
 show AW _ (.cond _ _ _) _ _ _
 refine cT rfl ?_
 refine zw ?_
 refine aC (empty_call) fun v19 H2 ⟨hv, st1⟩ => ?_
 subst hv
 replace st := st.call st1 rfl
 clear st1
 refine aStAllA st 0 rfl rfl rfl (emptyB_len) (rfl) fun H3 st => ?_
 refine sE ?_
 refine ⟨_, out1 (r_cellA st 0 rfl rfl (Nat.le_of_eq (by rw [Nat.zero_add]; exact (emptyB_len).symm)) (by rw [List.drop_zero, List.take_of_length_le (Nat.le_of_eq (emptyB_len))]; exact NfL.any _)), ?_⟩
 exact ⟨rfl, st.drop⟩
theorem block_r {H : Hp} {r : Nat} {b : Bk} {z : Int} {zs : List Int} (st0 : Stt [] H H [⟨some r, false, ⟨true, 5, (rec25 b).map (Value.int .u8)⟩⟩]) (hb : b.ok) :
  ACalls Tryz.prog 162 [.slice (some ⟨r, 0, none⟩) 25 1] H (fun v H' => v = .agg b.enc.toArray ∧ Stt [] H H' []) := by
 refine acallsW Tryz.func162 f162_ok (Nat.le_of_ble_eq_true rfl) fun hw => ?_
 have st : Stt [] H H [] := Stt.start hw
 replace st := st0
 unfold f162c
 refine zw ?_
 refine zp st fun b2 H1 st => ?_
 refine zw ?_
 refine zm ?_
 refine aN (v := .int .i64 25) rfl rfl (by constructor) ?_
 refine zb (.bool false) ?_
 refine zm ?_
 refine zg ?_
 refine zm ?_
 refine zg ?_
 refine zm ?_
 refine zg ?_
 refine aLd (v := .int .u8 1) st 1 rfl rfl rfl (by constructor) ?_
 refine zg ?_
 refine zb (.bool false) ?_
 refine zm ?_
 refine zf ?_
 refine zw ?_
 refine zp st fun b3 H2 st => ?_
 refine sE ?_
 show AWp _ _ _ _ _
 iterate 4 refine zm ?_
 refine ⟨?_, trivial⟩
 refine aCopy st 0 rfl rfl (st.row (n := 24) (sz := 1) (c := 1) (cs := ((rec25 b).map (Value.int .u8)).drop 1) 2 rfl (by simp [rec_len hb]) (by rw [List.take_of_length_le (by simp [rec_len hb])]; rfl)).src (by simp [rec_len hb]) (by decide) (by decide) (by decide) (.any _) fun H3 st => ?_
 have st := st.recell 0 rfl (cs' := blk b.d 0 0 0) (by unfold blk rec25; simp only [List.map_cons, List.drop_succ_cons, List.drop_zero, List.map_append]; rw [show min 24 (16 - 0) * 1 = 16 from rfl, List.take_left' (by simp [hb.1])]; rfl)
 refine ⟨trivial, ?_⟩
 refine zw ?_
 refine zm ?_
 refine aC (get_call (xs := rec25 b) (at_ := 17) (n := 2) (by rw [rec_len hb]; exact st.rowAll (sz := 1) (n := 25) 2 rfl (by simp [rec_len hb])) (rec_bytes hb) (by rw [rec_len hb]; omega) (by omega)) fun v27 H4 ⟨hv, st1⟩ => ?_
 rw [(rec_get hb).1] at hv; subst hv
 replace st := st.call st1 rfl
 clear st1
 iterate 5 refine zm ?_
 refine zw ?_
 refine zm ?_
 refine aC (get_call (xs := rec25 b) (at_ := 19) (n := 2) (by rw [rec_len hb]; exact st.rowAll (sz := 1) (n := 25) 2 rfl (by simp [rec_len hb])) (rec_bytes hb) (by rw [rec_len hb]; omega) (by omega)) fun v32 H5 ⟨hv, st1⟩ => ?_
 rw [(rec_get hb).2.1] at hv; subst hv
 replace st := st.call st1 rfl
 clear st1
 iterate 5 refine zm ?_
 refine zw ?_
 refine zm ?_
 refine aC (get_call (xs := rec25 b) (at_ := 21) (n := 4) (by rw [rec_len hb]; exact st.rowAll (sz := 1) (n := 25) 2 rfl (by simp [rec_len hb])) (rec_bytes hb) (by rw [rec_len hb]; omega) (by omega)) fun v37 H6 ⟨hv, st1⟩ => ?_
 rw [(rec_get hb).2.2] at hv; subst hv
 replace st := st.call st1 rfl
 clear st1
 iterate 5 refine zm ?_
 refine zw ?_
 refine zm ?_
 refine aConvV (n := b.g) (n' := b.g) rfl (by rw [w16]; exact Int.emod_eq_of_lt hb.2.2.1.1 hb.2.2.1.2) ?_
 refine zm ?_
 refine aConvV (n := b.a) (n' := b.a) rfl (by rw [w16]; exact Int.emod_eq_of_lt hb.2.2.2.1.1 hb.2.2.2.1.2) ?_
 refine zm ?_
 refine aConvV (n := b.r) (n' := b.r) rfl (by rw [w32]; exact Int.emod_eq_of_lt hb.2.2.2.2.1 hb.2.2.2.2.2) ?_
 refine aBld rfl (by repeat constructor) ?_
 refine zm ?_
 refine aSt (cs := b.enc) st 0 rfl rfl rfl rfl rfl (by simp [blk, hb.1]) (by show NfV (List.take (0 + 16) (blk b.d 0 0 0) ++ [.int .u16 b.g, .int .u16 b.a, .int .u32 b.r] ++ List.drop (0 + 16 + 3) (blk b.d 0 0 0)) _; unfold blk; rw [List.take_left' (by simp [hb.1]), List.drop_of_length_le (by simp [hb.1]), List.append_nil]; exact NfV.any _) fun H7 st => ?_
 refine zw ?_
 refine aLdAll st 0 rfl rfl (Bk_len hb) ?_
 refine aStAllA st 1 rfl rfl rfl (Bk_len hb) (rfl) fun H8 st => ?_
 refine sE ?_
 refine ⟨_, out1 (r_cellA st 1 rfl rfl (Nat.le_of_eq (by rw [Nat.zero_add]; exact (Bk_len hb).symm)) (by rw [List.drop_zero, List.take_of_length_le (Nat.le_of_eq (Bk_len hb))]; exact NfL.any _)), ?_⟩
 exact ⟨rfl, st.drop⟩
end Go.Proofs.YtjmjkdelkaflmaaGreatDoor.Abs
