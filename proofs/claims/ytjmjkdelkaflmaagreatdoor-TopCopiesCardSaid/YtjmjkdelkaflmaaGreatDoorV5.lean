/- TopCopies. -/
import Derived.Test.YtjmjkdelkaflmaaGreatDoorXI
import Derived.Test.YtjmjkdelkaflmaaGreatDoorXM
import Derived.Test.YtjmjkdelkaflmaaGreatDoorV2
import Derived.Test.YtjmjkdelkaflmaaGreatDoorXU
import Derived.Test.YtjmjkdelkaflmaaGreatDoorXV
import Derived.Test.YtjmjkdelkaflmaaGreatDoorX3
import Derived.Test.YtjmjkdelkaflmaaGreatDoorY50
set_option linter.unusedVariables false
set_option linter.unusedSimpArgs false
set_option maxRecDepth 100000
namespace Go.Proofs.YtjmjkdelkaflmaaGreatDoor.Abs
open Go Go.RowKit
abbrev FsT := List (Option Bk)
theorem aIxAV {P : Program} {R : Tm → Hp → Prop} {t : Tm} {H : Hp} {d : Option Nat} {x y : Opd} {n sz b o q : Nat} {kd : IntKind} {j : Int} (hx : ev t x = .pointer (some ⟨b, o, none⟩)) (hy : ev t y = .int kd j) (hj : 0 ≤ j ∧ j < n) (hq : o + j.toNat * sz = q) (kk : R (upd t d (.pointer (some ⟨b, q, none⟩))) H) : aStep P ⟨d, .iadrA n sz x y, none⟩ R t H := by
  subst hq
  exact aIxA hx hy hj kk
theorem map_at' {k : IntKind} {l : List Int} {j : Nat} (h : j < l.length) : (l.map (Value.int k))[j]? = some (.int k (l.getD j 0)) := by
  simp [List.getElem?_map, List.getElem?_eq_getElem h, List.getD]
set_option maxHeartbeats 40000000 in
theorem copies_call {H : Hp} {xs : List Mv} {x : Value} (hx : Sl H 6 xs.length (xs.flatMap mvE) x) (hok : ∀ a ∈ xs, a.ok) (hl : xs.length ≤ 140737488355328) :
  ACalls Tryz.prog 4 [x] H (fun v _ => v = .bool true) := by
 refine acallsW Tryz.func4 f4_ok (Nat.le_of_ble_eq_true rfl) fun hw => ?_
 have st : Stt [] H H [] := Stt.start hw
 unfold f4c
 refine zw ?_
 refine zm ?_
 refine zw ?_
 refine aC (awake_call) fun v21 H1 ⟨hv, st1⟩ => ?_
 subst hv
 replace st := st.call st1 rfl
 clear st1
 refine zm ?_
 refine zf ?_
 refine zw ?_
 refine aC wnew_call fun v23 H2 ⟨w, sb, db, hv, st1⟩ => ?_
 subst hv
 replace st := st.call st1 rfl
 clear st1
 refine aC (pair_call (zN st [0] [1]) rfl rfl rfl rfl (by decide) (by decide)) fun v24 H3 ⟨ux, dvx, sx, kx, pgx, tbx, qx, o0x, o1x, o2x, o3x, o4x, o5x, o6x, o7x, uy, dvy, sy, ky, pgy, tby, qy, o0y, o1y, o2y, o3y, o4y, o5y, o6y, o7y, pex, pey, ctx, cty, hv, st1⟩ => ?_
 subst hv
 replace st := st.callT (ob := some w) 0 rfl st1 rfl
 clear st1
 have st := st.nf (by repeat constructor)
 refine zp st fun b3 H4 st => ?_
 refine zx st 0 fun H5 st => ?_
 refine zw ?_
 refine zp st fun b4 H6 st => ?_
 have st := st.recell 0 rfl (cs' := ((List.replicate 16 0 ++ List.replicate 16 0 : List Int)).map (Value.int .u8)) rfl
 refine zw ?_
 refine zm ?_
 refine sE ?_
 show AW _ (.loop _) _ _ _
 have st := st.nil 121
 have st := st.nil 5
 have st := st.nil 5
 refine AW_loopN (fun m t1 H1 => ∃ (i nw : Nat) (ops ct0 ct1 : Int) (wb ob0 ob1 : Option Nat) (c : MpL) (cs : List Value) (fs0 fs1 : FsT) (ws0 ws1 : List Int), m = xs.length - i ∧ (i ≤ xs.length ∧ i ≤ 40) ∧ (cs.length = nw * 5) ∧ (nw ≤ 16 * i) ∧ (0 ≤ ops ∧ ops ≤ 4 + 32 * (i : Int)) ∧ (FileAt c (⟨#[97]⟩ ++ ⟨#[46, 100]⟩) ob0 fs0) ∧ (FileAt c (⟨#[98]⟩ ++ ⟨#[46, 100]⟩) ob1 fs1) ∧ (Holds 0 fs0 ws0) ∧ (Holds 1 fs1 ws1) ∧ t1 5 = .int .i64 (i : Int) ∧ Stt [] H H1 [⟨some w, true, zW sb db (accV wb nw 5) ops (-1)⟩, ⟨some sb, true, ⟨true, .mp c, []⟩⟩, ⟨wb, true, ⟨true, 121, cs⟩⟩, ⟨ob0, true, ⟨true, 5, (fileL fs0).map (Value.int .u8)⟩⟩, ⟨ob1, true, ⟨true, 5, (fileL fs1).map (Value.int .u8)⟩⟩, ⟨some ux, true, zU ⟨#[83, 48]⟩ 0 dvx kx pgx tbx qx (.slice (some ⟨pex, 0, none⟩) 1 1) 1 0 ct0⟩, ⟨some dvx, true, zD sx 0⟩, ⟨some sx, true, zS w (⟨#[97]⟩ ++ ⟨#[46, 100]⟩) 16⟩, ⟨some pgx, true, zG⟩, ⟨some tbx, true, zT⟩, ⟨some qx, true, ⟨true, 154, [accV o0x 0 1, accV o1x 0 1, accV o2x 0 1, accV o3x 0 1, accV o4x 0 1, accV o5x 0 1, accV o6x 0 1, accV o7x 0 1]⟩⟩, ⟨o0x, true, ⟨true, 23, []⟩⟩, ⟨o1x, true, ⟨true, 23, []⟩⟩, ⟨some pex, true, ⟨true, 27, [zP uy]⟩⟩, ⟨some uy, true, zU ⟨#[83, 49]⟩ 1 dvy ky pgy tby qy (.slice (some ⟨pey, 0, none⟩) 1 1) 1 0 ct1⟩, ⟨some dvy, true, zD sy 1⟩, ⟨some sy, true, zS w (⟨#[98]⟩ ++ ⟨#[46, 100]⟩) 16⟩, ⟨some pgy, true, zG⟩, ⟨some tby, true, zT⟩, ⟨some qy, true, ⟨true, 154, [accV o0y 0 1, accV o1y 0 1, accV o2y 0 1, accV o3y 0 1, accV o4y 0 1, accV o5y 0 1, accV o6y 0 1, accV o7y 0 1]⟩⟩, ⟨o0y, true, ⟨true, 23, []⟩⟩, ⟨o1y, true, ⟨true, 23, []⟩⟩, ⟨some pey, true, ⟨true, 27, [zP ux]⟩⟩, ⟨some b3, true, ⟨true, 51, [zP ux, zP uy]⟩⟩, ⟨some b4, true, ⟨true, 54, (ws0 ++ ws1).map (Value.int .u8)⟩⟩]) _ ⟨0, 0, (0 + 2 + 2), ctx, cty, none, none, none, [], [], [], [], List.replicate 16 0, List.replicate 16 0, rfl, ⟨Nat.zero_le _, Nat.zero_le _⟩, rfl, Nat.zero_le _, ⟨by decide, by decide⟩, .inl ⟨rfl, rfl, rfl⟩, .inl ⟨rfl, rfl, rfl⟩, Holds.start 0, Holds.start 1, rfl, st.sel [5, 38, 2, 1, 0, 6, 7, 8, 10, 11, 12, 13, 14, 36, 21, 22, 23, 25, 26, 27, 28, 29, 37, 4, 3] (by decide)⟩ [2, 5, 6, 7, 8, 9, 10, 11, 12, 13, 14, 15, 16, 25, 26, 27, 28, 29, 30, 31, 32, 33, 34, 35, 36, 37, 38, 39, 40, 41, 42, 43, 44, 45, 46, 47, 48, 49, 50, 51, 52, 53, 54, 55, 56, 57, 58, 59, 60, 61, 62, 63, 64, 65, 66, 67, 68, 69, 70, 71, 72, 73, 74, 75, 76, 77, 78, 79, 80, 81, 82, 83, 84, 85, 86, 87, 88, 89, 90, 91, 92, 93, 94, 95, 96, 97, 98, 99, 100, 101, 102, 103, 104, 105, 106, 107, 108, 109, 110, 111, 112, 113, 114, 115, 116, 117, 118, 119, 120, 121, 122, 123, 124, 125, 126, 127, 128, 129, 130, 131, 132, 133, 134, 135, 136, 137, 138, 139, 140, 141] (by decide) ?_
 rintro m t1 H1 hk hI
 obtain ⟨i, nw, ops, ct0, ct1, wb, ob0, ob1, c, cs, fs0, fs1, ws0, ws1, rfl, hi, hcs, hnw, hop, hF0, hF1, hH0, hH1, ht5, st⟩ := hI
 obtain ⟨u, rfl⟩ : ∃ u, t1 = (upd (mix [2, 5, 6, 7, 8, 9, 10, 11, 12, 13, 14, 15, 16, 25, 26, 27, 28, 29, 30, 31, 32, 33, 34, 35, 36, 37, 38, 39, 40, 41, 42, 43, 44, 45, 46, 47, 48, 49, 50, 51, 52, 53, 54, 55, 56, 57, 58, 59, 60, 61, 62, 63, 64, 65, 66, 67, 68, 69, 70, 71, 72, 73, 74, 75, 76, 77, 78, 79, 80, 81, 82, 83, 84, 85, 86, 87, 88, 89, 90, 91, 92, 93, 94, 95, 96, 97, 98, 99, 100, 101, 102, 103, 104, 105, 106, 107, 108, 109, 110, 111, 112, 113, 114, 115, 116, 117, 118, 119, 120, 121, 122, 123, 124, 125, 126, 127, 128, 129, 130, 131, 132, 133, 134, 135, 136, 137, 138, 139, 140, 141] _ u) (some 5) _) := ⟨t1, by rw [← hk, upd_self ht5]⟩
 clear hk ht5
 refine zw ?_
 refine zm ?_
 refine aMovV x rfl ?_
 refine aLen (st.slc hx) rfl ?_
 iterate 2 refine zm ?_
 refine gCase 29 rfl (fun h7 => ?_) (fun h7 => ?_)
 ·have h7q := h7; try simp only [zq] at h7q
  refine zg ?_
  refine zm ?_
  refine zg ?_
  iterate 2 refine zm ?_
  show AW _ (.cond _ _ _) _ _ _
  refine cC' rfl (fun h8 => ?_) (fun h8 => ?_)
  ·have h8q := h8; try simp only [zq] at h8q
   have hlt : i < xs.length := by omega
   refine zw ?_
   refine aMovV x rfl ?_
   refine zm ?_
   have hlt40 : i < 40 := by omega
   refine aIxEK mvE_len mv0 (l := xs) (st.slc hx) rfl rfl (by omega) fun b37 o37 g37 => ?_
   have hmk := hok _ (getD_mem' (d := mv0) hlt)
   rw [show ((i : Int)).toNat = i from rfl] at g37
   generalize xs.getD i mv0 = mv at g37 hmk
   obtain ⟨cp, ot, src, dst, nn, fill⟩ := mv
   obtain ⟨hk1, hk2, hk3, hk4, hk5⟩ := hmk
   dsimp only at hk1 hk2 hk3 hk4 hk5
   refine aLdAG (xs := [.int .u8 (cp : Int), .bool ot, .int .u8 (src : Int), .int .u8 (dst : Int), .int .u8 (nn : Int), .int .u8 (fill : Int)]) rfl (g37 _ (st.slc hx)) ?_
   refine zp st fun b6 H9 st => ?_
   refine zx st 0 fun H10 st => ?_
   refine zw ?_
   refine zm ?_
   refine zw ?_
   refine zm ?_
   refine zl st 0 ?_
   show AW _ (.cond _ _ _) _ _ _
   refine cC' rfl (fun h11 => ?_) (fun h11 => ?_)
   ·have h11q := h11; try simp only [zq] at h11q
    refine zw ?_
    refine zm ?_
    refine zw ?_
    refine zm ?_
    refine zl st 0 ?_
    refine aConvV (n := (src : Int)) (n' := (src : Int)) rfl (wi _ (by omega)) ?_
    refine aBinV (.int .i64 ((src % 16 : Nat) : Int)) rfl rfl (remN (n := src) (m := 16) (by omega)) ?_
    refine zm ?_
    refine zw ?_
    refine zm ?_
    refine zl st 0 ?_
    refine aConvV (n := (dst : Int)) (n' := (dst : Int)) rfl (wi _ (by omega)) ?_
    refine aBinV (.int .i64 ((dst % 16 : Nat) : Int)) rfl rfl (remN (n := dst) (m := 16) (by omega)) ?_
    refine zm ?_
    refine zw ?_
    refine zm ?_
    refine zl st 0 ?_
    refine aBinV (.int .u8 ((cp % 3 : Nat) : Int)) rfl rfl (remN (n := cp) (m := 3) (by omega)) ?_
    refine zm ?_
    show AW _ (.cond _ _ _) _ _ _
    refine cC' rfl (fun h12 => ?_) (fun h12 => ?_)
    ·have h12q := h12; try simp only [zq] at h12q
     have hcp : cp % 3 = 0 := by have := h12; simp at this; omega
     show AWp _ _ _ _ _
     refine zm ?_
     refine aN (v := .pointer (some ⟨b3, 1, none⟩)) rfl rfl (by constructor) ?_
     refine zl st 24 ?_
     iterate 2 refine zm ?_
     refine zl st 0 ?_
     refine ⟨?_, trivial⟩
     refine aC (onb_call (l := dst % 16) (n := 1) (by omega) (by decide)) fun v57 H13 ⟨cb, hv, st1⟩ => ?_
     subst hv
     replace st := st.call st1 rfl
     clear st1
     refine ⟨⟨zh st 1, zh st 25, trivial⟩, ?_⟩
     refine ⟨?_, trivial⟩
     refine aC (six_call (fill := fill)) fun v60 H14 ⟨xb, hv, st1⟩ => ?_
     subst hv
     replace st := st.call st1 rfl
     clear st1
     refine ⟨⟨zh st 26, trivial⟩, ?_⟩
     refine ⟨?_, trivial⟩
     refine aC (do_w_all.2 (n := 1) (lba := dst % 16) (nb := 16) (xb := some xb) (xs := List.replicate 16 (fill : Int)) (zN st [3, 4, 5, 17] [7, 19, 18, 22, 24, 21, 20, 1, 0]) (fun z hz => by rw [List.eq_of_mem_replicate hz]; omega) rfl (by decide) (by decide) hcs (by omega) (by decide) hF1 hH1.1 (by decide) (by omega) hH1.2.1 ⟨by omega, by omega⟩ (fun z hz => by omega) rfl rfl) fun v61 H15 ⟨wb1, ob9, c1, cs1, ct9, hv, hcs1, hF9, hO9, st1⟩ => ?_
     subst hv
     replace st := st.call4 (o1 := some w) (o2 := some sb) (o3 := wb) (o4 := some uy) 3 3 3 14 rfl rfl rfl rfl st1 rfl
     clear st1
     refine ⟨⟨zh st 7, trivial⟩, ?_⟩
     refine ⟨?_, trivial⟩
     refine aC (tgood0) fun v62 H16 ⟨hv, st1⟩ => ?_
     subst hv
     replace st := st.call st1 rfl
     clear st1
     refine ⟨⟨zh st 7, zh st 27, trivial⟩, ?_⟩
     refine zm ?_
     refine zf ?_
     show AWp _ _ _ _ _
     iterate 3 refine zm ?_
     refine zl st 7 ?_
     refine aN (v := .pointer (some ⟨b4, 16, none⟩)) rfl rfl (by constructor) ?_
     refine aIxAV (q := 16 + dst % 16) rfl rfl (by omega) (by omega) ?_
     refine ⟨?_, trivial⟩
     refine aStAt (cs := (ws0 ++ (ws1.set (dst % 16) (fill : Int))).map (Value.int .u8)) st 28 rfl rfl rfl rfl rfl (by simp [hH0.2.2.1, hH1.2.2.1]; omega) (want_set1 hH0.2.2.1) fun H17 st => ?_
     refine ⟨trivial, ?_⟩
     refine zw ?_
     refine zm ?_
     refine aBinV (.int .i64 ((i + 1 : Nat) : Int)) rfl rfl (addI (by omega) (by omega)) ?_
     refine zm ?_
     refine sE ?_
     exact ⟨_, (by show xs.length - (i + 1) < xs.length - i; omega), (i + 1), (nw + 1), _, _, _, wb1, ob0, ob9, c1, cs1, _, _, _, _, rfl, ⟨by omega, by omega⟩, hcs1, by omega, ⟨by omega, by omega⟩, (hF0.other hO9 (by decide)), hF9, hH0, (hH1.write (by omega) (by omega)), rfl, st.sel [0, 1, 2, 8, 3, 10, 11, 12, 13, 14, 15, 16, 17, 18, 4, 19, 20, 21, 22, 23, 24, 25, 26, 27, 28] (by decide)⟩
    ·have h12q := h12; try simp only [zq] at h12q
     have hcp : cp % 3 ≠ 0 := by have := h12; simp at this; omega
     refine zw ?_
     refine zm ?_
     refine zl st 0 ?_
     refine aConvV (n := (nn : Int)) (n' := (nn : Int)) rfl (wi _ (by omega)) ?_
     iterate 2 refine zm ?_
     refine aMaxV (r := (((max (src % 16) (dst % 16)) : Nat) : Int)) rfl rfl (by split <;> omega) ?_
     refine aBinV (.int .i64 ((17 - (max (src % 16) (dst % 16)) : Nat) : Int)) rfl rfl (subI (by omega) (by omega)) ?_
     refine aBinV (.int .i64 (((nn % (17 - max (src % 16) (dst % 16))) : Nat) : Int)) rfl rfl (remN (n := nn) (m := 17 - (max (src % 16) (dst % 16))) (by omega)) ?_
     refine zm ?_
     refine zw ?_
     refine zm ?_
     refine zb (.int .i64 0) ?_
     refine zm ?_
     refine zw ?_
     refine zm ?_
     refine zl st 0 ?_
     refine aBinV (.int .u8 ((cp % 3 : Nat) : Int)) rfl rfl (remN (n := cp) (m := 3) (by omega)) ?_
     refine zm ?_
     show AW _ (.cond _ _ _) _ _ _
     refine cC' rfl (fun h18 => ?_) (fun h18 => ?_)
     ·have h18q := h18; try simp only [zq] at h18q
      have hn9 : (nn % (17 - max (src % 16) (dst % 16))) ≤ 16 := by have := Nat.mod_lt nn (show 17 - (max (src % 16) (dst % 16)) > 0 by omega); omega
      have hs9 : src % 16 + (nn % (17 - max (src % 16) (dst % 16))) ≤ 16 := by have := Nat.mod_lt nn (show 17 - (max (src % 16) (dst % 16)) > 0 by omega); omega
      have hd9 : dst % 16 + (nn % (17 - max (src % 16) (dst % 16))) ≤ 16 := by have := Nat.mod_lt nn (show 17 - (max (src % 16) (dst % 16)) > 0 by omega); omega
      refine zw ?_
      iterate 2 refine zm ?_
      refine zw ?_
      refine aLit st rfl (by repeat constructor) fun b86 H19 st => ?_
      iterate 4 refine zm ?_
      refine aConvV (n := ((src % 16 : Nat) : Int)) (n' := ((src % 16 : Nat) : Int)) rfl (by rw [w64]; omega) ?_
      refine zm ?_
      refine aConvV (n := ((dst % 16 : Nat) : Int)) (n' := ((dst % 16 : Nat) : Int)) rfl (by rw [w64]; omega) ?_
      refine aBld rfl (by repeat constructor) ?_
      refine aLit st rfl (by repeat constructor) fun b95 H20 st => ?_
      refine aBld rfl (by repeat constructor) ?_
      refine aC (xbytes_call (f := 1) (t := 1) (n := (nn % (17 - max (src % 16) (dst % 16)))) (sr := src % 16) (ds := dst % 16) (zM st [] [1, 0]) (by decide) (by decide) (by omega) (by omega) (by omega)) fun v97 H21 ⟨pb, hv, st1⟩ => ?_
      subst hv
      replace st := st.call st1 rfl
      clear st1
      iterate 5 refine zm ?_
      refine zw ?_
      refine aNewS st rfl rfl (by repeat constructor) fun b100 H22 st => ?_
      refine zm ?_
      refine zw ?_
      iterate 2 refine zm ?_
      refine zx st 0 fun H23 st => ?_
      refine zw ?_
      iterate 2 refine zm ?_
      refine aN (v := .int .i64 108) rfl rfl (by constructor) ?_
      refine aConvV (n := 108) (n' := 108) rfl (by decide) ?_
      refine zm ?_
      refine zx st 0 fun H24 st => ?_
      refine zw ?_
      refine zm ?_
      refine zb (.bool false) ?_
      refine zm ?_
      refine zg ?_
      refine zm ?_
      refine zg ?_
      refine zl st 4 ?_
      refine zg ?_
      refine aConvV (n := (fill : Int)) (n' := (fill : Int)) rfl (wi _ (by omega)) ?_
      refine zg ?_
      rcases Nat.mod_two_eq_zero_or_one fill with hm2 | hm2
      all_goals
       first | refine aBinV (.int .i64 0) rfl rfl (by have h9 := remN (tk := 5) (k := .i64) (n := fill) (m := 2) (by decide); rw [hm2] at h9; exact h9) ?_ | refine aBinV (.int .i64 1) rfl rfl (by have h9 := remN (tk := 5) (k := .i64) (n := fill) (m := 2) (by decide); rw [hm2] at h9; exact h9) ?_
       refine zg ?_
       first | refine aN (v := zP b3) rfl rfl (by constructor) ?_ | refine aN (v := .pointer (some ⟨b3, 1, none⟩)) rfl rfl (by constructor) ?_
       refine zg ?_
       refine zl st 28 ?_
       refine zg ?_
       refine zm ?_
       refine zg ?_
       refine zm ?_
       refine zg ?_
       first | refine aC (do_copy_all.2.2.2.1 (n := (nn % (17 - max (src % 16) (dst % 16)))) (sr := src % 16) (ds := dst % 16) (zN st [5, 6, 7, 9, 10] [8, 12, 21, 11, 20, 19, 18, 14, 23, 13, 22, 1, 15, 17, 0]) (by decide) (by decide) (by decide) (by decide) hcs (by omega) hF0 hH0.1 hH0.2.1 hF1 hH1.1 hH1.2.1 hn9 hs9 hd9 (by omega) (by omega) ⟨by omega, by omega⟩ (by decide) (hH1.good hs9) rfl rfl) fun v119 H25 ⟨wb1, ot9, c1, cs1, nw1, ops1, ct9, hv, hcs1, hnw1, hops1, hF9, hO9, st1⟩ => ?_ | refine aC (do_copy_all.2.2.2.2.2.2.2 (n := (nn % (17 - max (src % 16) (dst % 16)))) (sr := src % 16) (ds := dst % 16) (zN st [5, 6, 7, 9, 19] [8, 12, 21, 11, 20, 10, 27, 14, 23, 13, 22, 1, 24, 26, 0]) (by decide) (by decide) (by decide) (by decide) hcs (by omega) hF0 hH0.1 hH0.2.1 hF1 hH1.1 hH1.2.1 hn9 hs9 hd9 (by omega) (by omega) ⟨by omega, by omega⟩ (by decide) (hH1.good hs9) rfl rfl) fun v119 H31 ⟨wb1, ot9, c1, cs1, nw1, ops1, ct9, hv, hcs1, hnw1, hops1, hF9, hO9, st1⟩ => ?_
       subst hv
       first | replace st := st.call5 (o1 := some w) (o2 := some sb) (o3 := wb) (o4 := ob1) (o5 := some ux) 5 5 5 6 6 rfl rfl rfl rfl rfl st1 rfl | replace st := st.call5 (o1 := some w) (o2 := some sb) (o3 := wb) (o4 := ob1) (o5 := some uy) 5 5 5 6 15 rfl rfl rfl rfl rfl st1 rfl
       clear st1
       have st := st.nf (by repeat constructor)
       refine zg ?_
       refine aC (tgood0) fun v120 H26 ⟨hv, st1⟩ => ?_
       subst hv
       replace st := st.call st1 rfl
       clear st1
       refine zg ?_
       iterate 2 refine zm ?_
       refine zf ?_
       refine zw ?_
       refine zm ?_
       refine aN (v := .pointer (some ⟨b4, 16, none⟩)) rfl rfl (by constructor) ?_
       refine aLdA (xs := ws1.map (Value.int .u8)) st 29 rfl rfl (by simp [hH0.2.2.1, hH1.2.2.1]) (by rw [want_all1 hH0.2.2.1 hH1.2.2.1]; exact .any _) ?_
       refine zp st fun b15 H27 st => ?_
       refine aStAllA st 0 rfl rfl rfl (by simp [hH1.2.2.1]) (rfl) fun H28 st => ?_
       refine zw ?_
       refine zm ?_
       refine sE ?_
       show AW _ (.loop _) _ _ _
       first | refine AW_loopN (fun m t1 H1 => ∃ (j : Nat), m = (nn % (17 - max (src % 16) (dst % 16))) - j ∧ (j ≤ (nn % (17 - max (src % 16) (dst % 16)))) ∧ t1 16 = .int .i64 (j : Int) ∧ Stt [] H H1 [⟨some w, true, zW sb db (accV wb1 nw1 5) ops1 (-1)⟩, ⟨some sb, true, ⟨true, .mp c1, []⟩⟩, ⟨wb1, true, ⟨true, 121, cs1⟩⟩, ⟨ob0, true, ⟨true, 5, (fileL fs0).map (Value.int .u8)⟩⟩, ⟨ot9, true, ⟨true, 5, (fileL (setN fs1 (dst % 16) (mkN 1 (dst % 16) (unL false (pkL false (bsR fs1 (src % 16) (nn % (17 - max (src % 16) (dst % 16)))))) (nn % (17 - max (src % 16) (dst % 16)))) (nn % (17 - max (src % 16) (dst % 16))))).map (Value.int .u8)⟩⟩, ⟨some ux, true, zU ⟨#[83, 48]⟩ 0 dvx kx pgx tbx qx (.slice (some ⟨pex, 0, none⟩) 1 1) 1 0 ct9⟩, ⟨some dvx, true, zD sx 0⟩, ⟨some sx, true, zS w (⟨#[97]⟩ ++ ⟨#[46, 100]⟩) 16⟩, ⟨some pgx, true, zG⟩, ⟨some tbx, true, zT⟩, ⟨some qx, true, ⟨true, 154, [accV o0x 0 1, accV o1x 0 1, accV o2x 0 1, accV o3x 0 1, accV o4x 0 1, accV o5x 0 1, accV o6x 0 1, accV o7x 0 1]⟩⟩, ⟨o0x, true, ⟨true, 23, []⟩⟩, ⟨o1x, true, ⟨true, 23, []⟩⟩, ⟨some pex, true, ⟨true, 27, [zP uy]⟩⟩, ⟨some uy, true, zU ⟨#[83, 49]⟩ 1 dvy ky pgy tby qy (.slice (some ⟨pey, 0, none⟩) 1 1) 1 0 ct1⟩, ⟨some dvy, true, zD sy 1⟩, ⟨some sy, true, zS w (⟨#[98]⟩ ++ ⟨#[46, 100]⟩) 16⟩, ⟨some pgy, true, zG⟩, ⟨some tby, true, zT⟩, ⟨some qy, true, ⟨true, 154, [accV o0y 0 1, accV o1y 0 1, accV o2y 0 1, accV o3y 0 1, accV o4y 0 1, accV o5y 0 1, accV o6y 0 1, accV o7y 0 1]⟩⟩, ⟨o0y, true, ⟨true, 23, []⟩⟩, ⟨o1y, true, ⟨true, 23, []⟩⟩, ⟨some pey, true, ⟨true, 27, [zP ux]⟩⟩, ⟨some b3, true, ⟨true, 51, [zP ux, zP uy]⟩⟩, ⟨some b4, true, ⟨true, 54, (ws0 ++ (cpL ws1 ws1 (src % 16) (dst % 16) j)).map (Value.int .u8)⟩⟩, ⟨some b15, true, ⟨true, 53, ws1.map (Value.int .u8)⟩⟩]) ((nn % (17 - max (src % 16) (dst % 16))) - 0) ⟨0, rfl, Nat.zero_le _, rfl, (st.sel [1, 2, 3, 11, 4, 5, 12, 13, 14, 15, 16, 17, 18, 19, 20, 21, 22, 23, 24, 25, 26, 27, 28, 29, 30, 0] (by decide))⟩ [16, 126, 127, 128, 129, 130, 131, 132, 133, 134, 135, 136, 137, 138, 139, 140, 141] (by decide) ?_ | refine AW_loopN (fun m t1 H1 => ∃ (j : Nat), m = (nn % (17 - max (src % 16) (dst % 16))) - j ∧ (j ≤ (nn % (17 - max (src % 16) (dst % 16)))) ∧ t1 16 = .int .i64 (j : Int) ∧ Stt [] H H1 [⟨some w, true, zW sb db (accV wb1 nw1 5) ops1 (-1)⟩, ⟨some sb, true, ⟨true, .mp c1, []⟩⟩, ⟨wb1, true, ⟨true, 121, cs1⟩⟩, ⟨ob0, true, ⟨true, 5, (fileL fs0).map (Value.int .u8)⟩⟩, ⟨ot9, true, ⟨true, 5, (fileL (setN fs1 (dst % 16) (mkN 1 (dst % 16) (unL false (pkL false (bsR fs1 (src % 16) (nn % (17 - max (src % 16) (dst % 16)))))) (nn % (17 - max (src % 16) (dst % 16)))) (nn % (17 - max (src % 16) (dst % 16))))).map (Value.int .u8)⟩⟩, ⟨some ux, true, zU ⟨#[83, 48]⟩ 0 dvx kx pgx tbx qx (.slice (some ⟨pex, 0, none⟩) 1 1) 1 0 ct0⟩, ⟨some dvx, true, zD sx 0⟩, ⟨some sx, true, zS w (⟨#[97]⟩ ++ ⟨#[46, 100]⟩) 16⟩, ⟨some pgx, true, zG⟩, ⟨some tbx, true, zT⟩, ⟨some qx, true, ⟨true, 154, [accV o0x 0 1, accV o1x 0 1, accV o2x 0 1, accV o3x 0 1, accV o4x 0 1, accV o5x 0 1, accV o6x 0 1, accV o7x 0 1]⟩⟩, ⟨o0x, true, ⟨true, 23, []⟩⟩, ⟨o1x, true, ⟨true, 23, []⟩⟩, ⟨some pex, true, ⟨true, 27, [zP uy]⟩⟩, ⟨some uy, true, zU ⟨#[83, 49]⟩ 1 dvy ky pgy tby qy (.slice (some ⟨pey, 0, none⟩) 1 1) 1 0 ct9⟩, ⟨some dvy, true, zD sy 1⟩, ⟨some sy, true, zS w (⟨#[98]⟩ ++ ⟨#[46, 100]⟩) 16⟩, ⟨some pgy, true, zG⟩, ⟨some tby, true, zT⟩, ⟨some qy, true, ⟨true, 154, [accV o0y 0 1, accV o1y 0 1, accV o2y 0 1, accV o3y 0 1, accV o4y 0 1, accV o5y 0 1, accV o6y 0 1, accV o7y 0 1]⟩⟩, ⟨o0y, true, ⟨true, 23, []⟩⟩, ⟨o1y, true, ⟨true, 23, []⟩⟩, ⟨some pey, true, ⟨true, 27, [zP ux]⟩⟩, ⟨some b3, true, ⟨true, 51, [zP ux, zP uy]⟩⟩, ⟨some b4, true, ⟨true, 54, (ws0 ++ (cpL ws1 ws1 (src % 16) (dst % 16) j)).map (Value.int .u8)⟩⟩, ⟨some b15, true, ⟨true, 53, ws1.map (Value.int .u8)⟩⟩]) ((nn % (17 - max (src % 16) (dst % 16))) - 0) ⟨0, rfl, Nat.zero_le _, rfl, (st.sel [1, 2, 3, 11, 4, 12, 13, 14, 15, 16, 17, 18, 19, 20, 5, 21, 22, 23, 24, 25, 26, 27, 28, 29, 30, 0] (by decide))⟩ [16, 126, 127, 128, 129, 130, 131, 132, 133, 134, 135, 136, 137, 138, 139, 140, 141] (by decide) ?_
       rintro m t1 H1 hk hI
       obtain ⟨j, rfl, hj, ht16, st⟩ := hI
       obtain ⟨u, rfl⟩ : ∃ u, t1 = (upd (mix [16, 126, 127, 128, 129, 130, 131, 132, 133, 134, 135, 136, 137, 138, 139, 140, 141] _ u) (some 16) _) := ⟨t1, by rw [← hk, upd_self ht16]⟩
       clear hk ht16
       refine zw ?_
       iterate 3 refine zm ?_
       show AW _ (.cond _ _ _) _ _ _
       refine cC' rfl (fun h29 => ?_) (fun h29 => ?_)
       ·have h29q := h29; try simp only [zq] at h29q
        have hjlt : j < (nn % (17 - max (src % 16) (dst % 16))) := by have := of_decide_eq_true h29; omega
        show AWp _ _ _ _ _
        iterate 3 refine zm ?_
        refine aBinV (.int .i64 ((dst % 16 + j : Nat) : Int)) rfl rfl (addI (by omega) (by omega)) ?_
        iterate 2 refine zm ?_
        refine aBinV (.int .i64 ((src % 16 + j : Nat) : Int)) rfl rfl (addI (by omega) (by omega)) ?_
        refine aIxAV (q := src % 16 + j) rfl rfl (by omega) (by omega) ?_
        refine aLd (v := .int .u8 (ws1.getD (src % 16 + j) 0)) st 25 rfl rfl (map_at' (by rw [hH1.2.2.1]; omega)) (by constructor) ?_
        refine aN (v := .pointer (some ⟨b4, 16, none⟩)) rfl rfl (by constructor) ?_
        refine aIxAV (q := 16 + (dst % 16 + j)) rfl rfl (by omega) (by omega) ?_
        refine ⟨?_, trivial⟩
        refine aStAt (cs := (ws0 ++ (cpL ws1 ws1 (src % 16) (dst % 16) (j + 1))).map (Value.int .u8)) st 24 rfl rfl rfl rfl rfl (by simp [cpL_len, hH0.2.2.1, hH1.2.2.1]; omega) (want_set1 hH0.2.2.1) fun H30 st => ?_
        refine ⟨trivial, ?_⟩
        refine zw ?_
        refine zm ?_
        refine aBinV (.int .i64 ((j + 1 : Nat) : Int)) rfl rfl (addI (by omega) (by omega)) ?_
        refine zm ?_
        refine sE ?_
        exact ⟨_, by omega, (j + 1), rfl, by omega, rfl, (st.sel [0, 1, 2, 3, 4, 5, 6, 7, 8, 9, 10, 11, 12, 13, 14, 15, 16, 17, 18, 19, 20, 21, 22, 23, 24, 25] (by decide))⟩
       ·have h29q := h29; try simp only [zq] at h29q
        have hjge : j = (nn % (17 - max (src % 16) (dst % 16))) := by have := of_decide_eq_false h29; omega
        subst hjge
        refine zw ?_
        refine zm ?_
        refine aBinV (.int .i64 ((i + 1 : Nat) : Int)) rfl rfl (addI (by omega) (by omega)) ?_
        refine zm ?_
        refine sE ?_
        exact ⟨_, (by show xs.length - (i + 1) < xs.length - i; omega), (i + 1), nw1, _, _, _, wb1, ob0, ot9, c1, cs1, _, _, _, _, rfl, ⟨by omega, by omega⟩, hcs1, by omega, ⟨by omega, by omega⟩, (hF0.other hO9 (by decide)), hF9, hH0, (hH1.copy hH1 hs9 hd9), rfl, st.sel [0, 1, 2, 3, 4, 5, 6, 7, 8, 9, 10, 11, 12, 13, 14, 15, 16, 17, 18, 19, 20, 21, 22, 23, 24] (by decide)⟩
     ·have h18q := h18; try simp only [zq] at h18q
      have hn9 : (nn % (17 - max (src % 16) (dst % 16))) ≤ 16 := by have := Nat.mod_lt nn (show 17 - (max (src % 16) (dst % 16)) > 0 by omega); omega
      have hs9 : src % 16 + (nn % (17 - max (src % 16) (dst % 16))) ≤ 16 := by have := Nat.mod_lt nn (show 17 - (max (src % 16) (dst % 16)) > 0 by omega); omega
      have hd9 : dst % 16 + (nn % (17 - max (src % 16) (dst % 16))) ≤ 16 := by have := Nat.mod_lt nn (show 17 - (max (src % 16) (dst % 16)) > 0 by omega); omega
      refine zw ?_
      refine aLit st rfl (by repeat constructor) fun b86 H37 st => ?_
      iterate 4 refine zm ?_
      refine aConvV (n := ((src % 16 : Nat) : Int)) (n' := ((src % 16 : Nat) : Int)) rfl (by rw [w64]; omega) ?_
      refine zm ?_
      refine aConvV (n := ((dst % 16 : Nat) : Int)) (n' := ((dst % 16 : Nat) : Int)) rfl (by rw [w64]; omega) ?_
      refine aBld rfl (by repeat constructor) ?_
      refine aLit st rfl (by repeat constructor) fun b95 H38 st => ?_
      refine aBld rfl (by repeat constructor) ?_
      refine aC (xbytes_call (f := 1) (t := 0) (n := (nn % (17 - max (src % 16) (dst % 16)))) (sr := src % 16) (ds := dst % 16) (zM st [] [1, 0]) (by decide) (by decide) (by omega) (by omega) (by omega)) fun v97 H39 ⟨pb, hv, st1⟩ => ?_
      subst hv
      replace st := st.call st1 rfl
      clear st1
      iterate 5 refine zm ?_
      refine zw ?_
      refine aNewS st rfl rfl (by repeat constructor) fun b100 H40 st => ?_
      refine zm ?_
      refine zw ?_
      iterate 2 refine zm ?_
      refine zx st 0 fun H41 st => ?_
      refine zw ?_
      iterate 2 refine zm ?_
      refine aN (v := .int .i64 108) rfl rfl (by constructor) ?_
      refine aConvV (n := 108) (n' := 108) rfl (by decide) ?_
      refine zm ?_
      refine zx st 0 fun H42 st => ?_
      refine zw ?_
      refine zm ?_
      refine zb (.bool false) ?_
      refine zm ?_
      refine zg ?_
      refine zm ?_
      refine zg ?_
      refine zl st 4 ?_
      refine zg ?_
      refine aConvV (n := (fill : Int)) (n' := (fill : Int)) rfl (wi _ (by omega)) ?_
      refine zg ?_
      rcases Nat.mod_two_eq_zero_or_one fill with hm2 | hm2
      all_goals
       first | refine aBinV (.int .i64 0) rfl rfl (by have h9 := remN (tk := 5) (k := .i64) (n := fill) (m := 2) (by decide); rw [hm2] at h9; exact h9) ?_ | refine aBinV (.int .i64 1) rfl rfl (by have h9 := remN (tk := 5) (k := .i64) (n := fill) (m := 2) (by decide); rw [hm2] at h9; exact h9) ?_
       refine zg ?_
       first | refine aN (v := zP b3) rfl rfl (by constructor) ?_ | refine aN (v := .pointer (some ⟨b3, 1, none⟩)) rfl rfl (by constructor) ?_
       refine zg ?_
       refine zl st 28 ?_
       refine zg ?_
       refine zm ?_
       refine zg ?_
       refine zm ?_
       refine zg ?_
       first | refine aC (do_copy_all.2.2.1 (n := (nn % (17 - max (src % 16) (dst % 16)))) (sr := src % 16) (ds := dst % 16) (zN st [5, 6, 7, 8, 10] [9, 12, 21, 11, 20, 19, 18, 14, 23, 13, 22, 1, 15, 17, 0]) (by decide) (by decide) (by decide) (by decide) hcs (by omega) hF0 hH0.1 hH0.2.1 hF1 hH1.1 hH1.2.1 hn9 hs9 hd9 (by omega) (by omega) ⟨by omega, by omega⟩ (by decide) (hH1.good hs9) rfl rfl) fun v119 H43 ⟨wb1, ot9, c1, cs1, nw1, ops1, ct9, hv, hcs1, hnw1, hops1, hF9, hO9, st1⟩ => ?_ | refine aC (do_copy_all.2.2.2.2.2.2.1 (n := (nn % (17 - max (src % 16) (dst % 16)))) (sr := src % 16) (ds := dst % 16) (zN st [5, 6, 7, 8, 19] [9, 12, 21, 11, 20, 10, 27, 14, 23, 13, 22, 1, 24, 26, 0]) (by decide) (by decide) (by decide) (by decide) hcs (by omega) hF0 hH0.1 hH0.2.1 hF1 hH1.1 hH1.2.1 hn9 hs9 hd9 (by omega) (by omega) ⟨by omega, by omega⟩ (by decide) (hH1.good hs9) rfl rfl) fun v119 H49 ⟨wb1, ot9, c1, cs1, nw1, ops1, ct9, hv, hcs1, hnw1, hops1, hF9, hO9, st1⟩ => ?_
       subst hv
       first | replace st := st.call5 (o1 := some w) (o2 := some sb) (o3 := wb) (o4 := ob0) (o5 := some ux) 5 5 5 5 6 rfl rfl rfl rfl rfl st1 rfl | replace st := st.call5 (o1 := some w) (o2 := some sb) (o3 := wb) (o4 := ob0) (o5 := some uy) 5 5 5 5 15 rfl rfl rfl rfl rfl st1 rfl
       clear st1
       have st := st.nf (by repeat constructor)
       refine zg ?_
       refine aC (tgood0) fun v120 H44 ⟨hv, st1⟩ => ?_
       subst hv
       replace st := st.call st1 rfl
       clear st1
       refine zg ?_
       iterate 2 refine zm ?_
       refine zf ?_
       refine zw ?_
       refine zm ?_
       refine aN (v := .pointer (some ⟨b4, 16, none⟩)) rfl rfl (by constructor) ?_
       refine aLdA (xs := ws1.map (Value.int .u8)) st 29 rfl rfl (by simp [hH0.2.2.1, hH1.2.2.1]) (by rw [want_all1 hH0.2.2.1 hH1.2.2.1]; exact .any _) ?_
       refine zp st fun b15 H45 st => ?_
       refine aStAllA st 0 rfl rfl rfl (by simp [hH1.2.2.1]) (rfl) fun H46 st => ?_
       refine zw ?_
       refine zm ?_
       refine sE ?_
       show AW _ (.loop _) _ _ _
       first | refine AW_loopN (fun m t1 H1 => ∃ (j : Nat), m = (nn % (17 - max (src % 16) (dst % 16))) - j ∧ (j ≤ (nn % (17 - max (src % 16) (dst % 16)))) ∧ t1 16 = .int .i64 (j : Int) ∧ Stt [] H H1 [⟨some w, true, zW sb db (accV wb1 nw1 5) ops1 (-1)⟩, ⟨some sb, true, ⟨true, .mp c1, []⟩⟩, ⟨wb1, true, ⟨true, 121, cs1⟩⟩, ⟨ot9, true, ⟨true, 5, (fileL (setN fs0 (dst % 16) (mkN 0 (dst % 16) (unL false (pkL false (bsR fs1 (src % 16) (nn % (17 - max (src % 16) (dst % 16)))))) (nn % (17 - max (src % 16) (dst % 16)))) (nn % (17 - max (src % 16) (dst % 16))))).map (Value.int .u8)⟩⟩, ⟨ob1, true, ⟨true, 5, (fileL fs1).map (Value.int .u8)⟩⟩, ⟨some ux, true, zU ⟨#[83, 48]⟩ 0 dvx kx pgx tbx qx (.slice (some ⟨pex, 0, none⟩) 1 1) 1 0 ct9⟩, ⟨some dvx, true, zD sx 0⟩, ⟨some sx, true, zS w (⟨#[97]⟩ ++ ⟨#[46, 100]⟩) 16⟩, ⟨some pgx, true, zG⟩, ⟨some tbx, true, zT⟩, ⟨some qx, true, ⟨true, 154, [accV o0x 0 1, accV o1x 0 1, accV o2x 0 1, accV o3x 0 1, accV o4x 0 1, accV o5x 0 1, accV o6x 0 1, accV o7x 0 1]⟩⟩, ⟨o0x, true, ⟨true, 23, []⟩⟩, ⟨o1x, true, ⟨true, 23, []⟩⟩, ⟨some pex, true, ⟨true, 27, [zP uy]⟩⟩, ⟨some uy, true, zU ⟨#[83, 49]⟩ 1 dvy ky pgy tby qy (.slice (some ⟨pey, 0, none⟩) 1 1) 1 0 ct1⟩, ⟨some dvy, true, zD sy 1⟩, ⟨some sy, true, zS w (⟨#[98]⟩ ++ ⟨#[46, 100]⟩) 16⟩, ⟨some pgy, true, zG⟩, ⟨some tby, true, zT⟩, ⟨some qy, true, ⟨true, 154, [accV o0y 0 1, accV o1y 0 1, accV o2y 0 1, accV o3y 0 1, accV o4y 0 1, accV o5y 0 1, accV o6y 0 1, accV o7y 0 1]⟩⟩, ⟨o0y, true, ⟨true, 23, []⟩⟩, ⟨o1y, true, ⟨true, 23, []⟩⟩, ⟨some pey, true, ⟨true, 27, [zP ux]⟩⟩, ⟨some b3, true, ⟨true, 51, [zP ux, zP uy]⟩⟩, ⟨some b4, true, ⟨true, 54, ((cpL ws0 ws1 (src % 16) (dst % 16) j) ++ ws1).map (Value.int .u8)⟩⟩, ⟨some b15, true, ⟨true, 53, ws1.map (Value.int .u8)⟩⟩]) ((nn % (17 - max (src % 16) (dst % 16))) - 0) ⟨0, rfl, Nat.zero_le _, rfl, (st.sel [1, 2, 3, 4, 11, 5, 12, 13, 14, 15, 16, 17, 18, 19, 20, 21, 22, 23, 24, 25, 26, 27, 28, 29, 30, 0] (by decide))⟩ [16, 126, 127, 128, 129, 130, 131, 132, 133, 134, 135, 136, 137, 138, 139, 140, 141] (by decide) ?_ | refine AW_loopN (fun m t1 H1 => ∃ (j : Nat), m = (nn % (17 - max (src % 16) (dst % 16))) - j ∧ (j ≤ (nn % (17 - max (src % 16) (dst % 16)))) ∧ t1 16 = .int .i64 (j : Int) ∧ Stt [] H H1 [⟨some w, true, zW sb db (accV wb1 nw1 5) ops1 (-1)⟩, ⟨some sb, true, ⟨true, .mp c1, []⟩⟩, ⟨wb1, true, ⟨true, 121, cs1⟩⟩, ⟨ot9, true, ⟨true, 5, (fileL (setN fs0 (dst % 16) (mkN 0 (dst % 16) (unL false (pkL false (bsR fs1 (src % 16) (nn % (17 - max (src % 16) (dst % 16)))))) (nn % (17 - max (src % 16) (dst % 16)))) (nn % (17 - max (src % 16) (dst % 16))))).map (Value.int .u8)⟩⟩, ⟨ob1, true, ⟨true, 5, (fileL fs1).map (Value.int .u8)⟩⟩, ⟨some ux, true, zU ⟨#[83, 48]⟩ 0 dvx kx pgx tbx qx (.slice (some ⟨pex, 0, none⟩) 1 1) 1 0 ct0⟩, ⟨some dvx, true, zD sx 0⟩, ⟨some sx, true, zS w (⟨#[97]⟩ ++ ⟨#[46, 100]⟩) 16⟩, ⟨some pgx, true, zG⟩, ⟨some tbx, true, zT⟩, ⟨some qx, true, ⟨true, 154, [accV o0x 0 1, accV o1x 0 1, accV o2x 0 1, accV o3x 0 1, accV o4x 0 1, accV o5x 0 1, accV o6x 0 1, accV o7x 0 1]⟩⟩, ⟨o0x, true, ⟨true, 23, []⟩⟩, ⟨o1x, true, ⟨true, 23, []⟩⟩, ⟨some pex, true, ⟨true, 27, [zP uy]⟩⟩, ⟨some uy, true, zU ⟨#[83, 49]⟩ 1 dvy ky pgy tby qy (.slice (some ⟨pey, 0, none⟩) 1 1) 1 0 ct9⟩, ⟨some dvy, true, zD sy 1⟩, ⟨some sy, true, zS w (⟨#[98]⟩ ++ ⟨#[46, 100]⟩) 16⟩, ⟨some pgy, true, zG⟩, ⟨some tby, true, zT⟩, ⟨some qy, true, ⟨true, 154, [accV o0y 0 1, accV o1y 0 1, accV o2y 0 1, accV o3y 0 1, accV o4y 0 1, accV o5y 0 1, accV o6y 0 1, accV o7y 0 1]⟩⟩, ⟨o0y, true, ⟨true, 23, []⟩⟩, ⟨o1y, true, ⟨true, 23, []⟩⟩, ⟨some pey, true, ⟨true, 27, [zP ux]⟩⟩, ⟨some b3, true, ⟨true, 51, [zP ux, zP uy]⟩⟩, ⟨some b4, true, ⟨true, 54, ((cpL ws0 ws1 (src % 16) (dst % 16) j) ++ ws1).map (Value.int .u8)⟩⟩, ⟨some b15, true, ⟨true, 53, ws1.map (Value.int .u8)⟩⟩]) ((nn % (17 - max (src % 16) (dst % 16))) - 0) ⟨0, rfl, Nat.zero_le _, rfl, (st.sel [1, 2, 3, 4, 11, 12, 13, 14, 15, 16, 17, 18, 19, 20, 5, 21, 22, 23, 24, 25, 26, 27, 28, 29, 30, 0] (by decide))⟩ [16, 126, 127, 128, 129, 130, 131, 132, 133, 134, 135, 136, 137, 138, 139, 140, 141] (by decide) ?_
       rintro m t1 H1 hk hI
       obtain ⟨j, rfl, hj, ht16, st⟩ := hI
       obtain ⟨u, rfl⟩ : ∃ u, t1 = (upd (mix [16, 126, 127, 128, 129, 130, 131, 132, 133, 134, 135, 136, 137, 138, 139, 140, 141] _ u) (some 16) _) := ⟨t1, by rw [← hk, upd_self ht16]⟩
       clear hk ht16
       refine zw ?_
       iterate 3 refine zm ?_
       show AW _ (.cond _ _ _) _ _ _
       refine cC' rfl (fun h47 => ?_) (fun h47 => ?_)
       ·have h47q := h47; try simp only [zq] at h47q
        have hjlt : j < (nn % (17 - max (src % 16) (dst % 16))) := by have := of_decide_eq_true h47; omega
        show AWp _ _ _ _ _
        iterate 3 refine zm ?_
        refine aBinV (.int .i64 ((dst % 16 + j : Nat) : Int)) rfl rfl (addI (by omega) (by omega)) ?_
        iterate 2 refine zm ?_
        refine aBinV (.int .i64 ((src % 16 + j : Nat) : Int)) rfl rfl (addI (by omega) (by omega)) ?_
        refine aIxAV (q := src % 16 + j) rfl rfl (by omega) (by omega) ?_
        refine aLd (v := .int .u8 (ws1.getD (src % 16 + j) 0)) st 25 rfl rfl (map_at' (by rw [hH1.2.2.1]; omega)) (by constructor) ?_
        refine aN (v := zP b4) rfl rfl (by constructor) ?_
        refine aIxAV (q := 0 + (dst % 16 + j)) rfl rfl (by omega) (by omega) ?_
        refine ⟨?_, trivial⟩
        refine aStAt (cs := ((cpL ws0 ws1 (src % 16) (dst % 16) (j + 1)) ++ ws1).map (Value.int .u8)) st 24 rfl rfl rfl rfl rfl (by simp [cpL_len, hH0.2.2.1, hH1.2.2.1]; omega) (want_set0 (by rw [cpL_len]; exact hH0.2.2.1) (by omega)) fun H48 st => ?_
        refine ⟨trivial, ?_⟩
        refine zw ?_
        refine zm ?_
        refine aBinV (.int .i64 ((j + 1 : Nat) : Int)) rfl rfl (addI (by omega) (by omega)) ?_
        refine zm ?_
        refine sE ?_
        exact ⟨_, by omega, (j + 1), rfl, by omega, rfl, (st.sel [0, 1, 2, 3, 4, 5, 6, 7, 8, 9, 10, 11, 12, 13, 14, 15, 16, 17, 18, 19, 20, 21, 22, 23, 24, 25] (by decide))⟩
       ·have h47q := h47; try simp only [zq] at h47q
        have hjge : j = (nn % (17 - max (src % 16) (dst % 16))) := by have := of_decide_eq_false h47; omega
        subst hjge
        refine zw ?_
        refine zm ?_
        refine aBinV (.int .i64 ((i + 1 : Nat) : Int)) rfl rfl (addI (by omega) (by omega)) ?_
        refine zm ?_
        refine sE ?_
        exact ⟨_, (by show xs.length - (i + 1) < xs.length - i; omega), (i + 1), nw1, _, _, _, wb1, ot9, ob1, c1, cs1, _, _, _, _, rfl, ⟨by omega, by omega⟩, hcs1, by omega, ⟨by omega, by omega⟩, hF9, (hF1.other hO9 (by decide)), (hH0.copy hH1 hs9 hd9), hH1, rfl, st.sel [0, 1, 2, 3, 4, 5, 6, 7, 8, 9, 10, 11, 12, 13, 14, 15, 16, 17, 18, 19, 20, 21, 22, 23, 24] (by decide)⟩
   ·have h11q := h11; try simp only [zq] at h11q
    refine zw ?_
    refine zm ?_
    refine zl st 0 ?_
    refine aConvV (n := (src : Int)) (n' := (src : Int)) rfl (wi _ (by omega)) ?_
    refine aBinV (.int .i64 ((src % 16 : Nat) : Int)) rfl rfl (remN (n := src) (m := 16) (by omega)) ?_
    refine zm ?_
    refine zw ?_
    refine zm ?_
    refine zl st 0 ?_
    refine aConvV (n := (dst : Int)) (n' := (dst : Int)) rfl (wi _ (by omega)) ?_
    refine aBinV (.int .i64 ((dst % 16 : Nat) : Int)) rfl rfl (remN (n := dst) (m := 16) (by omega)) ?_
    refine zm ?_
    refine zw ?_
    refine zm ?_
    refine zl st 0 ?_
    refine aBinV (.int .u8 ((cp % 3 : Nat) : Int)) rfl rfl (remN (n := cp) (m := 3) (by omega)) ?_
    refine zm ?_
    show AW _ (.cond _ _ _) _ _ _
    refine cC' rfl (fun h55 => ?_) (fun h55 => ?_)
    ·have h55q := h55; try simp only [zq] at h55q
     have hcp : cp % 3 = 0 := by have := h55; simp at this; omega
     show AWp _ _ _ _ _
     refine zm ?_
     refine aN (v := zP b3) rfl rfl (by constructor) ?_
     refine zl st 24 ?_
     iterate 2 refine zm ?_
     refine zl st 0 ?_
     refine ⟨?_, trivial⟩
     refine aC (onb_call (l := dst % 16) (n := 1) (by omega) (by decide)) fun v57 H56 ⟨cb, hv, st1⟩ => ?_
     subst hv
     replace st := st.call st1 rfl
     clear st1
     refine ⟨⟨zh st 1, zh st 25, trivial⟩, ?_⟩
     refine ⟨?_, trivial⟩
     refine aC (six_call (fill := fill)) fun v60 H57 ⟨xb, hv, st1⟩ => ?_
     subst hv
     replace st := st.call st1 rfl
     clear st1
     refine ⟨⟨zh st 26, trivial⟩, ?_⟩
     refine ⟨?_, trivial⟩
     refine aC (do_w_all.1 (n := 1) (lba := dst % 16) (nb := 16) (xb := some xb) (xs := List.replicate 16 (fill : Int)) (zN st [3, 4, 5, 8] [6, 10, 9, 13, 15, 12, 11, 1, 0]) (fun z hz => by rw [List.eq_of_mem_replicate hz]; omega) rfl (by decide) (by decide) hcs (by omega) (by decide) hF0 hH0.1 (by decide) (by omega) hH0.2.1 ⟨by omega, by omega⟩ (fun z hz => by omega) rfl rfl) fun v61 H58 ⟨wb1, ob9, c1, cs1, ct9, hv, hcs1, hF9, hO9, st1⟩ => ?_
     subst hv
     replace st := st.call4 (o1 := some w) (o2 := some sb) (o3 := wb) (o4 := some ux) 3 3 3 5 rfl rfl rfl rfl st1 rfl
     clear st1
     refine ⟨⟨zh st 7, trivial⟩, ?_⟩
     refine ⟨?_, trivial⟩
     refine aC (tgood0) fun v62 H59 ⟨hv, st1⟩ => ?_
     subst hv
     replace st := st.call st1 rfl
     clear st1
     refine ⟨⟨zh st 7, zh st 27, trivial⟩, ?_⟩
     refine zm ?_
     refine zf ?_
     show AWp _ _ _ _ _
     iterate 3 refine zm ?_
     refine zl st 7 ?_
     refine aN (v := zP b4) rfl rfl (by constructor) ?_
     refine aIxAV (q := 0 + dst % 16) rfl rfl (by omega) (by omega) ?_
     refine ⟨?_, trivial⟩
     refine aStAt (cs := ((ws0.set (dst % 16) (fill : Int)) ++ ws1).map (Value.int .u8)) st 28 rfl rfl rfl rfl rfl (by simp [hH0.2.2.1, hH1.2.2.1]; omega) (want_set0 hH0.2.2.1 (by omega)) fun H60 st => ?_
     refine ⟨trivial, ?_⟩
     refine zw ?_
     refine zm ?_
     refine aBinV (.int .i64 ((i + 1 : Nat) : Int)) rfl rfl (addI (by omega) (by omega)) ?_
     refine zm ?_
     refine sE ?_
     exact ⟨_, (by show xs.length - (i + 1) < xs.length - i; omega), (i + 1), (nw + 1), _, _, _, wb1, ob9, ob1, c1, cs1, _, _, _, _, rfl, ⟨by omega, by omega⟩, hcs1, by omega, ⟨by omega, by omega⟩, hF9, (hF1.other hO9 (by decide)), (hH0.write (by omega) (by omega)), hH1, rfl, st.sel [0, 1, 2, 3, 9, 4, 10, 11, 12, 13, 14, 15, 16, 17, 18, 19, 20, 21, 22, 23, 24, 25, 26, 27, 28] (by decide)⟩
    ·have h55q := h55; try simp only [zq] at h55q
     have hcp : cp % 3 ≠ 0 := by have := h55; simp at this; omega
     refine zw ?_
     refine zm ?_
     refine zl st 0 ?_
     refine aConvV (n := (nn : Int)) (n' := (nn : Int)) rfl (wi _ (by omega)) ?_
     iterate 2 refine zm ?_
     refine aMaxV (r := (((max (src % 16) (dst % 16)) : Nat) : Int)) rfl rfl (by split <;> omega) ?_
     refine aBinV (.int .i64 ((17 - (max (src % 16) (dst % 16)) : Nat) : Int)) rfl rfl (subI (by omega) (by omega)) ?_
     refine aBinV (.int .i64 (((nn % (17 - max (src % 16) (dst % 16))) : Nat) : Int)) rfl rfl (remN (n := nn) (m := 17 - (max (src % 16) (dst % 16))) (by omega)) ?_
     refine zm ?_
     refine zw ?_
     refine zm ?_
     refine zb (.int .i64 1) ?_
     refine zm ?_
     refine zw ?_
     refine zm ?_
     refine zl st 0 ?_
     refine aBinV (.int .u8 ((cp % 3 : Nat) : Int)) rfl rfl (remN (n := cp) (m := 3) (by omega)) ?_
     refine zm ?_
     show AW _ (.cond _ _ _) _ _ _
     refine cC' rfl (fun h61 => ?_) (fun h61 => ?_)
     ·have h61q := h61; try simp only [zq] at h61q
      have hn9 : (nn % (17 - max (src % 16) (dst % 16))) ≤ 16 := by have := Nat.mod_lt nn (show 17 - (max (src % 16) (dst % 16)) > 0 by omega); omega
      have hs9 : src % 16 + (nn % (17 - max (src % 16) (dst % 16))) ≤ 16 := by have := Nat.mod_lt nn (show 17 - (max (src % 16) (dst % 16)) > 0 by omega); omega
      have hd9 : dst % 16 + (nn % (17 - max (src % 16) (dst % 16))) ≤ 16 := by have := Nat.mod_lt nn (show 17 - (max (src % 16) (dst % 16)) > 0 by omega); omega
      refine zw ?_
      iterate 2 refine zm ?_
      refine zw ?_
      refine aLit st rfl (by repeat constructor) fun b86 H62 st => ?_
      iterate 4 refine zm ?_
      refine aConvV (n := ((src % 16 : Nat) : Int)) (n' := ((src % 16 : Nat) : Int)) rfl (by rw [w64]; omega) ?_
      refine zm ?_
      refine aConvV (n := ((dst % 16 : Nat) : Int)) (n' := ((dst % 16 : Nat) : Int)) rfl (by rw [w64]; omega) ?_
      refine aBld rfl (by repeat constructor) ?_
      refine aLit st rfl (by repeat constructor) fun b95 H63 st => ?_
      refine aBld rfl (by repeat constructor) ?_
      refine aC (xbytes_call (f := 0) (t := 0) (n := (nn % (17 - max (src % 16) (dst % 16)))) (sr := src % 16) (ds := dst % 16) (zM st [] [1, 0]) (by decide) (by decide) (by omega) (by omega) (by omega)) fun v97 H64 ⟨pb, hv, st1⟩ => ?_
      subst hv
      replace st := st.call st1 rfl
      clear st1
      iterate 5 refine zm ?_
      refine zw ?_
      refine aNewS st rfl rfl (by repeat constructor) fun b100 H65 st => ?_
      refine zm ?_
      refine zw ?_
      iterate 2 refine zm ?_
      refine zx st 0 fun H66 st => ?_
      refine zw ?_
      iterate 2 refine zm ?_
      refine aN (v := .int .i64 108) rfl rfl (by constructor) ?_
      refine aConvV (n := 108) (n' := 108) rfl (by decide) ?_
      refine zm ?_
      refine zx st 0 fun H67 st => ?_
      refine zw ?_
      refine zm ?_
      refine zb (.bool false) ?_
      refine zm ?_
      refine zg ?_
      refine zm ?_
      refine zg ?_
      refine zl st 4 ?_
      refine zg ?_
      refine aConvV (n := (fill : Int)) (n' := (fill : Int)) rfl (wi _ (by omega)) ?_
      refine zg ?_
      rcases Nat.mod_two_eq_zero_or_one fill with hm2 | hm2
      all_goals
       first | refine aBinV (.int .i64 0) rfl rfl (by have h9 := remN (tk := 5) (k := .i64) (n := fill) (m := 2) (by decide); rw [hm2] at h9; exact h9) ?_ | refine aBinV (.int .i64 1) rfl rfl (by have h9 := remN (tk := 5) (k := .i64) (n := fill) (m := 2) (by decide); rw [hm2] at h9; exact h9) ?_
       refine zg ?_
       first | refine aN (v := zP b3) rfl rfl (by constructor) ?_ | refine aN (v := .pointer (some ⟨b3, 1, none⟩)) rfl rfl (by constructor) ?_
       refine zg ?_
       refine zl st 28 ?_
       refine zg ?_
       refine zm ?_
       refine zg ?_
       refine zm ?_
       refine zg ?_
       first | refine aC (do_copy_all.1 (n := (nn % (17 - max (src % 16) (dst % 16)))) (sr := src % 16) (ds := dst % 16) (zN st [5, 6, 7, 8, 10] [9, 12, 21, 11, 20, 19, 18, 14, 23, 13, 22, 1, 15, 17, 0]) (by decide) (by decide) (by decide) (by decide) hcs (by omega) hF0 hH0.1 hH0.2.1 hF1 hH1.1 hH1.2.1 hn9 hs9 hd9 (by omega) (by omega) ⟨by omega, by omega⟩ (by decide) (hH0.good hs9) rfl rfl) fun v119 H68 ⟨wb1, ot9, c1, cs1, nw1, ops1, ct9, hv, hcs1, hnw1, hops1, hF9, hO9, st1⟩ => ?_ | refine aC (do_copy_all.2.2.2.2.1 (n := (nn % (17 - max (src % 16) (dst % 16)))) (sr := src % 16) (ds := dst % 16) (zN st [5, 6, 7, 8, 19] [9, 12, 21, 11, 20, 10, 27, 14, 23, 13, 22, 1, 24, 26, 0]) (by decide) (by decide) (by decide) (by decide) hcs (by omega) hF0 hH0.1 hH0.2.1 hF1 hH1.1 hH1.2.1 hn9 hs9 hd9 (by omega) (by omega) ⟨by omega, by omega⟩ (by decide) (hH0.good hs9) rfl rfl) fun v119 H74 ⟨wb1, ot9, c1, cs1, nw1, ops1, ct9, hv, hcs1, hnw1, hops1, hF9, hO9, st1⟩ => ?_
       subst hv
       first | replace st := st.call5 (o1 := some w) (o2 := some sb) (o3 := wb) (o4 := ob0) (o5 := some ux) 5 5 5 5 6 rfl rfl rfl rfl rfl st1 rfl | replace st := st.call5 (o1 := some w) (o2 := some sb) (o3 := wb) (o4 := ob0) (o5 := some uy) 5 5 5 5 15 rfl rfl rfl rfl rfl st1 rfl
       clear st1
       have st := st.nf (by repeat constructor)
       refine zg ?_
       refine aC (tgood0) fun v120 H69 ⟨hv, st1⟩ => ?_
       subst hv
       replace st := st.call st1 rfl
       clear st1
       refine zg ?_
       iterate 2 refine zm ?_
       refine zf ?_
       refine zw ?_
       refine zm ?_
       refine aN (v := zP b4) rfl rfl (by constructor) ?_
       refine aLdA (xs := ws0.map (Value.int .u8)) st 29 rfl rfl (by simp [hH0.2.2.1, hH1.2.2.1]) (by rw [want_all0 hH0.2.2.1]; exact .any _) ?_
       refine zp st fun b15 H70 st => ?_
       refine aStAllA st 0 rfl rfl rfl (by simp [hH0.2.2.1]) (rfl) fun H71 st => ?_
       refine zw ?_
       refine zm ?_
       refine sE ?_
       show AW _ (.loop _) _ _ _
       first | refine AW_loopN (fun m t1 H1 => ∃ (j : Nat), m = (nn % (17 - max (src % 16) (dst % 16))) - j ∧ (j ≤ (nn % (17 - max (src % 16) (dst % 16)))) ∧ t1 16 = .int .i64 (j : Int) ∧ Stt [] H H1 [⟨some w, true, zW sb db (accV wb1 nw1 5) ops1 (-1)⟩, ⟨some sb, true, ⟨true, .mp c1, []⟩⟩, ⟨wb1, true, ⟨true, 121, cs1⟩⟩, ⟨ot9, true, ⟨true, 5, (fileL (setN fs0 (dst % 16) (mkN 0 (dst % 16) (unL false (pkL false (bsR fs0 (src % 16) (nn % (17 - max (src % 16) (dst % 16)))))) (nn % (17 - max (src % 16) (dst % 16)))) (nn % (17 - max (src % 16) (dst % 16))))).map (Value.int .u8)⟩⟩, ⟨ob1, true, ⟨true, 5, (fileL fs1).map (Value.int .u8)⟩⟩, ⟨some ux, true, zU ⟨#[83, 48]⟩ 0 dvx kx pgx tbx qx (.slice (some ⟨pex, 0, none⟩) 1 1) 1 0 ct9⟩, ⟨some dvx, true, zD sx 0⟩, ⟨some sx, true, zS w (⟨#[97]⟩ ++ ⟨#[46, 100]⟩) 16⟩, ⟨some pgx, true, zG⟩, ⟨some tbx, true, zT⟩, ⟨some qx, true, ⟨true, 154, [accV o0x 0 1, accV o1x 0 1, accV o2x 0 1, accV o3x 0 1, accV o4x 0 1, accV o5x 0 1, accV o6x 0 1, accV o7x 0 1]⟩⟩, ⟨o0x, true, ⟨true, 23, []⟩⟩, ⟨o1x, true, ⟨true, 23, []⟩⟩, ⟨some pex, true, ⟨true, 27, [zP uy]⟩⟩, ⟨some uy, true, zU ⟨#[83, 49]⟩ 1 dvy ky pgy tby qy (.slice (some ⟨pey, 0, none⟩) 1 1) 1 0 ct1⟩, ⟨some dvy, true, zD sy 1⟩, ⟨some sy, true, zS w (⟨#[98]⟩ ++ ⟨#[46, 100]⟩) 16⟩, ⟨some pgy, true, zG⟩, ⟨some tby, true, zT⟩, ⟨some qy, true, ⟨true, 154, [accV o0y 0 1, accV o1y 0 1, accV o2y 0 1, accV o3y 0 1, accV o4y 0 1, accV o5y 0 1, accV o6y 0 1, accV o7y 0 1]⟩⟩, ⟨o0y, true, ⟨true, 23, []⟩⟩, ⟨o1y, true, ⟨true, 23, []⟩⟩, ⟨some pey, true, ⟨true, 27, [zP ux]⟩⟩, ⟨some b3, true, ⟨true, 51, [zP ux, zP uy]⟩⟩, ⟨some b4, true, ⟨true, 54, ((cpL ws0 ws0 (src % 16) (dst % 16) j) ++ ws1).map (Value.int .u8)⟩⟩, ⟨some b15, true, ⟨true, 53, ws0.map (Value.int .u8)⟩⟩]) ((nn % (17 - max (src % 16) (dst % 16))) - 0) ⟨0, rfl, Nat.zero_le _, rfl, (st.sel [1, 2, 3, 4, 11, 5, 12, 13, 14, 15, 16, 17, 18, 19, 20, 21, 22, 23, 24, 25, 26, 27, 28, 29, 30, 0] (by decide))⟩ [16, 126, 127, 128, 129, 130, 131, 132, 133, 134, 135, 136, 137, 138, 139, 140, 141] (by decide) ?_ | refine AW_loopN (fun m t1 H1 => ∃ (j : Nat), m = (nn % (17 - max (src % 16) (dst % 16))) - j ∧ (j ≤ (nn % (17 - max (src % 16) (dst % 16)))) ∧ t1 16 = .int .i64 (j : Int) ∧ Stt [] H H1 [⟨some w, true, zW sb db (accV wb1 nw1 5) ops1 (-1)⟩, ⟨some sb, true, ⟨true, .mp c1, []⟩⟩, ⟨wb1, true, ⟨true, 121, cs1⟩⟩, ⟨ot9, true, ⟨true, 5, (fileL (setN fs0 (dst % 16) (mkN 0 (dst % 16) (unL false (pkL false (bsR fs0 (src % 16) (nn % (17 - max (src % 16) (dst % 16)))))) (nn % (17 - max (src % 16) (dst % 16)))) (nn % (17 - max (src % 16) (dst % 16))))).map (Value.int .u8)⟩⟩, ⟨ob1, true, ⟨true, 5, (fileL fs1).map (Value.int .u8)⟩⟩, ⟨some ux, true, zU ⟨#[83, 48]⟩ 0 dvx kx pgx tbx qx (.slice (some ⟨pex, 0, none⟩) 1 1) 1 0 ct0⟩, ⟨some dvx, true, zD sx 0⟩, ⟨some sx, true, zS w (⟨#[97]⟩ ++ ⟨#[46, 100]⟩) 16⟩, ⟨some pgx, true, zG⟩, ⟨some tbx, true, zT⟩, ⟨some qx, true, ⟨true, 154, [accV o0x 0 1, accV o1x 0 1, accV o2x 0 1, accV o3x 0 1, accV o4x 0 1, accV o5x 0 1, accV o6x 0 1, accV o7x 0 1]⟩⟩, ⟨o0x, true, ⟨true, 23, []⟩⟩, ⟨o1x, true, ⟨true, 23, []⟩⟩, ⟨some pex, true, ⟨true, 27, [zP uy]⟩⟩, ⟨some uy, true, zU ⟨#[83, 49]⟩ 1 dvy ky pgy tby qy (.slice (some ⟨pey, 0, none⟩) 1 1) 1 0 ct9⟩, ⟨some dvy, true, zD sy 1⟩, ⟨some sy, true, zS w (⟨#[98]⟩ ++ ⟨#[46, 100]⟩) 16⟩, ⟨some pgy, true, zG⟩, ⟨some tby, true, zT⟩, ⟨some qy, true, ⟨true, 154, [accV o0y 0 1, accV o1y 0 1, accV o2y 0 1, accV o3y 0 1, accV o4y 0 1, accV o5y 0 1, accV o6y 0 1, accV o7y 0 1]⟩⟩, ⟨o0y, true, ⟨true, 23, []⟩⟩, ⟨o1y, true, ⟨true, 23, []⟩⟩, ⟨some pey, true, ⟨true, 27, [zP ux]⟩⟩, ⟨some b3, true, ⟨true, 51, [zP ux, zP uy]⟩⟩, ⟨some b4, true, ⟨true, 54, ((cpL ws0 ws0 (src % 16) (dst % 16) j) ++ ws1).map (Value.int .u8)⟩⟩, ⟨some b15, true, ⟨true, 53, ws0.map (Value.int .u8)⟩⟩]) ((nn % (17 - max (src % 16) (dst % 16))) - 0) ⟨0, rfl, Nat.zero_le _, rfl, (st.sel [1, 2, 3, 4, 11, 12, 13, 14, 15, 16, 17, 18, 19, 20, 5, 21, 22, 23, 24, 25, 26, 27, 28, 29, 30, 0] (by decide))⟩ [16, 126, 127, 128, 129, 130, 131, 132, 133, 134, 135, 136, 137, 138, 139, 140, 141] (by decide) ?_
       rintro m t1 H1 hk hI
       obtain ⟨j, rfl, hj, ht16, st⟩ := hI
       obtain ⟨u, rfl⟩ : ∃ u, t1 = (upd (mix [16, 126, 127, 128, 129, 130, 131, 132, 133, 134, 135, 136, 137, 138, 139, 140, 141] _ u) (some 16) _) := ⟨t1, by rw [← hk, upd_self ht16]⟩
       clear hk ht16
       refine zw ?_
       iterate 3 refine zm ?_
       show AW _ (.cond _ _ _) _ _ _
       refine cC' rfl (fun h72 => ?_) (fun h72 => ?_)
       ·have h72q := h72; try simp only [zq] at h72q
        have hjlt : j < (nn % (17 - max (src % 16) (dst % 16))) := by have := of_decide_eq_true h72; omega
        show AWp _ _ _ _ _
        iterate 3 refine zm ?_
        refine aBinV (.int .i64 ((dst % 16 + j : Nat) : Int)) rfl rfl (addI (by omega) (by omega)) ?_
        iterate 2 refine zm ?_
        refine aBinV (.int .i64 ((src % 16 + j : Nat) : Int)) rfl rfl (addI (by omega) (by omega)) ?_
        refine aIxAV (q := src % 16 + j) rfl rfl (by omega) (by omega) ?_
        refine aLd (v := .int .u8 (ws0.getD (src % 16 + j) 0)) st 25 rfl rfl (map_at' (by rw [hH0.2.2.1]; omega)) (by constructor) ?_
        refine aN (v := zP b4) rfl rfl (by constructor) ?_
        refine aIxAV (q := 0 + (dst % 16 + j)) rfl rfl (by omega) (by omega) ?_
        refine ⟨?_, trivial⟩
        refine aStAt (cs := ((cpL ws0 ws0 (src % 16) (dst % 16) (j + 1)) ++ ws1).map (Value.int .u8)) st 24 rfl rfl rfl rfl rfl (by simp [cpL_len, hH0.2.2.1, hH1.2.2.1]; omega) (want_set0 (by rw [cpL_len]; exact hH0.2.2.1) (by omega)) fun H73 st => ?_
        refine ⟨trivial, ?_⟩
        refine zw ?_
        refine zm ?_
        refine aBinV (.int .i64 ((j + 1 : Nat) : Int)) rfl rfl (addI (by omega) (by omega)) ?_
        refine zm ?_
        refine sE ?_
        exact ⟨_, by omega, (j + 1), rfl, by omega, rfl, (st.sel [0, 1, 2, 3, 4, 5, 6, 7, 8, 9, 10, 11, 12, 13, 14, 15, 16, 17, 18, 19, 20, 21, 22, 23, 24, 25] (by decide))⟩
       ·have h72q := h72; try simp only [zq] at h72q
        have hjge : j = (nn % (17 - max (src % 16) (dst % 16))) := by have := of_decide_eq_false h72; omega
        subst hjge
        refine zw ?_
        refine zm ?_
        refine aBinV (.int .i64 ((i + 1 : Nat) : Int)) rfl rfl (addI (by omega) (by omega)) ?_
        refine zm ?_
        refine sE ?_
        exact ⟨_, (by show xs.length - (i + 1) < xs.length - i; omega), (i + 1), nw1, _, _, _, wb1, ot9, ob1, c1, cs1, _, _, _, _, rfl, ⟨by omega, by omega⟩, hcs1, by omega, ⟨by omega, by omega⟩, hF9, (hF1.other hO9 (by decide)), (hH0.copy hH0 hs9 hd9), hH1, rfl, st.sel [0, 1, 2, 3, 4, 5, 6, 7, 8, 9, 10, 11, 12, 13, 14, 15, 16, 17, 18, 19, 20, 21, 22, 23, 24] (by decide)⟩
     ·have h61q := h61; try simp only [zq] at h61q
      have hn9 : (nn % (17 - max (src % 16) (dst % 16))) ≤ 16 := by have := Nat.mod_lt nn (show 17 - (max (src % 16) (dst % 16)) > 0 by omega); omega
      have hs9 : src % 16 + (nn % (17 - max (src % 16) (dst % 16))) ≤ 16 := by have := Nat.mod_lt nn (show 17 - (max (src % 16) (dst % 16)) > 0 by omega); omega
      have hd9 : dst % 16 + (nn % (17 - max (src % 16) (dst % 16))) ≤ 16 := by have := Nat.mod_lt nn (show 17 - (max (src % 16) (dst % 16)) > 0 by omega); omega
      refine zw ?_
      refine aLit st rfl (by repeat constructor) fun b86 H80 st => ?_
      iterate 4 refine zm ?_
      refine aConvV (n := ((src % 16 : Nat) : Int)) (n' := ((src % 16 : Nat) : Int)) rfl (by rw [w64]; omega) ?_
      refine zm ?_
      refine aConvV (n := ((dst % 16 : Nat) : Int)) (n' := ((dst % 16 : Nat) : Int)) rfl (by rw [w64]; omega) ?_
      refine aBld rfl (by repeat constructor) ?_
      refine aLit st rfl (by repeat constructor) fun b95 H81 st => ?_
      refine aBld rfl (by repeat constructor) ?_
      refine aC (xbytes_call (f := 0) (t := 1) (n := (nn % (17 - max (src % 16) (dst % 16)))) (sr := src % 16) (ds := dst % 16) (zM st [] [1, 0]) (by decide) (by decide) (by omega) (by omega) (by omega)) fun v97 H82 ⟨pb, hv, st1⟩ => ?_
      subst hv
      replace st := st.call st1 rfl
      clear st1
      iterate 5 refine zm ?_
      refine zw ?_
      refine aNewS st rfl rfl (by repeat constructor) fun b100 H83 st => ?_
      refine zm ?_
      refine zw ?_
      iterate 2 refine zm ?_
      refine zx st 0 fun H84 st => ?_
      refine zw ?_
      iterate 2 refine zm ?_
      refine aN (v := .int .i64 108) rfl rfl (by constructor) ?_
      refine aConvV (n := 108) (n' := 108) rfl (by decide) ?_
      refine zm ?_
      refine zx st 0 fun H85 st => ?_
      refine zw ?_
      refine zm ?_
      refine zb (.bool false) ?_
      refine zm ?_
      refine zg ?_
      refine zm ?_
      refine zg ?_
      refine zl st 4 ?_
      refine zg ?_
      refine aConvV (n := (fill : Int)) (n' := (fill : Int)) rfl (wi _ (by omega)) ?_
      refine zg ?_
      rcases Nat.mod_two_eq_zero_or_one fill with hm2 | hm2
      all_goals
       first | refine aBinV (.int .i64 0) rfl rfl (by have h9 := remN (tk := 5) (k := .i64) (n := fill) (m := 2) (by decide); rw [hm2] at h9; exact h9) ?_ | refine aBinV (.int .i64 1) rfl rfl (by have h9 := remN (tk := 5) (k := .i64) (n := fill) (m := 2) (by decide); rw [hm2] at h9; exact h9) ?_
       refine zg ?_
       first | refine aN (v := zP b3) rfl rfl (by constructor) ?_ | refine aN (v := .pointer (some ⟨b3, 1, none⟩)) rfl rfl (by constructor) ?_
       refine zg ?_
       refine zl st 28 ?_
       refine zg ?_
       refine zm ?_
       refine zg ?_
       refine zm ?_
       refine zg ?_
       first | refine aC (do_copy_all.2.1 (n := (nn % (17 - max (src % 16) (dst % 16)))) (sr := src % 16) (ds := dst % 16) (zN st [5, 6, 7, 9, 10] [8, 12, 21, 11, 20, 19, 18, 14, 23, 13, 22, 1, 15, 17, 0]) (by decide) (by decide) (by decide) (by decide) hcs (by omega) hF0 hH0.1 hH0.2.1 hF1 hH1.1 hH1.2.1 hn9 hs9 hd9 (by omega) (by omega) ⟨by omega, by omega⟩ (by decide) (hH0.good hs9) rfl rfl) fun v119 H86 ⟨wb1, ot9, c1, cs1, nw1, ops1, ct9, hv, hcs1, hnw1, hops1, hF9, hO9, st1⟩ => ?_ | refine aC (do_copy_all.2.2.2.2.2.1 (n := (nn % (17 - max (src % 16) (dst % 16)))) (sr := src % 16) (ds := dst % 16) (zN st [5, 6, 7, 9, 19] [8, 12, 21, 11, 20, 10, 27, 14, 23, 13, 22, 1, 24, 26, 0]) (by decide) (by decide) (by decide) (by decide) hcs (by omega) hF0 hH0.1 hH0.2.1 hF1 hH1.1 hH1.2.1 hn9 hs9 hd9 (by omega) (by omega) ⟨by omega, by omega⟩ (by decide) (hH0.good hs9) rfl rfl) fun v119 H92 ⟨wb1, ot9, c1, cs1, nw1, ops1, ct9, hv, hcs1, hnw1, hops1, hF9, hO9, st1⟩ => ?_
       subst hv
       first | replace st := st.call5 (o1 := some w) (o2 := some sb) (o3 := wb) (o4 := ob1) (o5 := some ux) 5 5 5 6 6 rfl rfl rfl rfl rfl st1 rfl | replace st := st.call5 (o1 := some w) (o2 := some sb) (o3 := wb) (o4 := ob1) (o5 := some uy) 5 5 5 6 15 rfl rfl rfl rfl rfl st1 rfl
       clear st1
       have st := st.nf (by repeat constructor)
       refine zg ?_
       refine aC (tgood0) fun v120 H87 ⟨hv, st1⟩ => ?_
       subst hv
       replace st := st.call st1 rfl
       clear st1
       refine zg ?_
       iterate 2 refine zm ?_
       refine zf ?_
       refine zw ?_
       refine zm ?_
       refine aN (v := zP b4) rfl rfl (by constructor) ?_
       refine aLdA (xs := ws0.map (Value.int .u8)) st 29 rfl rfl (by simp [hH0.2.2.1, hH1.2.2.1]) (by rw [want_all0 hH0.2.2.1]; exact .any _) ?_
       refine zp st fun b15 H88 st => ?_
       refine aStAllA st 0 rfl rfl rfl (by simp [hH0.2.2.1]) (rfl) fun H89 st => ?_
       refine zw ?_
       refine zm ?_
       refine sE ?_
       show AW _ (.loop _) _ _ _
       first | refine AW_loopN (fun m t1 H1 => ∃ (j : Nat), m = (nn % (17 - max (src % 16) (dst % 16))) - j ∧ (j ≤ (nn % (17 - max (src % 16) (dst % 16)))) ∧ t1 16 = .int .i64 (j : Int) ∧ Stt [] H H1 [⟨some w, true, zW sb db (accV wb1 nw1 5) ops1 (-1)⟩, ⟨some sb, true, ⟨true, .mp c1, []⟩⟩, ⟨wb1, true, ⟨true, 121, cs1⟩⟩, ⟨ob0, true, ⟨true, 5, (fileL fs0).map (Value.int .u8)⟩⟩, ⟨ot9, true, ⟨true, 5, (fileL (setN fs1 (dst % 16) (mkN 1 (dst % 16) (unL false (pkL false (bsR fs0 (src % 16) (nn % (17 - max (src % 16) (dst % 16)))))) (nn % (17 - max (src % 16) (dst % 16)))) (nn % (17 - max (src % 16) (dst % 16))))).map (Value.int .u8)⟩⟩, ⟨some ux, true, zU ⟨#[83, 48]⟩ 0 dvx kx pgx tbx qx (.slice (some ⟨pex, 0, none⟩) 1 1) 1 0 ct9⟩, ⟨some dvx, true, zD sx 0⟩, ⟨some sx, true, zS w (⟨#[97]⟩ ++ ⟨#[46, 100]⟩) 16⟩, ⟨some pgx, true, zG⟩, ⟨some tbx, true, zT⟩, ⟨some qx, true, ⟨true, 154, [accV o0x 0 1, accV o1x 0 1, accV o2x 0 1, accV o3x 0 1, accV o4x 0 1, accV o5x 0 1, accV o6x 0 1, accV o7x 0 1]⟩⟩, ⟨o0x, true, ⟨true, 23, []⟩⟩, ⟨o1x, true, ⟨true, 23, []⟩⟩, ⟨some pex, true, ⟨true, 27, [zP uy]⟩⟩, ⟨some uy, true, zU ⟨#[83, 49]⟩ 1 dvy ky pgy tby qy (.slice (some ⟨pey, 0, none⟩) 1 1) 1 0 ct1⟩, ⟨some dvy, true, zD sy 1⟩, ⟨some sy, true, zS w (⟨#[98]⟩ ++ ⟨#[46, 100]⟩) 16⟩, ⟨some pgy, true, zG⟩, ⟨some tby, true, zT⟩, ⟨some qy, true, ⟨true, 154, [accV o0y 0 1, accV o1y 0 1, accV o2y 0 1, accV o3y 0 1, accV o4y 0 1, accV o5y 0 1, accV o6y 0 1, accV o7y 0 1]⟩⟩, ⟨o0y, true, ⟨true, 23, []⟩⟩, ⟨o1y, true, ⟨true, 23, []⟩⟩, ⟨some pey, true, ⟨true, 27, [zP ux]⟩⟩, ⟨some b3, true, ⟨true, 51, [zP ux, zP uy]⟩⟩, ⟨some b4, true, ⟨true, 54, (ws0 ++ (cpL ws1 ws0 (src % 16) (dst % 16) j)).map (Value.int .u8)⟩⟩, ⟨some b15, true, ⟨true, 53, ws0.map (Value.int .u8)⟩⟩]) ((nn % (17 - max (src % 16) (dst % 16))) - 0) ⟨0, rfl, Nat.zero_le _, rfl, (st.sel [1, 2, 3, 11, 4, 5, 12, 13, 14, 15, 16, 17, 18, 19, 20, 21, 22, 23, 24, 25, 26, 27, 28, 29, 30, 0] (by decide))⟩ [16, 126, 127, 128, 129, 130, 131, 132, 133, 134, 135, 136, 137, 138, 139, 140, 141] (by decide) ?_ | refine AW_loopN (fun m t1 H1 => ∃ (j : Nat), m = (nn % (17 - max (src % 16) (dst % 16))) - j ∧ (j ≤ (nn % (17 - max (src % 16) (dst % 16)))) ∧ t1 16 = .int .i64 (j : Int) ∧ Stt [] H H1 [⟨some w, true, zW sb db (accV wb1 nw1 5) ops1 (-1)⟩, ⟨some sb, true, ⟨true, .mp c1, []⟩⟩, ⟨wb1, true, ⟨true, 121, cs1⟩⟩, ⟨ob0, true, ⟨true, 5, (fileL fs0).map (Value.int .u8)⟩⟩, ⟨ot9, true, ⟨true, 5, (fileL (setN fs1 (dst % 16) (mkN 1 (dst % 16) (unL false (pkL false (bsR fs0 (src % 16) (nn % (17 - max (src % 16) (dst % 16)))))) (nn % (17 - max (src % 16) (dst % 16)))) (nn % (17 - max (src % 16) (dst % 16))))).map (Value.int .u8)⟩⟩, ⟨some ux, true, zU ⟨#[83, 48]⟩ 0 dvx kx pgx tbx qx (.slice (some ⟨pex, 0, none⟩) 1 1) 1 0 ct0⟩, ⟨some dvx, true, zD sx 0⟩, ⟨some sx, true, zS w (⟨#[97]⟩ ++ ⟨#[46, 100]⟩) 16⟩, ⟨some pgx, true, zG⟩, ⟨some tbx, true, zT⟩, ⟨some qx, true, ⟨true, 154, [accV o0x 0 1, accV o1x 0 1, accV o2x 0 1, accV o3x 0 1, accV o4x 0 1, accV o5x 0 1, accV o6x 0 1, accV o7x 0 1]⟩⟩, ⟨o0x, true, ⟨true, 23, []⟩⟩, ⟨o1x, true, ⟨true, 23, []⟩⟩, ⟨some pex, true, ⟨true, 27, [zP uy]⟩⟩, ⟨some uy, true, zU ⟨#[83, 49]⟩ 1 dvy ky pgy tby qy (.slice (some ⟨pey, 0, none⟩) 1 1) 1 0 ct9⟩, ⟨some dvy, true, zD sy 1⟩, ⟨some sy, true, zS w (⟨#[98]⟩ ++ ⟨#[46, 100]⟩) 16⟩, ⟨some pgy, true, zG⟩, ⟨some tby, true, zT⟩, ⟨some qy, true, ⟨true, 154, [accV o0y 0 1, accV o1y 0 1, accV o2y 0 1, accV o3y 0 1, accV o4y 0 1, accV o5y 0 1, accV o6y 0 1, accV o7y 0 1]⟩⟩, ⟨o0y, true, ⟨true, 23, []⟩⟩, ⟨o1y, true, ⟨true, 23, []⟩⟩, ⟨some pey, true, ⟨true, 27, [zP ux]⟩⟩, ⟨some b3, true, ⟨true, 51, [zP ux, zP uy]⟩⟩, ⟨some b4, true, ⟨true, 54, (ws0 ++ (cpL ws1 ws0 (src % 16) (dst % 16) j)).map (Value.int .u8)⟩⟩, ⟨some b15, true, ⟨true, 53, ws0.map (Value.int .u8)⟩⟩]) ((nn % (17 - max (src % 16) (dst % 16))) - 0) ⟨0, rfl, Nat.zero_le _, rfl, (st.sel [1, 2, 3, 11, 4, 12, 13, 14, 15, 16, 17, 18, 19, 20, 5, 21, 22, 23, 24, 25, 26, 27, 28, 29, 30, 0] (by decide))⟩ [16, 126, 127, 128, 129, 130, 131, 132, 133, 134, 135, 136, 137, 138, 139, 140, 141] (by decide) ?_
       rintro m t1 H1 hk hI
       obtain ⟨j, rfl, hj, ht16, st⟩ := hI
       obtain ⟨u, rfl⟩ : ∃ u, t1 = (upd (mix [16, 126, 127, 128, 129, 130, 131, 132, 133, 134, 135, 136, 137, 138, 139, 140, 141] _ u) (some 16) _) := ⟨t1, by rw [← hk, upd_self ht16]⟩
       clear hk ht16
       refine zw ?_
       iterate 3 refine zm ?_
       show AW _ (.cond _ _ _) _ _ _
       refine cC' rfl (fun h90 => ?_) (fun h90 => ?_)
       ·have h90q := h90; try simp only [zq] at h90q
        have hjlt : j < (nn % (17 - max (src % 16) (dst % 16))) := by have := of_decide_eq_true h90; omega
        show AWp _ _ _ _ _
        iterate 3 refine zm ?_
        refine aBinV (.int .i64 ((dst % 16 + j : Nat) : Int)) rfl rfl (addI (by omega) (by omega)) ?_
        iterate 2 refine zm ?_
        refine aBinV (.int .i64 ((src % 16 + j : Nat) : Int)) rfl rfl (addI (by omega) (by omega)) ?_
        refine aIxAV (q := src % 16 + j) rfl rfl (by omega) (by omega) ?_
        refine aLd (v := .int .u8 (ws0.getD (src % 16 + j) 0)) st 25 rfl rfl (map_at' (by rw [hH0.2.2.1]; omega)) (by constructor) ?_
        refine aN (v := .pointer (some ⟨b4, 16, none⟩)) rfl rfl (by constructor) ?_
        refine aIxAV (q := 16 + (dst % 16 + j)) rfl rfl (by omega) (by omega) ?_
        refine ⟨?_, trivial⟩
        refine aStAt (cs := (ws0 ++ (cpL ws1 ws0 (src % 16) (dst % 16) (j + 1))).map (Value.int .u8)) st 24 rfl rfl rfl rfl rfl (by simp [cpL_len, hH0.2.2.1, hH1.2.2.1]; omega) (want_set1 hH0.2.2.1) fun H91 st => ?_
        refine ⟨trivial, ?_⟩
        refine zw ?_
        refine zm ?_
        refine aBinV (.int .i64 ((j + 1 : Nat) : Int)) rfl rfl (addI (by omega) (by omega)) ?_
        refine zm ?_
        refine sE ?_
        exact ⟨_, by omega, (j + 1), rfl, by omega, rfl, (st.sel [0, 1, 2, 3, 4, 5, 6, 7, 8, 9, 10, 11, 12, 13, 14, 15, 16, 17, 18, 19, 20, 21, 22, 23, 24, 25] (by decide))⟩
       ·have h90q := h90; try simp only [zq] at h90q
        have hjge : j = (nn % (17 - max (src % 16) (dst % 16))) := by have := of_decide_eq_false h90; omega
        subst hjge
        refine zw ?_
        refine zm ?_
        refine aBinV (.int .i64 ((i + 1 : Nat) : Int)) rfl rfl (addI (by omega) (by omega)) ?_
        refine zm ?_
        refine sE ?_
        exact ⟨_, (by show xs.length - (i + 1) < xs.length - i; omega), (i + 1), nw1, _, _, _, wb1, ob0, ot9, c1, cs1, _, _, _, _, rfl, ⟨by omega, by omega⟩, hcs1, by omega, ⟨by omega, by omega⟩, (hF0.other hO9 (by decide)), hF9, hH0, (hH1.copy hH0 hs9 hd9), rfl, st.sel [0, 1, 2, 3, 4, 5, 6, 7, 8, 9, 10, 11, 12, 13, 14, 15, 16, 17, 18, 19, 20, 21, 22, 23, 24] (by decide)⟩
  ·have h8q := h8; try simp only [zq] at h8q
   refine zw ?_
   refine zm ?_
   refine sE ?_
   show AW _ (.loop _) _ _ _
   refine AW_fuel 3 ?_
   show AW _ _ _ _ _
   refine zw ?_
   refine zm ?_
   refine zb (.bool true) ?_
   show AW _ (.cond _ _ _) _ _ _
   refine cT rfl ?_
   refine zw ?_
   refine zm ?_
   refine sE ?_
   show AW _ (.loop _) _ _ _
   refine AW_loopN (fun m t1 H1 => ∃ (ops2 ctA ctB : Int) (r : Nat), m = 16 - r ∧ (r ≤ 16) ∧ (0 ≤ ops2 ∧ ops2 ≤ 2000 + 16 * 0 + (r : Int)) ∧ t1 18 = .int .i64 (r : Int) ∧ Stt [] H H1 [⟨some w, true, zW sb db (accV wb nw 5) ops2 (-1)⟩, ⟨some sb, true, ⟨true, .mp c, []⟩⟩, ⟨wb, true, ⟨true, 121, cs⟩⟩, ⟨ob0, true, ⟨true, 5, (fileL fs0).map (Value.int .u8)⟩⟩, ⟨ob1, true, ⟨true, 5, (fileL fs1).map (Value.int .u8)⟩⟩, ⟨some ux, true, zU ⟨#[83, 48]⟩ 0 dvx kx pgx tbx qx (.slice (some ⟨pex, 0, none⟩) 1 1) 1 0 ctA⟩, ⟨some dvx, true, zD sx 0⟩, ⟨some sx, true, zS w (⟨#[97]⟩ ++ ⟨#[46, 100]⟩) 16⟩, ⟨some pgx, true, zG⟩, ⟨some tbx, true, zT⟩, ⟨some qx, true, ⟨true, 154, [accV o0x 0 1, accV o1x 0 1, accV o2x 0 1, accV o3x 0 1, accV o4x 0 1, accV o5x 0 1, accV o6x 0 1, accV o7x 0 1]⟩⟩, ⟨o0x, true, ⟨true, 23, []⟩⟩, ⟨o1x, true, ⟨true, 23, []⟩⟩, ⟨some pex, true, ⟨true, 27, [zP uy]⟩⟩, ⟨some uy, true, zU ⟨#[83, 49]⟩ 1 dvy ky pgy tby qy (.slice (some ⟨pey, 0, none⟩) 1 1) 1 0 ctB⟩, ⟨some dvy, true, zD sy 1⟩, ⟨some sy, true, zS w (⟨#[98]⟩ ++ ⟨#[46, 100]⟩) 16⟩, ⟨some pgy, true, zG⟩, ⟨some tby, true, zT⟩, ⟨some qy, true, ⟨true, 154, [accV o0y 0 1, accV o1y 0 1, accV o2y 0 1, accV o3y 0 1, accV o4y 0 1, accV o5y 0 1, accV o6y 0 1, accV o7y 0 1]⟩⟩, ⟨o0y, true, ⟨true, 23, []⟩⟩, ⟨o1y, true, ⟨true, 23, []⟩⟩, ⟨some pey, true, ⟨true, 27, [zP ux]⟩⟩, ⟨some b3, true, ⟨true, 51, [zP ux, zP uy]⟩⟩, ⟨some b4, true, ⟨true, 54, (ws0 ++ ws1).map (Value.int .u8)⟩⟩]) (16 - 0) ⟨ops, ct0, ct1, 0, rfl, Nat.zero_le _, ⟨by omega, by omega⟩, rfl, (st.sel [0, 1, 2, 3, 4, 5, 6, 7, 8, 9, 10, 11, 12, 13, 14, 15, 16, 17, 18, 19, 20, 21, 22, 23, 24] (by decide))⟩ [2, 18, 19, 20, 146, 147, 148, 149, 150, 151, 152, 153, 154, 155, 156, 157, 158, 159, 160, 161, 162, 163, 164, 165, 166, 167, 168, 169, 170] (by decide) ?_
   rintro m t1 H1 hk hI
   obtain ⟨ops2, ctA, ctB, r, rfl, hr, hop2, ht18, st⟩ := hI
   obtain ⟨u, rfl⟩ : ∃ u, t1 = (upd (mix [2, 18, 19, 20, 146, 147, 148, 149, 150, 151, 152, 153, 154, 155, 156, 157, 158, 159, 160, 161, 162, 163, 164, 165, 166, 167, 168, 169, 170] _ u) (some 18) _) := ⟨t1, by rw [← hk, upd_self ht18]⟩
   clear hk ht18
   refine zw ?_
   iterate 2 refine zm ?_
   show AW _ (.cond _ _ _) _ _ _
   refine cC' rfl (fun h98 => ?_) (fun h98 => ?_)
   ·have h98q := h98; try simp only [zq] at h98q
    have hilt : r < 16 := by have := of_decide_eq_true h98; omega
    refine zw ?_
    refine zm ?_
    refine aN (v := zP b3) rfl rfl (by constructor) ?_
    refine zl st 23 ?_
    refine zm ?_
    refine aC (tblock_all.1 (lba := r) (nb := 16) (zN st [0, 5] [1, 3, 7, 6, 10, 11, 9, 8]) (by decide) (by decide) hF0 hH0.1 (by decide) (by omega) (by have := hH0.2.1; omega) ⟨by omega, by omega⟩ (by decide) (hH0.good (by omega)) rfl rfl) fun v155 H99 ⟨ct9, hv, st1⟩ => ?_
    rw [hH0.read hilt] at hv
    subst hv
    replace st := st.call2 (o1 := some w) (o2 := some ux) 0 4 rfl rfl st1 rfl
    clear st1
    iterate 5 refine zm ?_
    refine zw ?_
    iterate 3 refine zm ?_
    refine zg ?_
    refine zm ?_
    refine zg ?_
    refine zm ?_
    refine zg ?_
    refine zm ?_
    refine zg ?_
    refine aN (v := zP b4) rfl rfl (by constructor) ?_
    refine zg ?_
    refine aIxAV (q := 0 + r) rfl rfl (by omega) (by omega) ?_
    refine zg ?_
    refine aLd (v := .int .u8 (ws0.getD r 0)) st 24 rfl rfl (want_get0 hH0.2.2.1 hilt) (by constructor) ?_
    refine zg ?_
    refine aC (six_call (fill := (ws0.getD r 0))) fun v167 H100 ⟨xb, hv, st1⟩ => ?_
    subst hv
    replace st := st.call st1 rfl
    clear st1
    refine zg ?_
    refine aTextV (n := 16) (xs := List.replicate 16 (ws0.getD r 0)) (ys := ofInts (List.replicate 16 (ws0.getD r 0))) (st.rowAll 0 rfl (by simp)) rfl rfl ?_
    refine zg ?_
    refine aBinV (.bool false) rfl rfl (strNeF rfl) ?_
    refine zm ?_
    refine zf ?_
    refine zw ?_
    refine zm ?_
    refine aBinV (.int .i64 ((r + 1 : Nat) : Int)) rfl rfl (addI (by omega) (by omega)) ?_
    refine zm ?_
    refine sE ?_
    exact ⟨_, by omega, _, _, _, (r + 1), rfl, by omega, ⟨by omega, by omega⟩, rfl, (st.sel [1, 3, 4, 5, 6, 2, 7, 8, 9, 10, 11, 12, 13, 14, 15, 16, 17, 18, 19, 20, 21, 22, 23, 24, 25] (by decide))⟩
   ·have h98q := h98; try simp only [zq] at h98q
    have hige : r = 16 := by have := of_decide_eq_false h98; omega
    subst hige
    refine zw ?_
    refine zm ?_
    refine zb (.int .i64 1) ?_
    refine zm ?_
    refine sE ?_
    show AW _ _ _ _ _
    refine zw ?_
    refine zm ?_
    refine zb (.bool true) ?_
    show AW _ (.cond _ _ _) _ _ _
    refine cT rfl ?_
    refine zw ?_
    refine zm ?_
    refine sE ?_
    show AW _ (.loop _) _ _ _
    refine AW_loopN (fun m t1 H1 => ∃ (ops2 ctA ctB : Int) (r : Nat), m = 16 - r ∧ (r ≤ 16) ∧ (0 ≤ ops2 ∧ ops2 ≤ 2000 + 16 * 1 + (r : Int)) ∧ t1 18 = .int .i64 (r : Int) ∧ Stt [] H H1 [⟨some w, true, zW sb db (accV wb nw 5) ops2 (-1)⟩, ⟨some sb, true, ⟨true, .mp c, []⟩⟩, ⟨wb, true, ⟨true, 121, cs⟩⟩, ⟨ob0, true, ⟨true, 5, (fileL fs0).map (Value.int .u8)⟩⟩, ⟨ob1, true, ⟨true, 5, (fileL fs1).map (Value.int .u8)⟩⟩, ⟨some ux, true, zU ⟨#[83, 48]⟩ 0 dvx kx pgx tbx qx (.slice (some ⟨pex, 0, none⟩) 1 1) 1 0 ctA⟩, ⟨some dvx, true, zD sx 0⟩, ⟨some sx, true, zS w (⟨#[97]⟩ ++ ⟨#[46, 100]⟩) 16⟩, ⟨some pgx, true, zG⟩, ⟨some tbx, true, zT⟩, ⟨some qx, true, ⟨true, 154, [accV o0x 0 1, accV o1x 0 1, accV o2x 0 1, accV o3x 0 1, accV o4x 0 1, accV o5x 0 1, accV o6x 0 1, accV o7x 0 1]⟩⟩, ⟨o0x, true, ⟨true, 23, []⟩⟩, ⟨o1x, true, ⟨true, 23, []⟩⟩, ⟨some pex, true, ⟨true, 27, [zP uy]⟩⟩, ⟨some uy, true, zU ⟨#[83, 49]⟩ 1 dvy ky pgy tby qy (.slice (some ⟨pey, 0, none⟩) 1 1) 1 0 ctB⟩, ⟨some dvy, true, zD sy 1⟩, ⟨some sy, true, zS w (⟨#[98]⟩ ++ ⟨#[46, 100]⟩) 16⟩, ⟨some pgy, true, zG⟩, ⟨some tby, true, zT⟩, ⟨some qy, true, ⟨true, 154, [accV o0y 0 1, accV o1y 0 1, accV o2y 0 1, accV o3y 0 1, accV o4y 0 1, accV o5y 0 1, accV o6y 0 1, accV o7y 0 1]⟩⟩, ⟨o0y, true, ⟨true, 23, []⟩⟩, ⟨o1y, true, ⟨true, 23, []⟩⟩, ⟨some pey, true, ⟨true, 27, [zP ux]⟩⟩, ⟨some b3, true, ⟨true, 51, [zP ux, zP uy]⟩⟩, ⟨some b4, true, ⟨true, 54, (ws0 ++ ws1).map (Value.int .u8)⟩⟩]) (16 - 0) ⟨ops2, ctA, ctB, 0, rfl, Nat.zero_le _, ⟨by omega, by omega⟩, rfl, (st.sel [0, 1, 2, 3, 4, 5, 6, 7, 8, 9, 10, 11, 12, 13, 14, 15, 16, 17, 18, 19, 20, 21, 22, 23, 24] (by decide))⟩ [2, 18, 19, 20, 146, 147, 148, 149, 150, 151, 152, 153, 154, 155, 156, 157, 158, 159, 160, 161, 162, 163, 164, 165, 166, 167, 168, 169, 170] (by decide) ?_
    rintro m t1 H1 hk hI
    obtain ⟨ops2, ctA, ctB, r, rfl, hr, hop2, ht18, st⟩ := hI
    obtain ⟨u, rfl⟩ : ∃ u, t1 = (upd (mix [2, 18, 19, 20, 146, 147, 148, 149, 150, 151, 152, 153, 154, 155, 156, 157, 158, 159, 160, 161, 162, 163, 164, 165, 166, 167, 168, 169, 170] _ u) (some 18) _) := ⟨t1, by rw [← hk, upd_self ht18]⟩
    clear hk ht18
    refine zw ?_
    iterate 2 refine zm ?_
    show AW _ (.cond _ _ _) _ _ _
    refine cC' rfl (fun h101 => ?_) (fun h101 => ?_)
    ·have h101q := h101; try simp only [zq] at h101q
     have hilt : r < 16 := by have := of_decide_eq_true h101; omega
     refine zw ?_
     refine zm ?_
     refine aN (v := .pointer (some ⟨b3, 1, none⟩)) rfl rfl (by constructor) ?_
     refine zl st 23 ?_
     refine zm ?_
     refine aC (tblock_all.2 (lba := r) (nb := 16) (zN st [0, 14] [1, 4, 16, 15, 19, 20, 18, 17]) (by decide) (by decide) hF1 hH1.1 (by decide) (by omega) (by have := hH1.2.1; omega) ⟨by omega, by omega⟩ (by decide) (hH1.good (by omega)) rfl rfl) fun v155 H102 ⟨ct9, hv, st1⟩ => ?_
     rw [hH1.read hilt] at hv
     subst hv
     replace st := st.call2 (o1 := some w) (o2 := some uy) 0 13 rfl rfl st1 rfl
     clear st1
     iterate 5 refine zm ?_
     refine zw ?_
     iterate 3 refine zm ?_
     refine zg ?_
     refine zm ?_
     refine zg ?_
     refine zm ?_
     refine zg ?_
     refine zm ?_
     refine zg ?_
     refine aN (v := .pointer (some ⟨b4, 16, none⟩)) rfl rfl (by constructor) ?_
     refine zg ?_
     refine aIxAV (q := 16 + r) rfl rfl (by omega) (by omega) ?_
     refine zg ?_
     refine aLd (v := .int .u8 (ws1.getD r 0)) st 24 rfl rfl (want_get1 hH0.2.2.1 hH1.2.2.1 hilt) (by constructor) ?_
     refine zg ?_
     refine aC (six_call (fill := (ws1.getD r 0))) fun v167 H103 ⟨xb, hv, st1⟩ => ?_
     subst hv
     replace st := st.call st1 rfl
     clear st1
     refine zg ?_
     refine aTextV (n := 16) (xs := List.replicate 16 (ws1.getD r 0)) (ys := ofInts (List.replicate 16 (ws1.getD r 0))) (st.rowAll 0 rfl (by simp)) rfl rfl ?_
     refine zg ?_
     refine aBinV (.bool false) rfl rfl (strNeF rfl) ?_
     refine zm ?_
     refine zf ?_
     refine zw ?_
     refine zm ?_
     refine aBinV (.int .i64 ((r + 1 : Nat) : Int)) rfl rfl (addI (by omega) (by omega)) ?_
     refine zm ?_
     refine sE ?_
     exact ⟨_, by omega, _, _, _, (r + 1), rfl, by omega, ⟨by omega, by omega⟩, rfl, (st.sel [1, 3, 4, 5, 6, 7, 8, 9, 10, 11, 12, 13, 14, 15, 2, 16, 17, 18, 19, 20, 21, 22, 23, 24, 25] (by decide))⟩
    ·have h101q := h101; try simp only [zq] at h101q
     have hige : r = 16 := by have := of_decide_eq_false h101; omega
     subst hige
     refine zw ?_
     refine zm ?_
     refine zb (.int .i64 2) ?_
     refine zm ?_
     refine sE ?_
     show AW _ _ _ _ _
     refine zw ?_
     refine zm ?_
     refine zb (.bool false) ?_
     refine zf ?_
     refine zw ?_
     refine zm ?_
     refine sE ?_
     refine ⟨_, out1 zr, ?_⟩
     rfl
 ·have h7q := h7; try simp only [zq] at h7q
  iterate 2 refine zk ?_
  refine zm ?_
  refine zf ?_
  refine zw ?_
  refine zm ?_
  refine sE ?_
  show AW _ (.loop _) _ _ _
  refine AW_fuel 3 ?_
  show AW _ _ _ _ _
  refine zw ?_
  refine zm ?_
  refine zb (.bool true) ?_
  show AW _ (.cond _ _ _) _ _ _
  refine cT rfl ?_
  refine zw ?_
  refine zm ?_
  refine sE ?_
  show AW _ (.loop _) _ _ _
  refine AW_loopN (fun m t1 H1 => ∃ (ops2 ctA ctB : Int) (r : Nat), m = 16 - r ∧ (r ≤ 16) ∧ (0 ≤ ops2 ∧ ops2 ≤ 2000 + 16 * 0 + (r : Int)) ∧ t1 18 = .int .i64 (r : Int) ∧ Stt [] H H1 [⟨some w, true, zW sb db (accV wb nw 5) ops2 (-1)⟩, ⟨some sb, true, ⟨true, .mp c, []⟩⟩, ⟨wb, true, ⟨true, 121, cs⟩⟩, ⟨ob0, true, ⟨true, 5, (fileL fs0).map (Value.int .u8)⟩⟩, ⟨ob1, true, ⟨true, 5, (fileL fs1).map (Value.int .u8)⟩⟩, ⟨some ux, true, zU ⟨#[83, 48]⟩ 0 dvx kx pgx tbx qx (.slice (some ⟨pex, 0, none⟩) 1 1) 1 0 ctA⟩, ⟨some dvx, true, zD sx 0⟩, ⟨some sx, true, zS w (⟨#[97]⟩ ++ ⟨#[46, 100]⟩) 16⟩, ⟨some pgx, true, zG⟩, ⟨some tbx, true, zT⟩, ⟨some qx, true, ⟨true, 154, [accV o0x 0 1, accV o1x 0 1, accV o2x 0 1, accV o3x 0 1, accV o4x 0 1, accV o5x 0 1, accV o6x 0 1, accV o7x 0 1]⟩⟩, ⟨o0x, true, ⟨true, 23, []⟩⟩, ⟨o1x, true, ⟨true, 23, []⟩⟩, ⟨some pex, true, ⟨true, 27, [zP uy]⟩⟩, ⟨some uy, true, zU ⟨#[83, 49]⟩ 1 dvy ky pgy tby qy (.slice (some ⟨pey, 0, none⟩) 1 1) 1 0 ctB⟩, ⟨some dvy, true, zD sy 1⟩, ⟨some sy, true, zS w (⟨#[98]⟩ ++ ⟨#[46, 100]⟩) 16⟩, ⟨some pgy, true, zG⟩, ⟨some tby, true, zT⟩, ⟨some qy, true, ⟨true, 154, [accV o0y 0 1, accV o1y 0 1, accV o2y 0 1, accV o3y 0 1, accV o4y 0 1, accV o5y 0 1, accV o6y 0 1, accV o7y 0 1]⟩⟩, ⟨o0y, true, ⟨true, 23, []⟩⟩, ⟨o1y, true, ⟨true, 23, []⟩⟩, ⟨some pey, true, ⟨true, 27, [zP ux]⟩⟩, ⟨some b3, true, ⟨true, 51, [zP ux, zP uy]⟩⟩, ⟨some b4, true, ⟨true, 54, (ws0 ++ ws1).map (Value.int .u8)⟩⟩]) (16 - 0) ⟨ops, ct0, ct1, 0, rfl, Nat.zero_le _, ⟨by omega, by omega⟩, rfl, (st.sel [0, 1, 2, 3, 4, 5, 6, 7, 8, 9, 10, 11, 12, 13, 14, 15, 16, 17, 18, 19, 20, 21, 22, 23, 24] (by decide))⟩ [2, 18, 19, 20, 146, 147, 148, 149, 150, 151, 152, 153, 154, 155, 156, 157, 158, 159, 160, 161, 162, 163, 164, 165, 166, 167, 168, 169, 170] (by decide) ?_
  rintro m t1 H1 hk hI
  obtain ⟨ops2, ctA, ctB, r, rfl, hr, hop2, ht18, st⟩ := hI
  obtain ⟨u, rfl⟩ : ∃ u, t1 = (upd (mix [2, 18, 19, 20, 146, 147, 148, 149, 150, 151, 152, 153, 154, 155, 156, 157, 158, 159, 160, 161, 162, 163, 164, 165, 166, 167, 168, 169, 170] _ u) (some 18) _) := ⟨t1, by rw [← hk, upd_self ht18]⟩
  clear hk ht18
  refine zw ?_
  iterate 2 refine zm ?_
  show AW _ (.cond _ _ _) _ _ _
  refine cC' rfl (fun h104 => ?_) (fun h104 => ?_)
  ·have h104q := h104; try simp only [zq] at h104q
   have hilt : r < 16 := by have := of_decide_eq_true h104; omega
   refine zw ?_
   refine zm ?_
   refine aN (v := zP b3) rfl rfl (by constructor) ?_
   refine zl st 23 ?_
   refine zm ?_
   refine aC (tblock_all.1 (lba := r) (nb := 16) (zN st [0, 5] [1, 3, 7, 6, 10, 11, 9, 8]) (by decide) (by decide) hF0 hH0.1 (by decide) (by omega) (by have := hH0.2.1; omega) ⟨by omega, by omega⟩ (by decide) (hH0.good (by omega)) rfl rfl) fun v155 H105 ⟨ct9, hv, st1⟩ => ?_
   rw [hH0.read hilt] at hv
   subst hv
   replace st := st.call2 (o1 := some w) (o2 := some ux) 0 4 rfl rfl st1 rfl
   clear st1
   iterate 5 refine zm ?_
   refine zw ?_
   iterate 3 refine zm ?_
   refine zg ?_
   refine zm ?_
   refine zg ?_
   refine zm ?_
   refine zg ?_
   refine zm ?_
   refine zg ?_
   refine aN (v := zP b4) rfl rfl (by constructor) ?_
   refine zg ?_
   refine aIxAV (q := 0 + r) rfl rfl (by omega) (by omega) ?_
   refine zg ?_
   refine aLd (v := .int .u8 (ws0.getD r 0)) st 24 rfl rfl (want_get0 hH0.2.2.1 hilt) (by constructor) ?_
   refine zg ?_
   refine aC (six_call (fill := (ws0.getD r 0))) fun v167 H106 ⟨xb, hv, st1⟩ => ?_
   subst hv
   replace st := st.call st1 rfl
   clear st1
   refine zg ?_
   refine aTextV (n := 16) (xs := List.replicate 16 (ws0.getD r 0)) (ys := ofInts (List.replicate 16 (ws0.getD r 0))) (st.rowAll 0 rfl (by simp)) rfl rfl ?_
   refine zg ?_
   refine aBinV (.bool false) rfl rfl (strNeF rfl) ?_
   refine zm ?_
   refine zf ?_
   refine zw ?_
   refine zm ?_
   refine aBinV (.int .i64 ((r + 1 : Nat) : Int)) rfl rfl (addI (by omega) (by omega)) ?_
   refine zm ?_
   refine sE ?_
   exact ⟨_, by omega, _, _, _, (r + 1), rfl, by omega, ⟨by omega, by omega⟩, rfl, (st.sel [1, 3, 4, 5, 6, 2, 7, 8, 9, 10, 11, 12, 13, 14, 15, 16, 17, 18, 19, 20, 21, 22, 23, 24, 25] (by decide))⟩
  ·have h104q := h104; try simp only [zq] at h104q
   have hige : r = 16 := by have := of_decide_eq_false h104; omega
   subst hige
   refine zw ?_
   refine zm ?_
   refine zb (.int .i64 1) ?_
   refine zm ?_
   refine sE ?_
   show AW _ _ _ _ _
   refine zw ?_
   refine zm ?_
   refine zb (.bool true) ?_
   show AW _ (.cond _ _ _) _ _ _
   refine cT rfl ?_
   refine zw ?_
   refine zm ?_
   refine sE ?_
   show AW _ (.loop _) _ _ _
   refine AW_loopN (fun m t1 H1 => ∃ (ops2 ctA ctB : Int) (r : Nat), m = 16 - r ∧ (r ≤ 16) ∧ (0 ≤ ops2 ∧ ops2 ≤ 2000 + 16 * 1 + (r : Int)) ∧ t1 18 = .int .i64 (r : Int) ∧ Stt [] H H1 [⟨some w, true, zW sb db (accV wb nw 5) ops2 (-1)⟩, ⟨some sb, true, ⟨true, .mp c, []⟩⟩, ⟨wb, true, ⟨true, 121, cs⟩⟩, ⟨ob0, true, ⟨true, 5, (fileL fs0).map (Value.int .u8)⟩⟩, ⟨ob1, true, ⟨true, 5, (fileL fs1).map (Value.int .u8)⟩⟩, ⟨some ux, true, zU ⟨#[83, 48]⟩ 0 dvx kx pgx tbx qx (.slice (some ⟨pex, 0, none⟩) 1 1) 1 0 ctA⟩, ⟨some dvx, true, zD sx 0⟩, ⟨some sx, true, zS w (⟨#[97]⟩ ++ ⟨#[46, 100]⟩) 16⟩, ⟨some pgx, true, zG⟩, ⟨some tbx, true, zT⟩, ⟨some qx, true, ⟨true, 154, [accV o0x 0 1, accV o1x 0 1, accV o2x 0 1, accV o3x 0 1, accV o4x 0 1, accV o5x 0 1, accV o6x 0 1, accV o7x 0 1]⟩⟩, ⟨o0x, true, ⟨true, 23, []⟩⟩, ⟨o1x, true, ⟨true, 23, []⟩⟩, ⟨some pex, true, ⟨true, 27, [zP uy]⟩⟩, ⟨some uy, true, zU ⟨#[83, 49]⟩ 1 dvy ky pgy tby qy (.slice (some ⟨pey, 0, none⟩) 1 1) 1 0 ctB⟩, ⟨some dvy, true, zD sy 1⟩, ⟨some sy, true, zS w (⟨#[98]⟩ ++ ⟨#[46, 100]⟩) 16⟩, ⟨some pgy, true, zG⟩, ⟨some tby, true, zT⟩, ⟨some qy, true, ⟨true, 154, [accV o0y 0 1, accV o1y 0 1, accV o2y 0 1, accV o3y 0 1, accV o4y 0 1, accV o5y 0 1, accV o6y 0 1, accV o7y 0 1]⟩⟩, ⟨o0y, true, ⟨true, 23, []⟩⟩, ⟨o1y, true, ⟨true, 23, []⟩⟩, ⟨some pey, true, ⟨true, 27, [zP ux]⟩⟩, ⟨some b3, true, ⟨true, 51, [zP ux, zP uy]⟩⟩, ⟨some b4, true, ⟨true, 54, (ws0 ++ ws1).map (Value.int .u8)⟩⟩]) (16 - 0) ⟨ops2, ctA, ctB, 0, rfl, Nat.zero_le _, ⟨by omega, by omega⟩, rfl, (st.sel [0, 1, 2, 3, 4, 5, 6, 7, 8, 9, 10, 11, 12, 13, 14, 15, 16, 17, 18, 19, 20, 21, 22, 23, 24] (by decide))⟩ [2, 18, 19, 20, 146, 147, 148, 149, 150, 151, 152, 153, 154, 155, 156, 157, 158, 159, 160, 161, 162, 163, 164, 165, 166, 167, 168, 169, 170] (by decide) ?_
   rintro m t1 H1 hk hI
   obtain ⟨ops2, ctA, ctB, r, rfl, hr, hop2, ht18, st⟩ := hI
   obtain ⟨u, rfl⟩ : ∃ u, t1 = (upd (mix [2, 18, 19, 20, 146, 147, 148, 149, 150, 151, 152, 153, 154, 155, 156, 157, 158, 159, 160, 161, 162, 163, 164, 165, 166, 167, 168, 169, 170] _ u) (some 18) _) := ⟨t1, by rw [← hk, upd_self ht18]⟩
   clear hk ht18
   refine zw ?_
   iterate 2 refine zm ?_
   show AW _ (.cond _ _ _) _ _ _
   refine cC' rfl (fun h107 => ?_) (fun h107 => ?_)
   ·have h107q := h107; try simp only [zq] at h107q
    have hilt : r < 16 := by have := of_decide_eq_true h107; omega
    refine zw ?_
    refine zm ?_
    refine aN (v := .pointer (some ⟨b3, 1, none⟩)) rfl rfl (by constructor) ?_
    refine zl st 23 ?_
    refine zm ?_
    refine aC (tblock_all.2 (lba := r) (nb := 16) (zN st [0, 14] [1, 4, 16, 15, 19, 20, 18, 17]) (by decide) (by decide) hF1 hH1.1 (by decide) (by omega) (by have := hH1.2.1; omega) ⟨by omega, by omega⟩ (by decide) (hH1.good (by omega)) rfl rfl) fun v155 H108 ⟨ct9, hv, st1⟩ => ?_
    rw [hH1.read hilt] at hv
    subst hv
    replace st := st.call2 (o1 := some w) (o2 := some uy) 0 13 rfl rfl st1 rfl
    clear st1
    iterate 5 refine zm ?_
    refine zw ?_
    iterate 3 refine zm ?_
    refine zg ?_
    refine zm ?_
    refine zg ?_
    refine zm ?_
    refine zg ?_
    refine zm ?_
    refine zg ?_
    refine aN (v := .pointer (some ⟨b4, 16, none⟩)) rfl rfl (by constructor) ?_
    refine zg ?_
    refine aIxAV (q := 16 + r) rfl rfl (by omega) (by omega) ?_
    refine zg ?_
    refine aLd (v := .int .u8 (ws1.getD r 0)) st 24 rfl rfl (want_get1 hH0.2.2.1 hH1.2.2.1 hilt) (by constructor) ?_
    refine zg ?_
    refine aC (six_call (fill := (ws1.getD r 0))) fun v167 H109 ⟨xb, hv, st1⟩ => ?_
    subst hv
    replace st := st.call st1 rfl
    clear st1
    refine zg ?_
    refine aTextV (n := 16) (xs := List.replicate 16 (ws1.getD r 0)) (ys := ofInts (List.replicate 16 (ws1.getD r 0))) (st.rowAll 0 rfl (by simp)) rfl rfl ?_
    refine zg ?_
    refine aBinV (.bool false) rfl rfl (strNeF rfl) ?_
    refine zm ?_
    refine zf ?_
    refine zw ?_
    refine zm ?_
    refine aBinV (.int .i64 ((r + 1 : Nat) : Int)) rfl rfl (addI (by omega) (by omega)) ?_
    refine zm ?_
    refine sE ?_
    exact ⟨_, by omega, _, _, _, (r + 1), rfl, by omega, ⟨by omega, by omega⟩, rfl, (st.sel [1, 3, 4, 5, 6, 7, 8, 9, 10, 11, 12, 13, 14, 15, 2, 16, 17, 18, 19, 20, 21, 22, 23, 24, 25] (by decide))⟩
   ·have h107q := h107; try simp only [zq] at h107q
    have hige : r = 16 := by have := of_decide_eq_false h107; omega
    subst hige
    refine zw ?_
    refine zm ?_
    refine zb (.int .i64 2) ?_
    refine zm ?_
    refine sE ?_
    show AW _ _ _ _ _
    refine zw ?_
    refine zm ?_
    refine zb (.bool false) ?_
    refine zf ?_
    refine zw ?_
    refine zm ?_
    refine sE ?_
    refine ⟨_, out1 zr, ?_⟩
    rfl
end Go.Proofs.YtjmjkdelkaflmaaGreatDoor.Abs
