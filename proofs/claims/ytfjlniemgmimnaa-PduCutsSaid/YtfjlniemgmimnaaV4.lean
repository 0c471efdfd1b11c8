/- PduCuts. -/
import Derived.Test.YtfjlniemgmimnaaV3
set_option linter.unusedVariables false
set_option linter.unusedSimpArgs false
set_option maxRecDepth 100000
namespace Go.Proofs.Ytfjlniemgmimnaa.Abs
open Go Go.RowKit
theorem cuts_call {H : Hp} {zs : List PV2} {rs cs : List Int} {xl xr xc : Value} {hd dt : Bool} (hl0 : Sl H 14 zs.length (zs.flatMap pdV) xl) (hz : ∀ z ∈ zs, z.1.wf ∧ Sl H 1 z.1.data.length (z.1.data.map (Value.int .u8)) z.2) (hrs : Sl H 1 rs.length (rs.map (Value.int .u8)) xr) (hrb : ByteL rs) (hcs : Sl H 1 cs.length (cs.map (Value.int .u8)) xc) (hcb : ByteL cs) (hlz : zs.length ≤ 140737488351232) (hlr : rs.length ≤ 140737488351232) (hlc : cs.length ≤ 140737488351232) :
  ACalls Try.prog 8 [xl, xr, xc, .bool hd, .bool dt] H (fun v _ => v = .bool true) := by
 refine acallsW Try.func8 f8_ok (Nat.le_of_ble_eq_true rfl) fun hw => ?_
 have st : Stt [] H H [] := Stt.start hw
 unfold f8c
 show AWl _ _ _ _ _
 refine aN rfl rfl (by constructor) ?_
 refine sE ?_
 show AWl _ _ _ _ _
 refine aC (awake_call) fun v29 H1 ⟨hv, st1⟩ => ?_
 subst hv
 replace st := st.call st1 rfl
 clear st1
 refine aN rfl rfl (by constructor) ?_
 refine sE ?_
 show AW _ (.cond _ _ _) _ _ _
 refine cF' rfl ?_
 show AWl _ _ _ _ _
 refine aN rfl rfl (by constructor) ?_
 refine sE ?_
 refine AW_cutK (b := .seq (.seq (.list (⟨some 63, _, _⟩ :: _)) _) _) (fun t1 H1 => ∃ (al : List Int) (oc : Option Nat), (ByteL al) ∧ (al.length ≤ 90000) ∧ t1 11 = accV oc al.length 1 ∧ Stt [] H H1 [⟨oc, true, ⟨true, 5, (al).map (Value.int .u8)⟩⟩]) [10, 11, 12, 13, 14, 31, 32, 33, 34, 35, 36, 37, 38, 39, 40, 41, 42, 43, 44, 45, 46, 47, 48, 49, 50, 51, 52, 53, 54, 55, 56, 57, 58, 59, 60, 61, 62] (by decide) ?_ fun t1 H1 hk hI => ?_
 ·show AWl _ _ _ _ _
  refine aN rfl rfl (by constructor) ?_
  refine sE ?_
  show AW _ (.loop _) _ _ _
  have st := st.nil 5
  refine AW_loopN (fun m t1 H1 => ∃ (j : Nat) (al : List Int) (oc : Option Nat), m = zs.length - j ∧ (j ≤ zs.length) ∧ (j ≤ 10) ∧ (ByteL al) ∧ (al.length ≤ 9000 * j) ∧ t1 12 = .int .i64 (j : Int) ∧ t1 11 = accV oc al.length 1 ∧ Stt [] H H1 [⟨oc, true, ⟨true, 5, (al).map (Value.int .u8)⟩⟩]) (zs.length - 0) ⟨0, [], none, rfl, by omega, by omega, ByteL.nil, by simp, rfl, rfl, (st.sel [0] (by decide))⟩ [10, 11, 12, 13, 14, 31, 32, 33, 34, 35, 36, 37, 38, 39, 40, 41, 42, 43, 44, 45, 46, 47, 48, 49, 50, 51, 52, 53, 54, 55, 56, 57, 58, 59, 60, 61, 62] (by decide) ?_
  rintro m t1 H1 hk hI
  obtain ⟨j, al, oc, rfl, hj, hj10, hal, hall, ht12, ht11, st⟩ := hI
  obtain ⟨u, rfl⟩ : ∃ u, t1 = (upd (upd (mix [10, 11, 12, 13, 14, 31, 32, 33, 34, 35, 36, 37, 38, 39, 40, 41, 42, 43, 44, 45, 46, 47, 48, 49, 50, 51, 52, 53, 54, 55, 56, 57, 58, 59, 60, 61, 62] _ u) (some 12) _) (some 11) _) := ⟨t1, by rw [← hk, upd_self ht12, upd_self ht11]⟩
  clear hk ht12 ht11
  show AWl _ _ _ _ _
  refine aN rfl rfl (by constructor) ?_
  refine aMovV xl rfl ?_
  refine aLen (st.slc hl0) rfl ?_
  iterate 2 refine aN rfl rfl (by constructor) ?_
  refine gCase 35 rfl (fun h2 => ?_) (fun h2 => ?_)
  ·have h2q := h2; try simp only [decide_eq_true_eq, decide_eq_false_iff_not, beq_iff_eq, beq_eq_false_iff_ne, bne_iff_ne, bne_eq_false_iff_eq, ne_eq, Decidable.not_not, Bool.not_eq_true, Bool.not_eq_false, gt_iff_lt, ge_iff_le, Int.not_lt, Int.not_le] at h2q
   refine gT rfl ?_
   refine aN rfl rfl (by constructor) ?_
   refine gT rfl ?_
   iterate 2 refine aN rfl rfl (by constructor) ?_
   refine sE ?_
   show AW _ (.cond _ _ _) _ _ _
   refine cC' rfl (fun h3 => ?_) (fun h3 => ?_)
   ·have h3q := h3; try simp only [decide_eq_true_eq, decide_eq_false_iff_not, beq_iff_eq, beq_eq_false_iff_ne, bne_iff_ne, bne_eq_false_iff_eq, ne_eq, Decidable.not_not, Bool.not_eq_true, Bool.not_eq_false, gt_iff_lt, ge_iff_le, Int.not_lt, Int.not_le] at h3q
    have hlt : j < zs.length := by omega
    obtain ⟨hzw, hzd⟩ := hz (zs.getD j dzV) (getD_mem' hlt)
    show AWl _ _ _ _ _
    refine aMovV xl rfl ?_
    refine aN rfl rfl (by constructor) ?_
    refine aIxEK pdV_len dzV (l := zs) (st.slc hl0) rfl rfl (by omega) fun b43 o43 g43 => ?_
    refine aN rfl rfl (by constructor) ?_
    refine aLdP (g43 _ (st.slc hl0)) 13 rfl rfl (.any _) (by decide) ?_
    refine aLen (st.slc hzd) rfl ?_
    refine aN rfl rfl (by constructor) ?_
    refine sE ?_
    show AW _ (.cond _ _ _) _ _ _
    refine cC' rfl (fun h4 => ?_) (fun h4 => ?_)
    ·have h4q := h4; try simp only [decide_eq_true_eq, decide_eq_false_iff_not, beq_iff_eq, beq_eq_false_iff_ne, bne_iff_ne, bne_eq_false_iff_eq, ne_eq, Decidable.not_not, Bool.not_eq_true, Bool.not_eq_false, gt_iff_lt, ge_iff_le, Int.not_lt, Int.not_le] at h4q
     show AWl _ _ _ _ _
     refine aN rfl rfl (by constructor) ?_
     refine sE ?_
     refine ⟨_, out1 (r_tmp rfl (by constructor)), ?_⟩
     rfl
    ·have h4q := h4; try simp only [decide_eq_true_eq, decide_eq_false_iff_not, beq_iff_eq, beq_eq_false_iff_ne, bne_iff_ne, bne_eq_false_iff_eq, ne_eq, Decidable.not_not, Bool.not_eq_true, Bool.not_eq_false, gt_iff_lt, ge_iff_le, Int.not_lt, Int.not_le] at h4q
     have h500 : (zs.getD j dzV).1.data.length ≤ 500 := by omega
     have eE : encE (zs.getD j dzV).1 = 0 := if_neg (by omega)
     have eR : encR (zs.getD j dzV).1 hd dt = encB (zs.getD j dzV).1 hd dt := if_neg (by omega)
     have hel := encB_le (p := (zs.getD j dzV).1) (by omega) hd dt
     show AWl _ _ _ _ _
     refine aMovV xl rfl ?_
     refine aN rfl rfl (by constructor) ?_
     refine aIxEK pdV_len dzV (l := zs) (st.slc hl0) rfl rfl (by omega) fun b51 o51 g51 => ?_
     refine aLdAG rfl (g51 _ (st.slc hl0)) ?_
     iterate 2 refine aN rfl rfl (by constructor) ?_
     refine aC (enc_call (p := (zs.getD j dzV).1) (hd := hd) (dt := dt) hzw (st.slc hzd)) fun v55 H5 ⟨ob55, hv, st1⟩ => ?_
     subst hv
     replace st := st.call st1 rfl
     clear st1
     rw [eE, eR]
     rw [eR] at st
     refine aN rfl rfl (by constructor) ?_
     refine aExtA rfl rfl ?_
     refine aN rfl rfl (by constructor) ?_
     refine aMovA rfl ?_
     refine aN rfl rfl (by constructor) ?_
     refine sE ?_
     show AWl _ _ _ _ _
     refine aN rfl rfl (by constructor) ?_
     refine aBinV (.bool false) rfl rfl rfl ?_
     refine sE ?_
     show AW _ (.cond _ _ _) _ _ _
     refine cF' rfl ?_
     show AWl _ _ _ _ _
     refine aMovA rfl ?_
     refine aMovA rfl ?_
     refine aApp st 1 (ob := oc) rfl rfl rfl (by decide) (by simp) (st.rowAcc 0 rfl (by decide) (by simp)).src (by simp) (by omega) (by omega) fun b62 H6 hp62 st => ?_
     have st := st.recell 1 rfl (cs' := (al ++ encB (zs.getD j dzV).1 hd dt).map (Value.int .u8)) (by simp)
     refine aMovA rfl ?_
     refine sE ?_
     show AWl _ _ _ _ _
     iterate 3 refine aN rfl rfl (by constructor) ?_
     refine sE ?_
     exact ⟨_, by omega, j + 1, (al ++ encB (zs.getD j dzV).1 hd dt), b62, rfl, by omega, by omega, hal.app (encB_bytes hzw hd dt), by rw [List.length_append]; omega, congrArg (Value.int .i64) (wi _ (by omega)), congrArg (fun n => accV _ n 1) (by rw [List.length_append]), (st.sel [1] (by decide))⟩
   ·have h3q := h3; try simp only [decide_eq_true_eq, decide_eq_false_iff_not, beq_iff_eq, beq_eq_false_iff_ne, bne_iff_ne, bne_eq_false_iff_eq, ne_eq, Decidable.not_not, Bool.not_eq_true, Bool.not_eq_false, gt_iff_lt, ge_iff_le, Int.not_lt, Int.not_le] at h3q
    exact ⟨al, oc, hal, by omega, rfl, (st.sel [0] (by decide))⟩
  ·have h2q := h2; try simp only [decide_eq_true_eq, decide_eq_false_iff_not, beq_iff_eq, beq_eq_false_iff_ne, bne_iff_ne, bne_eq_false_iff_eq, ne_eq, Decidable.not_not, Bool.not_eq_true, Bool.not_eq_false, gt_iff_lt, ge_iff_le, Int.not_lt, Int.not_le] at h2q
   refine gF rfl (by decide) ?_
   refine gF rfl (by decide) ?_
   refine aN rfl rfl (by constructor) ?_
   refine sE ?_
   show AW _ (.cond _ _ _) _ _ _
   refine cF' rfl ?_
   exact ⟨al, oc, hal, by omega, rfl, (st.sel [0] (by decide))⟩
 ·obtain ⟨al, oc, hal, hall, ht11, st⟩ := hI
  obtain ⟨u, rfl⟩ : ∃ u, t1 = (upd (mix [10, 11, 12, 13, 14, 31, 32, 33, 34, 35, 36, 37, 38, 39, 40, 41, 42, 43, 44, 45, 46, 47, 48, 49, 50, 51, 52, 53, 54, 55, 56, 57, 58, 59, 60, 61, 62] _ u) (some 11) _) := ⟨t1, by rw [← hk, upd_self ht11]⟩
  clear hk ht11
  show AWl _ _ _ _ _
  refine aMovV xr rfl ?_
  refine aLen (st.slc hrs) rfl ?_
  refine aN rfl rfl (by constructor) ?_
  refine sE ?_
  show AW _ (.cond _ _ _) _ _ _
  refine cC' rfl (fun h7 => ?_) (fun h7 => ?_)
  ·have h7q := h7; try simp only [decide_eq_true_eq, decide_eq_false_iff_not, beq_iff_eq, beq_eq_false_iff_ne, bne_iff_ne, bne_eq_false_iff_eq, ne_eq, Decidable.not_not, Bool.not_eq_true, Bool.not_eq_false, gt_iff_lt, ge_iff_le, Int.not_lt, Int.not_le] at h7q
   show AWl _ _ _ _ _
   refine aN rfl rfl (by constructor) ?_
   refine sE ?_
   refine ⟨_, out1 (r_tmp rfl (by constructor)), ?_⟩
   rfl
  ·have h7q := h7; try simp only [decide_eq_true_eq, decide_eq_false_iff_not, beq_iff_eq, beq_eq_false_iff_ne, bne_iff_ne, bne_eq_false_iff_eq, ne_eq, Decidable.not_not, Bool.not_eq_true, Bool.not_eq_false, gt_iff_lt, ge_iff_le, Int.not_lt, Int.not_le] at h7q
   show AWl _ _ _ _ _
   refine aMovA rfl ?_
   refine aMovV xr rfl ?_
   refine aApp st 0 (ob := oc) rfl rfl rfl (by decide) (by simp) (st.slc hrs).src (by simp) (by omega) (by omega) fun b68 H8 hp68 st => ?_
   have st := st.recell 0 rfl (cs' := (al ++ rs).map (Value.int .u8)) (by simp)
   have hAb : ByteL (al ++ rs) := hal.app hrb
   have hAl : (al ++ rs).length ≤ 1000000 := by rw [List.length_append]; omega
   rw [show al.length + rs.length = (al ++ rs).length by rw [List.length_append]]
   generalize al ++ rs = A at st hAb hAl ⊢
   refine aMovA rfl ?_
   refine sE ?_
   show AWl _ _ _ _ _
   refine aMovA rfl ?_
   iterate 2 refine aN rfl rfl (by constructor) ?_
   have hA0 : Sl _ 1 A.length (A.map (Value.int .u8)) (accV b68 A.length 1) := (st.rowAcc 0 rfl (by decide) (by simp))
   refine aC (all_call (xs := A) hA0 hAb hAl) fun v73 H ⟨W, oc73, e, hv, st1, hall⟩ => ?_
   subst hv
   replace hall : AllR hd dt A (W.map fstP) e := hall
   have hWl : W.length ≤ A.length := by have := hall.short; rwa [List.length_map] at this
   have hA : Sl H 1 A.length (A.map (Value.int .u8)) _ := st1.slc hA0
   have hW : Sl H 14 W.length (W.flatMap pdE) (accV oc73 W.length 14) := st1.rowAcc 0 rfl (by decide) (flat_len' pdE_len _)
   have hWd : ∀ z ∈ W, Sl H 1 z.1.data.length (z.1.data.map (Value.int .u8)) (accV z.2 z.1.data.length 1) := fun z hz => by
    obtain ⟨i, hi, rfl⟩ := List.getElem_of_mem hz
    exact st1.rowAcc (sz := 1) (n := W[i].1.data.length) (ob := W[i].2) (i + 1) (by rw [List.getElem?_cons_succ, List.getElem?_map, List.getElem?_eq_getElem hi]; rfl) (by decide) (by simp)
   have hcs2 := st1.slc (st.slc hcs)
   replace st : Stt [] H H [] := Stt.start st1.wf
   replace hw := st.wf
   refine aN rfl rfl (by constructor) ?_
   refine aExtV (accV oc73 W.length 14) rfl rfl ?_
   refine aN rfl rfl (by constructor) ?_
   refine aMovV (accV oc73 W.length 14) rfl ?_
   refine aN rfl rfl (by constructor) ?_
   refine sE ?_
   show AWl _ _ _ _ _
   refine aC (rnew_call) fun v76 H9 ⟨b76, hv, st1⟩ => ?_
   subst hv
   replace st := st.call st1 rfl
   clear st1
   refine aN rfl rfl (by constructor) ?_
   refine sE ?_
   show AWl _ _ _ _ _
   iterate 3 refine aN rfl rfl (by constructor) ?_
   refine aC (rdig_call (hd := hd) (dt := dt) (st.get (j := 0) rfl)) fun v80 H10 st1 => ?_
   replace st := st.callX 0 rfl st1 rfl
   clear st1
   have st := st.nil 5
   refine sE ?_
   show AWl _ _ _ _ _
   refine aN rfl rfl (by constructor) ?_
   refine sE ?_
   show AWl _ _ _ _ _
   refine aN rfl rfl (by constructor) ?_
   refine sE ?_
   show AWl _ _ _ _ _
   refine aN rfl rfl (by constructor) ?_
   refine sE ?_
   show AWl _ _ _ _ _
   refine aN rfl rfl (by constructor) ?_
   refine sE ?_
   show AW _ (.loop _) _ _ _
   refine AW_loopN (fun m t1 H1 => ∃ (i a n : Nat) (k ks : List Int) (x : Value) (oh : Option Nat) (f ed : Int), m = (300 - i) + (if a < A.length then 1 else 0) ∧ (i ≤ 301 ∧ (a < A.length → i ≤ 300)) ∧ (a ≤ A.length) ∧ (HeldOf oh ks k x) ∧ (ByteL k) ∧ (k.length ≤ a) ∧ (n ≤ W.length) ∧ (f ≠ 0 → x = .slice none 0 0) ∧ (RInv hd dt A (W.map fstP) e (a) n k f) ∧ (EInv hd dt e a k f ed) ∧ t1 21 = .int .i64 (i : Int) ∧ t1 18 = .int .i64 (a : Int) ∧ t1 19 = .int .i64 (n : Int) ∧ t1 20 = .int .i64 ed ∧ Stt [] H H1 [⟨some b76, true, ⟨true, 64, [x, .bool hd, .bool dt, .int .i64 f]⟩⟩, ⟨oh, true, ⟨true, 5, (ks).map (Value.int .u8)⟩⟩]) _ ⟨0, 0, 0, [], [], (.slice none 0 0), none, 0, 8, rfl, ⟨by omega, fun _ => by omega⟩, by omega, fun _ _ => sl_nil', ByteL.nil, Nat.le_refl _, Nat.zero_le _, fun h => absurd rfl h, .inl ⟨rfl, hall⟩, ⟨fun _ h => absurd h (Nat.lt_irrefl _), fun h => absurd rfl h⟩, rfl, rfl, rfl, rfl, (st.sel [1, 0] (by decide))⟩ [10, 18, 19, 20, 21, 22, 23, 24, 25, 26, 81, 82, 83, 84, 85, 86, 87, 88, 89, 90, 91, 92, 93, 94, 95, 96, 97, 98, 99, 100, 101, 102, 103, 104, 105, 106, 107, 108, 109, 110, 111, 112, 113, 114, 115, 116, 117, 118, 119, 120, 121, 122, 123, 124, 125, 126, 127, 128, 129, 130, 131, 132, 133, 134, 135, 136, 137, 138, 139, 140, 141, 142, 143, 144, 145, 146, 147, 148, 149, 150, 151] (by decide) ?_
   rintro m t1 H1 hk hI
   obtain ⟨i, a, n, k, ks, x, oh, f, ed, rfl, hi1, haA, hheld, hkb, hka, hnW, hfx, hR, hE, ht21, ht18, ht19, ht20, st⟩ := hI
   obtain ⟨u, rfl⟩ : ∃ u, t1 = (upd (upd (upd (upd (mix [10, 18, 19, 20, 21, 22, 23, 24, 25, 26, 81, 82, 83, 84, 85, 86, 87, 88, 89, 90, 91, 92, 93, 94, 95, 96, 97, 98, 99, 100, 101, 102, 103, 104, 105, 106, 107, 108, 109, 110, 111, 112, 113, 114, 115, 116, 117, 118, 119, 120, 121, 122, 123, 124, 125, 126, 127, 128, 129, 130, 131, 132, 133, 134, 135, 136, 137, 138, 139, 140, 141, 142, 143, 144, 145, 146, 147, 148, 149, 150, 151] _ u) (some 21) _) (some 18) _) (some 19) _) (some 20) _) := ⟨t1, by rw [← hk, upd_self ht21, upd_self ht18, upd_self ht19, upd_self ht20]⟩
   clear hk ht21 ht18 ht19 ht20
   show AWl _ _ _ _ _
   refine aN rfl rfl (by constructor) ?_
   refine aMovV (accV b68 A.length 1) rfl ?_
   refine aLen (st.slc hA) rfl ?_
   refine aN rfl rfl (by constructor) ?_
   refine sE ?_
   show AW _ (.cond _ _ _) _ _ _
   refine cC' rfl (fun h11 => ?_) (fun h11 => ?_)
   ·have h11q := h11; try simp only [decide_eq_true_eq, decide_eq_false_iff_not, beq_iff_eq, beq_eq_false_iff_ne, bne_iff_ne, bne_eq_false_iff_eq, ne_eq, Decidable.not_not, Bool.not_eq_true, Bool.not_eq_false, gt_iff_lt, ge_iff_le, Int.not_lt, Int.not_le] at h11q
    refine AW_cutK (b := .list (⟨some 85, _, _⟩ :: _)) (fun t1 H1 => ∃ (a1 : Nat) (ed f : Int) (n : Nat) (k ks : List Int) (x : Value) (oh : Option Nat), (i + 1 ≤ 301 ∧ (a1 < A.length → i + 1 ≤ 300)) ∧ (a1 ≤ A.length) ∧ ((300 - (i + 1)) + (if a1 < A.length then 1 else 0) < (300 - i) + (if a < A.length then 1 else 0)) ∧ (HeldOf oh ks k x) ∧ (ByteL k) ∧ (k.length ≤ a1) ∧ (n ≤ W.length) ∧ (f ≠ 0 → x = .slice none 0 0) ∧ (RInv hd dt A (W.map fstP) e (a1) n k f) ∧ (EInv hd dt e a1 k f ed) ∧ t1 18 = .int .i64 (a1 : Int) ∧ t1 19 = .int .i64 (n : Int) ∧ t1 20 = .int .i64 ed ∧ Stt [] H H1 [⟨some b76, true, ⟨true, 64, [x, .bool hd, .bool dt, .int .i64 f]⟩⟩, ⟨oh, true, ⟨true, 5, (ks).map (Value.int .u8)⟩⟩]) [10, 18, 19, 20, 22, 23, 24, 25, 26, 87, 88, 89, 90, 91, 92, 93, 94, 95, 96, 97, 98, 99, 100, 101, 102, 103, 104, 105, 106, 107, 108, 109, 110, 111, 112, 113, 114, 115, 116, 117, 118, 119, 120, 121, 122, 123, 124, 125, 126, 127, 128, 129, 130, 131, 132, 133, 134, 135, 136, 137, 138, 139, 140, 141, 142, 143, 144, 145, 146, 147, 148, 149, 150, 151] (by decide) ?_ fun t1 H1 hk hI => ?_
    ·show AWl _ _ _ _ _
     have haL : a < A.length := by omega
     refine aMovV (accV b68 A.length 1) rfl ?_
     refine aLen (st.slc hA) rfl ?_
     refine aN rfl rfl (by constructor) ?_
     refine aBinV (.int .i64 ((A.length - a : Nat) : Int)) rfl rfl (sub_nat hAl haA) ?_
     refine aN rfl rfl (by constructor) ?_
     refine sE ?_
     refine AW_cutK (b := .seq (.list (⟨some 23, _, _⟩ :: _)) _) (fun t1 H1 => ∃ (q : Nat), (q ≤ A.length - a) ∧ (¬ (i < 300 ∧ i < cs.length) → q = A.length - a) ∧ t1 22 = .int .i64 ((q : Nat) : Int) ∧ Stt [] H H1 [⟨some b76, true, ⟨true, 64, [x, .bool hd, .bool dt, .int .i64 f]⟩⟩, ⟨oh, true, ⟨true, 5, (ks).map (Value.int .u8)⟩⟩]) [22, 91, 92, 93, 94, 95, 96, 97, 98, 99, 100, 101, 102, 103, 104, 105] (by decide) ?_ fun t1 H1 hk hI => ?_
     ·show AWl _ _ _ _ _
      refine aN rfl rfl (by constructor) ?_
      refine aMovV xc rfl ?_
      refine aLen (st.slc hcs2) rfl ?_
      iterate 2 refine aN rfl rfl (by constructor) ?_
      refine gCase 95 rfl (fun h12 => ?_) (fun h12 => ?_)
      ·have h12q := h12; try simp only [decide_eq_true_eq, decide_eq_false_iff_not, beq_iff_eq, beq_eq_false_iff_ne, bne_iff_ne, bne_eq_false_iff_eq, ne_eq, Decidable.not_not, Bool.not_eq_true, Bool.not_eq_false, gt_iff_lt, ge_iff_le, Int.not_lt, Int.not_le] at h12q
       refine gT rfl ?_
       refine aN rfl rfl (by constructor) ?_
       refine gT rfl ?_
       iterate 2 refine aN rfl rfl (by constructor) ?_
       refine sE ?_
       show AW _ (.cond _ _ _) _ _ _
       refine cC' rfl (fun h13 => ?_) (fun h13 => ?_)
       ·have h13q := h13; try simp only [decide_eq_true_eq, decide_eq_false_iff_not, beq_iff_eq, beq_eq_false_iff_ne, bne_iff_ne, bne_eq_false_iff_eq, ne_eq, Decidable.not_not, Bool.not_eq_true, Bool.not_eq_false, gt_iff_lt, ge_iff_le, Int.not_lt, Int.not_le] at h13q
        show AWl _ _ _ _ _
        refine aN rfl rfl (by constructor) ?_
        refine aMovV xc rfl ?_
        refine aN rfl rfl (by constructor) ?_
        refine aIxB (st.slc hcs2) rfl rfl (by omega) fun b102 o102 g102 => ?_
        refine aLdG rfl g102 ?_
        refine aN rfl rfl (by constructor) ?_
        refine aMinQ (c := cs.getD i 0) rfl rfl (hcb.getD i) fun q hq => ?_
        refine aN rfl rfl (by constructor) ?_
        refine sE ?_
        exact ⟨q, hq, fun h => absurd ⟨by omega, by omega⟩ h, rfl, (st.sel [0, 1] (by decide))⟩
       ·have h13q := h13; try simp only [decide_eq_true_eq, decide_eq_false_iff_not, beq_iff_eq, beq_eq_false_iff_ne, bne_iff_ne, bne_eq_false_iff_eq, ne_eq, Decidable.not_not, Bool.not_eq_true, Bool.not_eq_false, gt_iff_lt, ge_iff_le, Int.not_lt, Int.not_le] at h13q
        exact ⟨(A.length - a), Nat.le_refl _, fun _ => rfl, rfl, (st.sel [0, 1] (by decide))⟩
      ·have h12q := h12; try simp only [decide_eq_true_eq, decide_eq_false_iff_not, beq_iff_eq, beq_eq_false_iff_ne, bne_iff_ne, bne_eq_false_iff_eq, ne_eq, Decidable.not_not, Bool.not_eq_true, Bool.not_eq_false, gt_iff_lt, ge_iff_le, Int.not_lt, Int.not_le] at h12q
       refine gF rfl (by decide) ?_
       refine gF rfl (by decide) ?_
       refine aN rfl rfl (by constructor) ?_
       refine sE ?_
       show AW _ (.cond _ _ _) _ _ _
       refine cF' rfl ?_
       exact ⟨(A.length - a), Nat.le_refl _, fun _ => rfl, rfl, (st.sel [0, 1] (by decide))⟩
     ·obtain ⟨q, hq, hqn, ht22, st⟩ := hI
      obtain ⟨u, rfl⟩ : ∃ u, t1 = (upd (mix [22, 91, 92, 93, 94, 95, 96, 97, 98, 99, 100, 101, 102, 103, 104, 105] _ u) (some 22) _) := ⟨t1, by rw [← hk, upd_self ht22]⟩
      clear hk ht22
      show AWl _ _ _ _ _
      refine aN rfl rfl (by constructor) ?_
      refine sE ?_
      show AWl _ _ _ _ _
      refine aN rfl rfl (by constructor) ?_
      refine aMovV (accV b68 A.length 1) rfl ?_
      iterate 3 refine aN rfl rfl (by constructor) ?_
      refine aBinV (.int .i64 ((a + q : Nat) : Int)) rfl rfl (add_nat (by omega)) ?_
      refine aCutLH (st.slc hA) rfl rfl rfl (by omega) fun v112 s112 => ?_
      replace s112 := s112 _ hA
      have s112 : Sl H 1 q (((A.drop a).take q).map (Value.int .u8)) v112 := by have := s112; rwa [show ((a + q : Nat) : Int).toNat - ((a : Nat) : Int).toNat = q by omega] at this
      obtain ⟨p, hp⟩ : ∃ p, p = (A.drop a).take q := ⟨_, rfl⟩
      rw [← hp] at s112
      have hpl : p.length = q := by rw [hp, List.length_take, List.length_drop]; omega
      have st := st.nil 5
      have hnil : (Value.slice none 0 0) = accV none 0 1 := rfl
      refine aApp st 0 (ob := none) (n := 0) rfl rfl rfl (by decide) (rfl) (st.slc s112).src (by rw [List.length_map]; simp; omega) (by omega) (by omega) fun b113 H14 hp113 st => ?_
      have st := st.recell 0 rfl (cs' := p.map (Value.int .u8)) rfl
      rw [Nat.zero_add]
      refine aMovA rfl ?_
      refine sE ?_
      show AWl _ _ _ _ _
      refine aN rfl rfl (by constructor) ?_
      refine aMovA rfl ?_
      have hys : Sl H14 1 p.length (p.map (Value.int .u8)) (accV b113 q 1) := by rw [hpl]; exact st.rowAcc 0 rfl (by decide) (by rw [List.length_map, hpl, Nat.mul_one])
      have hxs := hheld _ (st.rowAcc 2 rfl (by decide) (by simp))
      have hap := held_apart hheld (st.rowAcc 2 rfl (by decide) (by simp)) (st.ne 2 1 rfl rfl (by decide))
      refine aC (rfeed2 (k := k) (p := p) (st.get (j := 1) rfl) hxs hap hys (acc_apart (st.ne 0 1 rfl rfl (by decide))) (by omega) hfx) fun v116 H15 ⟨oh116, st1, hon⟩ => ?_
      replace st := st.callX 1 rfl st1 rfl
      clear st1
      have hR1 := r_feed hR hp
      have hk1 : (if f = 0 then k ++ p else []).length ≤ a + q := kk_len (by omega)
      have hkb1 : ByteL (if f = 0 then k ++ p else []) := kk_bytes hkb (by rw [hp]; exact (hAb.drop a).take q)
      refine sE ?_
      show AWl _ _ _ _ _
      refine aN rfl rfl (by constructor) ?_
      refine sE ?_
      show AW _ (.loop _) _ _ _
      refine AW_loopN (fun m t1 H1 => ∃ (j : Nat) (pl : List Int), m = q - j ∧ (j ≤ q) ∧ (pl.length = q) ∧ t1 24 = .int .i64 (j : Int) ∧ Stt [] H H1 [⟨some b76, true, ⟨true, 64, [(accV oh116 (if f = 0 then k ++ p else []).length 1), .bool hd, .bool dt, .int .i64 f]⟩⟩, ⟨oh116, true, ⟨true, 5, ((if f = 0 then k ++ p else [])).map (Value.int .u8)⟩⟩, ⟨b113, true, ⟨true, 5, (pl).map (Value.int .u8)⟩⟩]) (q - 0) ⟨0, p, rfl, Nat.zero_le _, hpl, rfl, (st.sel [0, 1, 2] (by decide))⟩ [24, 117, 118, 119, 120, 121, 122, 123, 124, 125] (by decide) ?_
      rintro m t1 H1 hk hI
      obtain ⟨j, pl, rfl, hjq, hplq, ht24, st⟩ := hI
      obtain ⟨u, rfl⟩ : ∃ u, t1 = (upd (mix [24, 117, 118, 119, 120, 121, 122, 123, 124, 125] _ u) (some 24) _) := ⟨t1, by rw [← hk, upd_self ht24]⟩
      clear hk ht24
      show AWl _ _ _ _ _
      refine aN rfl rfl (by constructor) ?_
      refine aMovA rfl ?_
      refine aLen (st.rowAcc 2 rfl (by decide) (by rw [List.length_map, hplq, Nat.mul_one])) rfl ?_
      refine aN rfl rfl (by constructor) ?_
      refine sE ?_
      show AW _ (.cond _ _ _) _ _ _
      refine cC' rfl (fun h16 => ?_) (fun h16 => ?_)
      ·have h16q := h16; try simp only [decide_eq_true_eq, decide_eq_false_iff_not, beq_iff_eq, beq_eq_false_iff_ne, bne_iff_ne, bne_eq_false_iff_eq, ne_eq, Decidable.not_not, Bool.not_eq_true, Bool.not_eq_false, gt_iff_lt, ge_iff_le, Int.not_lt, Int.not_le] at h16q
       show AWl _ _ _ _ _
       refine aMovA rfl ?_
       refine aN rfl rfl (by constructor) ?_
       have hjq2 : j < q := by omega
       obtain ⟨bb, hbb⟩ := st.isSome 2 rfl (by intro hc; have h9 := congrArg List.length hc; rw [List.length_map, hplq] at h9; simp at h9; omega)
       rw [hbb] at st ⊢
       refine aN (v := .pointer (some ⟨bb, 0 + ((j : Int)).toNat * 1, none⟩)) (H' := H1) rfl (e_iadr rfl rfl (by omega)) (by constructor) ?_
       refine aStAt (u := .int .u8 238) (cs := (pl.set j 238).map (Value.int .u8)) st 2 rfl rfl rfl rfl rfl (by rw [List.length_map]; show 0 + j * 1 < pl.length; omega) (by rw [List.map_set]; simp) fun H17 st => ?_
       refine sE ?_
       show AWl _ _ _ _ _
       iterate 3 refine aN rfl rfl (by constructor) ?_
       refine sE ?_
       exact ⟨_, by omega, j + 1, (pl.set j 238), rfl, by omega, by rw [List.length_set]; exact hplq, congrArg (Value.int .i64) (wi _ (by omega)), (st.sel [0, 1, 2] (by decide))⟩
      ·have h16q := h16; try simp only [decide_eq_true_eq, decide_eq_false_iff_not, beq_iff_eq, beq_eq_false_iff_ne, bne_iff_ne, bne_eq_false_iff_eq, ne_eq, Decidable.not_not, Bool.not_eq_true, Bool.not_eq_false, gt_iff_lt, ge_iff_le, Int.not_lt, Int.not_le] at h16q
       show AWl _ _ _ _ _
       iterate 2 refine aN rfl rfl (by constructor) ?_
       refine aBinV (.int .i64 ((a + q : Nat) : Int)) rfl rfl (add_nat (by omega)) ?_
       refine aN rfl rfl (by constructor) ?_
       refine sE ?_
       show AW _ (.loop _) _ _ _
       refine AW_loopN (fun m t1 H1 => ∃ (n : Nat) (k ks : List Int) (x : Value) (oh : Option Nat), m = k.length ∧ (HeldOf oh ks k x) ∧ (ByteL k) ∧ (k.length ≤ a + q) ∧ (n ≤ W.length) ∧ (f ≠ 0 → x = .slice none 0 0) ∧ (RInv hd dt A (W.map fstP) e (a + q) n k f) ∧ t1 19 = .int .i64 (n : Int) ∧ Stt [] H H1 [⟨some b76, true, ⟨true, 64, [x, .bool hd, .bool dt, .int .i64 f]⟩⟩, ⟨oh, true, ⟨true, 5, (ks).map (Value.int .u8)⟩⟩]) (if f = 0 then k ++ p else []).length ⟨n, (if f = 0 then k ++ p else []), (if f = 0 then k ++ p else []), (accV oh116 (if f = 0 then k ++ p else []).length 1), oh116, rfl, fun _ h => h, hkb1, hk1, hnW, fun h => by rw [hon h, if_neg h]; rfl, hR1, rfl, (st.sel [0, 1] (by decide))⟩ [10, 19, 20, 25, 26, 129, 130, 131, 132, 133, 134, 135, 136, 137, 138, 139, 140, 141, 142, 143, 144, 145, 146, 147, 148, 149, 150, 151] (by decide) ?_
       rintro m t1 H1 hk hI
       obtain ⟨n, k, ks, x, oh, rfl, hheld, hkb, hka, hnW, hfx, hR, ht19, st⟩ := hI
       obtain ⟨u, rfl⟩ : ∃ u, t1 = (upd (mix [10, 19, 20, 25, 26, 129, 130, 131, 132, 133, 134, 135, 136, 137, 138, 139, 140, 141, 142, 143, 144, 145, 146, 147, 148, 149, 150, 151] _ u) (some 19) _) := ⟨t1, by rw [← hk, upd_self ht19]⟩
       clear hk ht19
       show AWl _ _ _ _ _
       refine aN rfl rfl (by constructor) ?_
       have hxs := hheld _ (st.rowAcc 1 rfl (by decide) (by simp))
       have hap := held_apart hheld (st.rowAcc 1 rfl (by decide) (by simp)) (st.ne 1 0 rfl rfl (by decide))
       refine aC (rnext_call (k := k) (st.get (j := 0) rfl) hxs hap hkb (by omega)) fun v131 H18 hN => ?_
       rcases hN with ⟨h0, hv, st1⟩ | ⟨h0, hz, ob131, y131, hv, st1, hy131⟩ | ⟨h0, hz, h8, hv, st1⟩ | ⟨h0, hz, hv, st1⟩
       ·subst hv
        replace st := st.callX 0 rfl st1 rfl
        clear st1
        iterate 3 refine aN rfl rfl (by constructor) ?_
        refine aNewP st rfl rfl (by repeat constructor) fun b25 H19 st => ?_
        refine aSt st 0 rfl rfl rfl rfl (by first | rfl | simp [cellsOf, *]) (by first | decide | (simp [*]; done) | (simp [k8]; done)) (by repeat constructor) fun H20 st => ?_
        refine aN rfl rfl (by constructor) ?_
        refine sE ?_
        show AWl _ _ _ _ _
        iterate 2 refine aN rfl rfl (by constructor) ?_
        refine sE ?_
        show AWl _ _ _ _ _
        refine aN rfl rfl (by constructor) ?_
        refine aBinV (.bool true) rfl rfl (ne_int0 h0) ?_
        refine sE ?_
        show AW _ (.cond _ _ _) _ _ _
        refine cT rfl ?_
        exact ⟨(a + q), f, f, n, k, ks, x, oh, ⟨by have := hi1.2 haL; omega, fun h9 => by have := hi1.2 haL; by_cases h300 : i < 300; (omega); (have := hqn (fun h => h300 h.1); omega)⟩, by omega, ms_lt haL hq hqn, hheld, hkb, hka, hnW, hfx, hR, ⟨fun h => absurd h h0, fun _ => hR.elim (fun h => absurd h.1 h0) (fun h => h.2.2.1)⟩, rfl, rfl, rfl, (st.sel [1, 2] (by decide))⟩
       ·subst hv
        subst h0
        replace st := st.callX 0 rfl st1 rfl
        clear st1
        have hdn := dec_len48 hz
        obtain ⟨hn1, hWn, hR2⟩ := r_yes hR hz
        have hn2 : n < W.length := by rw [List.length_map] at hn1; exact hn1
        have hge : W.getD n dzE = W[n] := by simp [List.getD, List.getElem?_eq_getElem hn2]
        have hg1 : (W.getD n dzE).1 = decP k hd dt := by rw [hge, ← hWn, List.getElem_map]; rfl
        have hWx := hWd _ (getD_mem' (d := dzE) hn2)
        obtain ⟨on, hon2⟩ : ∃ on, W.getD n dzE = (decP k hd dt, on) := ⟨_, Prod.ext hg1 rfl⟩
        rw [hon2] at hWx
        iterate 3 refine aN rfl rfl (by constructor) ?_
        refine aNewP st rfl rfl (by repeat constructor) fun b25 H21 st => ?_
        refine aSt st 0 rfl rfl rfl rfl (by first | rfl | simp [cellsOf, *]) (by first | decide | (simp [*]; done) | (simp [k8]; done)) (by repeat constructor) fun H22 st => ?_
        refine aN rfl rfl (by constructor) ?_
        refine sE ?_
        show AWl _ _ _ _ _
        iterate 2 refine aN rfl rfl (by constructor) ?_
        refine sE ?_
        show AWl _ _ _ _ _
        refine aN rfl rfl (by constructor) ?_
        refine aBinV (.bool false) rfl rfl (ne_int) ?_
        refine sE ?_
        show AW _ (.cond _ _ _) _ _ _
        refine cF' rfl ?_
        show AWp _ _ _ _ _
        refine aN rfl rfl (by constructor) ?_
        refine aMovV (accV oc73 W.length 14) rfl ?_
        refine aLen (st.slc hW) rfl ?_
        refine aBinV (.bool false) rfl rfl (by exact congrArg (fun q => some (Value.bool q)) (decide_eq_false (by omega))) ?_
        refine aN rfl rfl (by constructor) ?_
        refine gT rfl ?_
        refine aLdA st 0 rfl rfl (by first | decide | simp [*]) (by repeat constructor) ?_
        refine gT rfl ?_
        refine aMovV (accV oc73 W.length 14) rfl ?_
        refine gT rfl ?_
        refine aN rfl rfl (by constructor) ?_
        refine gT rfl ?_
        refine aIxEK pdE_len dzE (l := W) (st.slc hW) rfl rfl (by omega) fun b145 o145 g145 => ?_
        refine gT rfl ?_
        refine aLdAG rfl (g145 _ (st.slc hW)) ?_
        rw [show W.getD ((n : Int)).toNat dzE = (decP k hd dt, on) from hon2]
        refine ⟨?_, trivial⟩
        refine gT rfl ?_
        refine aC (same_call (p := decP k hd dt) (st.rowAcc 2 rfl (by decide) (by simp)) (st.slc hWx)) fun v147 H23 ⟨hv, st1⟩ => ?_
        subst hv
        replace st := st.call st1 rfl
        clear st1
        refine ⟨trivial, ?_⟩
        refine gT rfl ?_
        iterate 2 refine aN rfl rfl (by constructor) ?_
        refine pE ?_
        show AW _ (.cond _ _ _) _ _ _
        refine cF' rfl ?_
        show AWl _ _ _ _ _
        iterate 3 refine aN rfl rfl (by constructor) ?_
        refine sE ?_
        exact ⟨_, by rw [List.length_drop]; omega, n + 1, (k.drop (decN k hd dt)), ks, y131, oh, rfl, fun H2 h2 => hy131 H2 (hheld H2 h2), hkb.drop _, by rw [List.length_drop]; omega, by omega, fun h => absurd rfl h, hR2, congrArg (Value.int .i64) (wi _ (by omega)), (st.sel [1, 3] (by decide))⟩
       ·subst hv
        subst h0
        replace st := st.callX 0 rfl st1 rfl
        clear st1
        obtain ⟨hR2, hE2⟩ := r_bad hR hz h8
        iterate 3 refine aN rfl rfl (by constructor) ?_
        refine aNewP st rfl rfl (by repeat constructor) fun b25 H24 st => ?_
        refine aSt st 0 rfl rfl rfl rfl (by first | rfl | simp [cellsOf, *]) (by first | decide | (simp [*]; done) | (simp [k8]; done)) (by repeat constructor) fun H25 st => ?_
        refine aN rfl rfl (by constructor) ?_
        refine sE ?_
        show AWl _ _ _ _ _
        iterate 2 refine aN rfl rfl (by constructor) ?_
        refine sE ?_
        show AWl _ _ _ _ _
        refine aN rfl rfl (by constructor) ?_
        refine aBinV (.bool true) rfl rfl (ne_int0 hz) ?_
        refine sE ?_
        show AW _ (.cond _ _ _) _ _ _
        refine cT rfl ?_
        exact ⟨(a + q), (decE k hd dt), (decE k hd dt), n, [], ks, (.slice none 0 0), oh, ⟨by have := hi1.2 haL; omega, fun h9 => by have := hi1.2 haL; by_cases h300 : i < 300; (omega); (have := hqn (fun h => h300 h.1); omega)⟩, by omega, ms_lt haL hq hqn, fun _ _ => sl_nil', ByteL.nil, Nat.zero_le _, hnW, fun _ => rfl, hR2, ⟨fun h => absurd h hz, hE2.2⟩, rfl, rfl, rfl, (st.sel [1, 2] (by decide))⟩
       ·subst hv
        subst h0
        replace st := st.callX 0 rfl st1 rfl
        clear st1
        iterate 3 refine aN rfl rfl (by constructor) ?_
        refine aNewP st rfl rfl (by repeat constructor) fun b25 H26 st => ?_
        refine aSt st 0 rfl rfl rfl rfl (by first | rfl | simp [cellsOf, *]) (by first | decide | (simp [*]; done) | (simp [k8]; done)) (by repeat constructor) fun H27 st => ?_
        refine aN rfl rfl (by constructor) ?_
        refine sE ?_
        show AWl _ _ _ _ _
        iterate 2 refine aN rfl rfl (by constructor) ?_
        refine sE ?_
        show AWl _ _ _ _ _
        refine aN rfl rfl (by constructor) ?_
        refine aBinV (.bool true) rfl rfl (ne_int0 (by decide)) ?_
        refine sE ?_
        show AW _ (.cond _ _ _) _ _ _
        refine cT rfl ?_
        exact ⟨(a + q), 8, 0, n, k, ks, x, oh, ⟨by have := hi1.2 haL; omega, fun h9 => by have := hi1.2 haL; by_cases h300 : i < 300; (omega); (have := hqn (fun h => h300 h.1); omega)⟩, by omega, ms_lt haL hq hqn, hheld, hkb, hka, hnW, hfx, hR, ⟨fun _ _ => ⟨rfl, hz⟩, fun h => absurd rfl h⟩, rfl, rfl, rfl, (st.sel [1, 2] (by decide))⟩
    ·obtain ⟨a1, ed, f, n, k, ks, x, oh, hi2, haA1, hms, hheld, hkb, hka, hnW, hfx, hR, hE, ht18, ht19, ht20, st⟩ := hI
     obtain ⟨u, rfl⟩ : ∃ u, t1 = (upd (upd (upd (mix [10, 18, 19, 20, 22, 23, 24, 25, 26, 87, 88, 89, 90, 91, 92, 93, 94, 95, 96, 97, 98, 99, 100, 101, 102, 103, 104, 105, 106, 107, 108, 109, 110, 111, 112, 113, 114, 115, 116, 117, 118, 119, 120, 121, 122, 123, 124, 125, 126, 127, 128, 129, 130, 131, 132, 133, 134, 135, 136, 137, 138, 139, 140, 141, 142, 143, 144, 145, 146, 147, 148, 149, 150, 151] _ u) (some 18) _) (some 19) _) (some 20) _) := ⟨t1, by rw [← hk, upd_self ht18, upd_self ht19, upd_self ht20]⟩
     clear hk ht18 ht19 ht20
     show AWl _ _ _ _ _
     iterate 3 refine aN rfl rfl (by constructor) ?_
     refine sE ?_
     exact ⟨_, hms, i + 1, a1, n, k, ks, x, oh, f, ed, rfl, hi2, haA1, hheld, hkb, hka, hnW, hfx, hR, hE, congrArg (Value.int .i64) (wi _ (by omega)), rfl, rfl, rfl, (st.sel [0, 1] (by decide))⟩
   ·have h11q := h11; try simp only [decide_eq_true_eq, decide_eq_false_iff_not, beq_iff_eq, beq_eq_false_iff_ne, bne_iff_ne, bne_eq_false_iff_eq, ne_eq, Decidable.not_not, Bool.not_eq_true, Bool.not_eq_false, gt_iff_lt, ge_iff_le, Int.not_lt, Int.not_le] at h11q
    obtain ⟨hf1, hf2, hf3⟩ := r_fin hR hE (by omega) hka haA
    rw [List.length_map] at hf1
    show AWl _ _ _ _ _
    refine aN rfl rfl (by constructor) ?_
    refine aMovV (accV oc73 W.length 14) rfl ?_
    refine aLen (st.slc hW) rfl ?_
    have hnn : (n : Int) = (W.length : Int) := by omega
    refine aBinV (.bool false) rfl rfl (by rw [hnn]; exact ne_int) ?_
    refine aN rfl rfl (by constructor) ?_
    refine gT rfl ?_
    refine aN rfl rfl (by constructor) ?_
    refine gT rfl ?_
    refine aN rfl rfl (by constructor) ?_
    refine gT rfl ?_
    refine aN rfl rfl (by constructor) ?_
    refine gT rfl ?_
    refine aN rfl rfl (by constructor) ?_
    refine gCase 160 rfl (fun h28 => ?_) (fun h28 => ?_)
    ·have h28q := h28; try simp only [decide_eq_true_eq, decide_eq_false_iff_not, beq_iff_eq, beq_eq_false_iff_ne, bne_iff_ne, bne_eq_false_iff_eq, ne_eq, Decidable.not_not, Bool.not_eq_true, Bool.not_eq_false, gt_iff_lt, ge_iff_le, Int.not_lt, Int.not_le] at h28q
     refine gT rfl ?_
     refine aMovV (accV b68 A.length 1) rfl ?_
     refine gT rfl ?_
     refine aLen (st.slc hA) rfl ?_
     refine gT rfl ?_
     have hA00 : ¬ (0 < A.length) := fun h => by have h9 := h28; rw [hf2 h] at h9; simp at h9
     refine aBinV (.bool false) rfl rfl (by exact congrArg (fun q => some (Value.bool q)) (decide_eq_false (by omega))) ?_
     refine gT rfl ?_
     iterate 2 refine aN rfl rfl (by constructor) ?_
     refine sE ?_
     show AW _ (.cond _ _ _) _ _ _
     refine cF' rfl ?_
     show AWl _ _ _ _ _
     iterate 2 refine aN rfl rfl (by constructor) ?_
     refine sE ?_
     show AW _ (.cond _ _ _) _ _ _
     refine cC' rfl (fun h29 => ?_) (fun h29 => ?_)
     ·have h29q := h29; try simp only [decide_eq_true_eq, decide_eq_false_iff_not, beq_iff_eq, beq_eq_false_iff_ne, bne_iff_ne, bne_eq_false_iff_eq, ne_eq, Decidable.not_not, Bool.not_eq_true, Bool.not_eq_false, gt_iff_lt, ge_iff_le, Int.not_lt, Int.not_le] at h29q
      show AWl _ _ _ _ _
      obtain ⟨hfz, hk0, hfe⟩ := hf3 (by simpa using h29)
      refine aN rfl rfl (by constructor) ?_
      refine aLit st rfl (by repeat constructor) fun b169 H30 st => ?_
      have hys : Sl H30 1 1 (([0] : List Int).map (Value.int .u8)) (accV (some b169) 1 1) := st.rowAcc 0 rfl (by decide) rfl
      have hxs := hheld _ (st.rowAcc 2 rfl (by decide) (by simp))
      have hap := held_apart hheld (st.rowAcc 2 rfl (by decide) (by simp)) (st.ne 2 1 rfl rfl (by decide))
      refine aC (rfeed2 (k := k) (p := [0]) (st.get (j := 1) rfl) hxs hap hys (acc_apart (st.ne 0 1 rfl rfl (by decide))) (by show k.length + 1 ≤ 1000000; rw [hk0]; decide) hfx) fun v170 H31 ⟨oh170, st1, hon⟩ => ?_
      replace st := st.callX 1 rfl st1 rfl
      clear st1
      have hkk : (if f = 0 then k ++ [0] else []) = ([] : List Int) := if_neg hfz
      rw [hkk] at st
      obtain rfl := hon hfz
      refine sE ?_
      show AWl _ _ _ _ _
      refine aN rfl rfl (by constructor) ?_
      refine aC (rnext_call (k := []) (st.get (j := 0) rfl) sl_nil' (fun c o n m e => by cases e) ByteL.nil (Nat.zero_le _)) fun v173 H32 hN => ?_
      rcases hN with ⟨h0, hv, st1⟩ | ⟨h0, _⟩ | ⟨h0, _⟩ | ⟨h0, _⟩
      rotate_left
      ·exact absurd h0 hfz
      ·exact absurd h0 hfz
      ·exact absurd h0 hfz
      subst hv
      replace st := st.callX 0 rfl st1 rfl
      clear st1
      iterate 3 refine aN rfl rfl (by constructor) ?_
      refine aNewP st rfl rfl (by repeat constructor) fun b27 H33 st => ?_
      refine aSt st 0 rfl rfl rfl rfl (by first | rfl | simp [cellsOf, *]) (by first | decide | (simp [*]; done) | (simp [k8]; done)) (by repeat constructor) fun H34 st => ?_
      refine aN rfl rfl (by constructor) ?_
      refine sE ?_
      show AWl _ _ _ _ _
      iterate 2 refine aN rfl rfl (by constructor) ?_
      refine aBinV (.bool true) rfl rfl (by rw [hfe]; exact eq_int) ?_
      refine aN rfl rfl (by constructor) ?_
      refine gT rfl ?_
      refine aN rfl rfl (by constructor) ?_
      refine gT rfl ?_
      refine aC (rheld_call (k := []) (st.get (j := 1) rfl) sl_nil') fun v181 H35 ⟨hv, st1⟩ => ?_
      subst hv
      replace st := st.call st1 rfl
      clear st1
      refine gT rfl ?_
      refine aBinV (.bool true) rfl rfl rfl ?_
      iterate 2 refine aN rfl rfl (by constructor) ?_
      refine sE ?_
      refine ⟨_, out1 (r_tmp rfl (by constructor)), ?_⟩
      rfl
     ·have h29q := h29; try simp only [decide_eq_true_eq, decide_eq_false_iff_not, beq_iff_eq, beq_eq_false_iff_ne, bne_iff_ne, bne_eq_false_iff_eq, ne_eq, Decidable.not_not, Bool.not_eq_true, Bool.not_eq_false, gt_iff_lt, ge_iff_le, Int.not_lt, Int.not_le] at h29q
      show AWl _ _ _ _ _
      refine aN rfl rfl (by constructor) ?_
      refine sE ?_
      refine ⟨_, out1 (r_tmp rfl (by constructor)), ?_⟩
      rfl
    ·have h28q := h28; try simp only [decide_eq_true_eq, decide_eq_false_iff_not, beq_iff_eq, beq_eq_false_iff_ne, bne_iff_ne, bne_eq_false_iff_eq, ne_eq, Decidable.not_not, Bool.not_eq_true, Bool.not_eq_false, gt_iff_lt, ge_iff_le, Int.not_lt, Int.not_le] at h28q
     refine gF rfl (by decide) ?_
     refine gF rfl (by decide) ?_
     refine gF rfl (by decide) ?_
     refine gT rfl ?_
     iterate 2 refine aN rfl rfl (by constructor) ?_
     refine sE ?_
     show AW _ (.cond _ _ _) _ _ _
     refine cF' rfl ?_
     show AWl _ _ _ _ _
     iterate 2 refine aN rfl rfl (by constructor) ?_
     refine sE ?_
     show AW _ (.cond _ _ _) _ _ _
     refine cC' rfl (fun h36 => ?_) (fun h36 => ?_)
     ·have h36q := h36; try simp only [decide_eq_true_eq, decide_eq_false_iff_not, beq_iff_eq, beq_eq_false_iff_ne, bne_iff_ne, bne_eq_false_iff_eq, ne_eq, Decidable.not_not, Bool.not_eq_true, Bool.not_eq_false, gt_iff_lt, ge_iff_le, Int.not_lt, Int.not_le] at h36q
      show AWl _ _ _ _ _
      obtain ⟨hfz, hk0, hfe⟩ := hf3 (by simpa using h36)
      refine aN rfl rfl (by constructor) ?_
      refine aLit st rfl (by repeat constructor) fun b169 H37 st => ?_
      have hys : Sl H37 1 1 (([0] : List Int).map (Value.int .u8)) (accV (some b169) 1 1) := st.rowAcc 0 rfl (by decide) rfl
      have hxs := hheld _ (st.rowAcc 2 rfl (by decide) (by simp))
      have hap := held_apart hheld (st.rowAcc 2 rfl (by decide) (by simp)) (st.ne 2 1 rfl rfl (by decide))
      refine aC (rfeed2 (k := k) (p := [0]) (st.get (j := 1) rfl) hxs hap hys (acc_apart (st.ne 0 1 rfl rfl (by decide))) (by show k.length + 1 ≤ 1000000; rw [hk0]; decide) hfx) fun v170 H38 ⟨oh170, st1, hon⟩ => ?_
      replace st := st.callX 1 rfl st1 rfl
      clear st1
      have hkk : (if f = 0 then k ++ [0] else []) = ([] : List Int) := if_neg hfz
      rw [hkk] at st
      obtain rfl := hon hfz
      refine sE ?_
      show AWl _ _ _ _ _
      refine aN rfl rfl (by constructor) ?_
      refine aC (rnext_call (k := []) (st.get (j := 0) rfl) sl_nil' (fun c o n m e => by cases e) ByteL.nil (Nat.zero_le _)) fun v173 H39 hN => ?_
      rcases hN with ⟨h0, hv, st1⟩ | ⟨h0, _⟩ | ⟨h0, _⟩ | ⟨h0, _⟩
      rotate_left
      ·exact absurd h0 hfz
      ·exact absurd h0 hfz
      ·exact absurd h0 hfz
      subst hv
      replace st := st.callX 0 rfl st1 rfl
      clear st1
      iterate 3 refine aN rfl rfl (by constructor) ?_
      refine aNewP st rfl rfl (by repeat constructor) fun b27 H40 st => ?_
      refine aSt st 0 rfl rfl rfl rfl (by first | rfl | simp [cellsOf, *]) (by first | decide | (simp [*]; done) | (simp [k8]; done)) (by repeat constructor) fun H41 st => ?_
      refine aN rfl rfl (by constructor) ?_
      refine sE ?_
      show AWl _ _ _ _ _
      iterate 2 refine aN rfl rfl (by constructor) ?_
      refine aBinV (.bool true) rfl rfl (by rw [hfe]; exact eq_int) ?_
      refine aN rfl rfl (by constructor) ?_
      refine gT rfl ?_
      refine aN rfl rfl (by constructor) ?_
      refine gT rfl ?_
      refine aC (rheld_call (k := []) (st.get (j := 1) rfl) sl_nil') fun v181 H42 ⟨hv, st1⟩ => ?_
      subst hv
      replace st := st.call st1 rfl
      clear st1
      refine gT rfl ?_
      refine aBinV (.bool true) rfl rfl rfl ?_
      iterate 2 refine aN rfl rfl (by constructor) ?_
      refine sE ?_
      refine ⟨_, out1 (r_tmp rfl (by constructor)), ?_⟩
      rfl
     ·have h36q := h36; try simp only [decide_eq_true_eq, decide_eq_false_iff_not, beq_iff_eq, beq_eq_false_iff_ne, bne_iff_ne, bne_eq_false_iff_eq, ne_eq, Decidable.not_not, Bool.not_eq_true, Bool.not_eq_false, gt_iff_lt, ge_iff_le, Int.not_lt, Int.not_le] at h36q
      show AWl _ _ _ _ _
      refine aN rfl rfl (by constructor) ?_
      refine sE ?_
      refine ⟨_, out1 (r_tmp rfl (by constructor)), ?_⟩
      rfl
end Go.Proofs.Ytfjlniemgmimnaa.Abs
