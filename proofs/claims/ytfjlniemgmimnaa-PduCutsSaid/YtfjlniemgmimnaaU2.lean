/- PDUs: bytes, as the document has them. -/
import Derived.Test.YtfjlniemgmimnaaU1
set_option linter.unusedVariables false
set_option linter.unusedSimpArgs false
set_option maxRecDepth 100000
namespace Go.Proofs.Ytfjlniemgmimnaa.Abs
open Go Go.RowKit
def headP (p : Pd) (j : Nat) : List Int := [p.op, p.fl, p.res, p.st, 0] ++ beB 3 p.data.length ++ [0, p.lun, 0, 0, 0, 0, 0, 0] ++ beB 4 p.tag ++ (p.ws.take j).flatMap (beB 4)
theorem headP_len (p : Pd) {j : Nat} (hj : j ≤ 7) : (headP p j).length = 20 + 4 * j := by
  have ht : (p.ws.take j).length = j := by rw [List.length_take]; show min j 7 = j; omega
  unfold headP
  simp only [List.length_append, flat_len, beB_len, ht, List.length_cons, List.length_nil]
theorem headP_7 (p : Pd) : headP p 7 = headL p 7 := by unfold headP headL; simp
theorem headP_step (p : Pd) {j : Nat} (hj : j < 7) : headP p j ++ beB 4 (p.ws.getD j 0) = headP p (j + 1) := by
  have hw : j < p.ws.length := hj
  have e : (p.ws.take (j + 1)).flatMap (beB 4) = (p.ws.take j).flatMap (beB 4) ++ beB 4 (p.ws.getD j 0) := by
    rw [List.take_succ_eq_append_getElem hw, List.flatMap_append]
    simp [List.getD, List.getElem?_eq_getElem hw]
  unfold headP
  rw [e]; simp only [List.append_assoc]
theorem pdc_at (p : Pd) {x : Value} {j : Nat} (hj : j < 7) : ([.int .u8 p.op, .int .u8 p.fl, .int .u8 p.res, .int .u8 p.st, .int .u8 p.lun, .int .u32 p.tag, .int .u32 p.w0, .int .u32 p.w1, .int .u32 p.w2, .int .u32 p.w3, .int .u32 p.w4, .int .u32 p.w5, .int .u32 p.w6, x] : List Value)[6 + ((j : Int)).toNat * 1]? = some (.int .u32 (p.ws.getD j 0)) := by
  have : j = 0 ∨ j = 1 ∨ j = 2 ∨ j = 3 ∨ j = 4 ∨ j = 5 ∨ j = 6 := by omega
  rcases this with h | h | h | h | h | h | h <;> subst h <;> rfl
theorem renc_call {H : Hp} {p : Pd} {x : Value} {hd dt : Bool} (hp : p.wf) (hx : Sl H 1 p.data.length (p.data.map (Value.int .u8)) x) :
  ACalls Try.prog 11 [.agg #[.int .u8 p.op, .int .u8 p.fl, .int .u8 p.res, .int .u8 p.st, .int .u8 p.lun, .int .u32 p.tag, .int .u32 p.w0, .int .u32 p.w1, .int .u32 p.w2, .int .u32 p.w3, .int .u32 p.w4, .int .u32 p.w5, .int .u32 p.w6, x], .bool hd, .bool dt] H (fun v H' => ∃ ob, v = .tuple #[accV ob (encR p hd dt).length 1, .int .i64 (encE p)] ∧ Stt [] H H' [⟨ob, true, ⟨true, 5, (encR p hd dt).map (Value.int .u8)⟩⟩]) := by
 refine acallsW Try.func11 f11_ok (Nat.le_of_ble_eq_true rfl) fun hw => ?_
 have st : Stt [] H H [] := Stt.start hw
 have hdl := hp.2.2.2.2
 unfold f11c
 show AWl _ _ _ _ _
 refine aBoxN st rfl rfl (by repeat constructor) rfl fun b3 H1 st => ?_
 iterate 2 refine aN rfl rfl (by constructor) ?_
 refine sE ?_
 show AWl _ _ _ _ _
 refine aN rfl rfl (by constructor) ?_
 refine aLdQ st 0 rfl rfl rfl (rfl : x = _) ?_
 refine aLen (st.slc hx) rfl ?_
 refine aN rfl rfl (by constructor) ?_
 refine sE ?_
 show AW _ (.cond _ _ _) _ _ _
 refine cC' rfl (fun h2 => ?_) (fun h2 => ?_)
 ·have h8 : (p.data.length > 8192) := by have := of_decide_eq_true h2; omega
  show AWl _ _ _ _ _
  iterate 2 refine aN rfl rfl (by constructor) ?_
  refine sE ?_
  refine ⟨_, out2 (r_tmp rfl (by constructor)) (r_tmp rfl (by constructor)) ⟨rfl, rfl⟩, ?_⟩
  have eR : encR p hd dt = [] := if_pos h8
  have eE : encE p = 2 := if_pos h8
  exact ⟨none, by rw [eR, eE]; rfl, by rw [eR]; exact (st.nil 5).pick 0 rfl⟩
 ·have h8 : ¬ (p.data.length > 8192) := by have := of_decide_eq_false h2; omega
  have ht := hp.2.1; unfold B32 at ht; have ⟨hpb, _⟩ := hp; unfold B8 at hpb
  have hpl := padN_le p.data.length
  show AWl _ _ _ _ _
  refine aN rfl rfl (by constructor) ?_
  refine aLd st 0 rfl rfl rfl (by constructor) ?_
  refine aN rfl rfl (by constructor) ?_
  refine aLd st 0 rfl rfl rfl (by constructor) ?_
  refine aN rfl rfl (by constructor) ?_
  refine aLd st 0 rfl rfl rfl (by constructor) ?_
  refine aN rfl rfl (by constructor) ?_
  refine aLd st 0 rfl rfl rfl (by constructor) ?_
  refine aLit st rfl (by repeat constructor) fun b23 H3 st => ?_
  refine aN rfl rfl (by constructor) ?_
  refine sE ?_
  show AWl _ _ _ _ _
  iterate 2 refine aN rfl rfl (by constructor) ?_
  refine aLdQ st 1 rfl rfl rfl (rfl : x = _) ?_
  refine aLen (st.slc hx) rfl ?_
  refine aN rfl rfl (by constructor) ?_
  refine aC (big_call (n := 3) (by decide)) fun v29 H4 ⟨b29, hv, st1⟩ => ?_
  subst hv
  replace st := st.call st1 rfl
  clear st1
  refine aAppP st 1 (ob := some b23) rfl rfl rfl (by decide) (by first | rfl | (simp [beB_len, *]; done) | (simp [beB_len, *]; omega)) (st.rowAll 0 rfl (by simp [beB_len])).src (by first | rfl | simp [beB_len]) (by omega) (by omega) (by omega) (NfL.any _) fun b30 H5 st => ?_
  refine aN rfl rfl (by constructor) ?_
  refine sE ?_
  show AWl _ _ _ _ _
  iterate 2 refine aN rfl rfl (by constructor) ?_
  refine aLd st 2 rfl rfl rfl (by constructor) ?_
  refine aLit st rfl (by repeat constructor) fun b34 H6 st => ?_
  refine aAppP st 2 (ob := some b30) rfl rfl rfl (by decide) (by simp [beB_len]) (st.rowAll 0 rfl (by first | rfl | (simp [beB_len, *]; done) | (simp [beB_len, *]; omega))).src (by first | rfl | simp [beB_len]) (by omega) (by omega) (by omega) (NfL.any _) fun b35 H7 st => ?_
  refine aN rfl rfl (by constructor) ?_
  refine sE ?_
  show AWl _ _ _ _ _
  iterate 2 refine aN rfl rfl (by constructor) ?_
  refine aLd st 3 rfl rfl rfl (by constructor) ?_
  refine aN rfl rfl (by constructor) ?_
  refine aC (big_call (n := 4) (by decide)) fun v40 H8 ⟨b40, hv, st1⟩ => ?_
  subst hv
  replace st := st.call st1 rfl
  clear st1
  refine aAppP st 3 (ob := some b35) rfl rfl rfl (by decide) (by simp [beB_len]) (st.rowAll 0 rfl (by simp [beB_len])).src (by first | rfl | simp [beB_len]) (by omega) (by omega) (by omega) (NfL.any _) fun b41 H9 st => ?_
  rw [wu (by omega), wu (by omega)] at st
  rw [show ([.int .u8 p.op, .int .u8 p.fl, .int .u8 p.res, .int .u8 p.st, .int .u8 0] : List Value) ++ (beB 3 (p.data.length : Int)).map (Value.int .u8) ++ [.int .u8 0, .int .u8 p.lun, .int .u8 0, .int .u8 0, .int .u8 0, .int .u8 0, .int .u8 0, .int .u8 0] ++ (beB 4 p.tag).map (Value.int .u8) = (headP p 0).map (Value.int .u8) from rfl] at st
  rw [show 5 + 3 + 8 + 4 = 20 + 4 * 0 from rfl]
  refine aN rfl rfl (by constructor) ?_
  refine sE ?_
  show AWl _ _ _ _ _
  refine aN rfl rfl (by constructor) ?_
  refine sE ?_
  show AW _ (.loop _) _ _ _
  refine AW_loopN (fun m t1 H1 => ∃ (j : Nat) (b : Nat), m = 7 - j ∧ (j ≤ 7) ∧ t1 8 = .slice (some ⟨b, 0, none⟩) (20 + 4 * j) 1 ∧ t1 9 = .int .i64 (j : Int) ∧ Stt [] H H1 [⟨some b, true, ⟨true, 5, (headP p j).map (Value.int .u8)⟩⟩, ⟨some b3, true, ⟨true, 26, [.int .u8 p.op, .int .u8 p.fl, .int .u8 p.res, .int .u8 p.st, .int .u8 p.lun, .int .u32 p.tag, .int .u32 p.w0, .int .u32 p.w1, .int .u32 p.w2, .int .u32 p.w3, .int .u32 p.w4, .int .u32 p.w5, .int .u32 p.w6, x]⟩⟩]) (7 - 0) ⟨0, b41, rfl, by omega, rfl, rfl, (st.sel [3, 4] (by decide))⟩ [8, 9, 42, 43, 44, 45, 46, 47, 48, 49, 50, 51, 52, 53] (by decide) ?_
  rintro m t1 H1 hk hI
  obtain ⟨j, b, rfl, hj, ht8, ht9, st⟩ := hI
  obtain ⟨u, rfl⟩ : ∃ u, t1 = (upd (upd (mix [8, 9, 42, 43, 44, 45, 46, 47, 48, 49, 50, 51, 52, 53] _ u) (some 8) _) (some 9) _) := ⟨t1, by rw [← hk, upd_self ht8, upd_self ht9]⟩
  clear hk ht8 ht9
  show AWl _ _ _ _ _
  iterate 2 refine aN rfl rfl (by constructor) ?_
  refine sE ?_
  show AW _ (.cond _ _ _) _ _ _
  refine cC' rfl (fun h10 => ?_) (fun h10 => ?_)
  ·have hlt : j < 7 := by have := of_decide_eq_true h10; omega
   have hwj := hp.2.2.1 _ (ws_getD p j hlt); unfold B32 at hwj
   show AWl _ _ _ _ _
   iterate 3 refine aN rfl rfl (by constructor) ?_
   refine aIxA rfl rfl (by omega) ?_
   refine aLd st 1 rfl rfl (pdc_at p hlt) (by constructor) ?_
   refine aN rfl rfl (by constructor) ?_
   refine aC (big_call (n := 4) (by decide)) fun v52 H11 ⟨b52, hv, st1⟩ => ?_
   subst hv
   replace st := st.call st1 rfl
   clear st1
   refine aAppP st 1 (ob := some b) rfl rfl rfl (by decide) (by first | (rw [List.length_map, headP_len p (by omega)]; done) | (rw [List.length_map, headP_len p (by omega)]; omega)) (st.rowAll 0 rfl (by simp [beB_len])).src (by first | rfl | simp [beB_len]) (by omega) (by omega) (by omega) (NfL.any _) fun b53 H12 st => ?_
   rw [wu (by omega), ← List.map_append, headP_step p hlt] at st
   refine aN rfl rfl (by constructor) ?_
   refine sE ?_
   show AWl _ _ _ _ _
   iterate 3 refine aN rfl rfl (by constructor) ?_
   refine sE ?_
   exact ⟨_, by omega, j + 1, b53, rfl, by omega, congrArg (fun n => Value.slice _ n 1) (by omega), congrArg (Value.int .i64) (wi _ (by omega)), (st.sel [1, 2] (by decide))⟩
  ·have hge : j = 7 := by have := of_decide_eq_false h10; omega
   subst hge
   rw [headP_7] at st
   rw [show 20 + 4 * 7 = 48 from rfl]
   refine AW_cutK (b := .seq (.list (⟨some 10, _, _⟩ :: _)) _) (fun t1 H1 => ∃ (b : Nat), t1 8 = .slice (some ⟨b, 0, none⟩) (hdrL p hd).length 1 ∧ Stt [] H H1 [⟨some b, true, ⟨true, 5, (hdrL p hd).map (Value.int .u8)⟩⟩, ⟨some b3, true, ⟨true, 26, [.int .u8 p.op, .int .u8 p.fl, .int .u8 p.res, .int .u8 p.st, .int .u8 p.lun, .int .u32 p.tag, .int .u32 p.w0, .int .u32 p.w1, .int .u32 p.w2, .int .u32 p.w3, .int .u32 p.w4, .int .u32 p.w5, .int .u32 p.w6, x]⟩⟩]) [8, 54, 55, 56, 57, 58] (by decide) ?_ fun t1 H1 hk hI => ?_
   ·show AWl _ _ _ _ _
    refine aN rfl rfl (by constructor) ?_
    refine sE ?_
    show AW _ (.cond _ _ _) _ _ _
    refine cC' rfl (fun h13 => ?_) (fun h13 => ?_)
    ·show AWl _ _ _ _ _
     iterate 2 refine aN rfl rfl (by constructor) ?_
     refine aC (rsum_call (xs := (headL p 7)) (by rw [headL_len p (by omega)]; exact (st.rowAll 0 rfl (by rw [List.length_map, headL_len p (by omega)]))) (headL_bytes hp 7) (by rw [headL_len p (by omega)]; omega)) fun v57 H14 ⟨b57, hv, st1⟩ => ?_
     subst hv
     replace st := st.call st1 rfl
     clear st1
     refine aAppP st 1 (ob := some b) rfl rfl rfl (by decide) (by rw [List.length_map, headL_len p (by omega)]) (st.rowAll 0 rfl (by simp [beB_len])).src (by simp [beB_len]) (by omega) (by omega) (by omega) (NfL.any _) fun b58 H15 st => ?_
     refine aN rfl rfl (by constructor) ?_
     refine sE ?_
     have e2 : hdrL p hd = headL p 7 ++ beB 4 (c32 (headL p 7)) := by unfold hdrL; rw [if_pos h13]
     have e3 : (hdrL p hd).length = 52 := by rw [e2]; simp [beB_len, headL_len p (Nat.le_refl 7)]
     refine ⟨b58, by rw [e3]; rfl, ?_⟩
     have st2 := st.sel [1, 2] (by decide)
     rw [e2]; simpa [List.map_append] using st2
    ·have e2 : hdrL p hd = headL p 7 ++ [] := by unfold hdrL; rw [if_neg (by rw [h13]; decide)]
     have e3 : (hdrL p hd).length = 48 := by rw [e2]; simp [beB_len, headL_len p (Nat.le_refl 7)]
     refine ⟨b, by rw [e3]; rfl, ?_⟩
     have st2 := st.sel [0, 1] (by decide)
     rw [e2]; simpa [List.map_append] using st2
   ·obtain ⟨b, ht8, st⟩ := hI
    obtain ⟨u, rfl⟩ : ∃ u, t1 = (upd (mix [8, 54, 55, 56, 57, 58] _ u) (some 8) _) := ⟨t1, by rw [← hk, upd_self ht8]⟩
    clear hk ht8
    show AWl _ _ _ _ _
    refine aN rfl rfl (by constructor) ?_
    refine sE ?_
    show AWl _ _ _ _ _
    iterate 2 refine aN rfl rfl (by constructor) ?_
    refine aLdQ st 1 rfl rfl rfl (rfl : x = _) ?_
    have st := st.nil 5
    have hnil : (Value.slice none 0 0) = accV none 0 1 := rfl
    refine aApp st 0 (ob := none) (n := 0) rfl rfl rfl (by decide) (rfl) (st.slc hx).src (by simp) (by omega) (by omega) fun b62 H16 hp62 st => ?_
    refine aMovA rfl ?_
    refine sE ?_
    show AW _ (.loop _) _ _ _
    refine AW_loopN (fun m t1 H1 => ∃ (k : Nat) (ob : Option Nat), m = padN p.data.length - k ∧ (k ≤ padN p.data.length) ∧ t1 10 = accV ob (p.data.length + k) 1 ∧ Stt [] H H1 [⟨ob, true, ⟨true, 5, (p.data ++ List.replicate k (0 : Int)).map (Value.int .u8)⟩⟩, ⟨some b, true, ⟨true, 5, (hdrL p hd).map (Value.int .u8)⟩⟩, ⟨some b3, true, ⟨true, 26, [.int .u8 p.op, .int .u8 p.fl, .int .u8 p.res, .int .u8 p.st, .int .u8 p.lun, .int .u32 p.tag, .int .u32 p.w0, .int .u32 p.w1, .int .u32 p.w2, .int .u32 p.w3, .int .u32 p.w4, .int .u32 p.w5, .int .u32 p.w6, x]⟩⟩]) (padN p.data.length - 0) ⟨0, b62, rfl, Nat.zero_le _, congrArg (fun n => accV _ n 1) (by omega), (by have st2 := (st.sel [0, 1, 2] (by decide)); rw [List.nil_append] at st2; rw [show p.data ++ List.replicate 0 (0 : Int) = p.data by simp]; exact st2)⟩ [10, 63, 64, 65, 66, 67, 68, 69] (by decide) ?_
    rintro m t1 H1 hk hI
    obtain ⟨k, ob, rfl, hkp, ht10, st⟩ := hI
    obtain ⟨u, rfl⟩ : ∃ u, t1 = (upd (mix [10, 63, 64, 65, 66, 67, 68, 69] _ u) (some 10) _) := ⟨t1, by rw [← hk, upd_self ht10]⟩
    clear hk ht10
    show AWl _ _ _ _ _
    refine aMovA rfl ?_
    refine aLen (st.rowAcc 0 rfl (by decide) (by simp)) rfl ?_
    iterate 2 refine aN rfl rfl (by constructor) ?_
    refine sE ?_
    show AW _ (.cond _ _ _) _ _ _
    refine cC' rfl (fun h17 => ?_) (fun h17 => ?_)
    ·have hr : ((p.data.length + k : Nat) : Int).tmod 4 ≠ 0 := by simpa using h17
     rw [Int.tmod_eq_emod_of_nonneg (by omega)] at hr
     have hk : k < padN p.data.length := by unfold padN at *; omega
     show AWl _ _ _ _ _
     refine aMovA rfl ?_
     refine aLit st rfl (by repeat constructor) fun b68 H18 st => ?_
     refine aApp st 1 (ob := ob) rfl rfl rfl (by decide) (by simp) (st.rowAll 0 rfl (by first | rfl | (simp [beB_len, *]; done) | (simp [beB_len, *]; omega))).src (by first | rfl | simp) (by omega) (by omega) fun b69 H19 hp69 st => ?_
     rw [show (p.data ++ List.replicate k (0 : Int)).map (Value.int .u8) ++ [Value.int .u8 0] = (p.data ++ List.replicate (k + 1) (0 : Int)).map (Value.int .u8) by rw [List.replicate_succ', ← List.append_assoc, List.map_append (l₁ := p.data ++ List.replicate k (0 : Int))]; rfl] at st
     refine aMovA rfl ?_
     refine sE ?_
     exact ⟨_, by omega, k + 1, b69, rfl, by omega, congrArg (fun n => accV _ n 1) (by omega), (st.sel [1, 2, 3] (by decide))⟩
    ·have hr : ((p.data.length + k : Nat) : Int).tmod 4 = 0 := by simpa using h17
     rw [Int.tmod_eq_emod_of_nonneg (by omega)] at hr
     have hk : k = padN p.data.length := by unfold padN at *; omega
     subst hk
     rw [show p.data ++ List.replicate (padN p.data.length) 0 = bodyL p from rfl] at st
     have hbl := bodyL_len p
     rw [← hbl]
     show AWl _ _ _ _ _
     refine aN rfl rfl (by constructor) ?_
     refine aMovA rfl ?_
     refine aAppP st 1 (ob := some b) rfl rfl rfl (by decide) (by simp) (st.rowAcc 0 rfl (by decide) (by simp)).src (by simp) (by have : (hdrL p hd).length ≤ 52 := by { unfold hdrL; split <;> simp [beB_len, headL_len p (Nat.le_refl 7)] }; omega) (by have : (hdrL p hd).length ≤ 52 := by { unfold hdrL; split <;> simp [beB_len, headL_len p (Nat.le_refl 7)] }; omega) (by have : 48 ≤ (hdrL p hd).length := by { unfold hdrL; simp [headL_len p (Nat.le_refl 7)] }; omega) (NfL.any _) fun b72 H20 st => ?_
     refine aN rfl rfl (by constructor) ?_
     refine sE ?_
     show AWl _ _ _ _ _
     iterate 2 refine aN rfl rfl (by constructor) ?_
     refine gCase 74 rfl (fun h21 => ?_) (fun h21 => ?_)
     ·refine gT rfl ?_
      refine aMovA rfl ?_
      refine gT rfl ?_
      refine aLen (st.rowAcc 0 rfl (by decide) (by simp)) rfl ?_
      refine gT rfl ?_
      iterate 2 refine aN rfl rfl (by constructor) ?_
      refine sE ?_
      show AW _ (.cond _ _ _) _ _ _
      refine cC' rfl (fun h22 => ?_) (fun h22 => ?_)
      ·show AWl _ _ _ _ _
       refine aN rfl rfl (by constructor) ?_
       refine aMovA rfl ?_
       refine aC (rsum_call (xs := (bodyL p)) (st.rowAcc 0 rfl (by decide) (by simp)) (bodyL_bytes hp) (by rw [bodyL_len]; have := padN_le p.data.length; omega)) fun v81 H23 ⟨b81, hv, st1⟩ => ?_
       subst hv
       replace st := st.call st1 rfl
       clear st1
       refine aAppP st 2 (ob := some b72) rfl rfl rfl (by decide) (by simp) (st.rowAll 0 rfl (by simp [beB_len])).src (by simp [beB_len]) (by have : (hdrL p hd).length ≤ 52 := by { unfold hdrL; split <;> simp [beB_len, headL_len p (Nat.le_refl 7)] }; omega) (by have : (hdrL p hd).length ≤ 52 := by { unfold hdrL; split <;> simp [beB_len, headL_len p (Nat.le_refl 7)] }; omega) (by omega) (NfL.any _) fun b82 H24 st => ?_
       refine aN rfl rfl (by constructor) ?_
       refine sE ?_
       show AWl _ _ _ _ _
       iterate 3 refine aN rfl rfl (by constructor) ?_
       refine sE ?_
       refine ⟨_, out2 (r_tmp rfl (by constructor)) (r_tmp rfl (by constructor)) ⟨rfl, rfl⟩, ?_⟩
       have eE : encE p = 0 := if_neg h8
       have eR : encR p hd dt = encB p hd dt := if_neg h8
       have hz : (0 < (bodyL p).length) := by have := of_decide_eq_true h22; omega
       have e3 : encB p hd dt = hdrL p hd ++ (bodyL p ++ beB 4 (c32 (bodyL p))) := by unfold encB; rw [if_pos ⟨h21, hz⟩]
       refine ⟨some b82, ?_, ?_⟩
       ·rw [eR, eE, e3]; exact congrArg (fun n => Value.tuple #[accV (some _) n 1, .int .i64 0]) (by simp only [List.length_append, beB_len, List.length_nil]; omega)
       ·rw [eR, e3]; have st2 := st.pick 2 rfl; simpa [List.map_append] using st2
      ·show AWl _ _ _ _ _
       iterate 3 refine aN rfl rfl (by constructor) ?_
       refine sE ?_
       refine ⟨_, out2 (r_tmp rfl (by constructor)) (r_tmp rfl (by constructor)) ⟨rfl, rfl⟩, ?_⟩
       have eE : encE p = 0 := if_neg h8
       have eR : encR p hd dt = encB p hd dt := if_neg h8
       have hz : ¬ (0 < (bodyL p).length) := by have := of_decide_eq_false h22; omega
       have e3 : encB p hd dt = hdrL p hd ++ (bodyL p ++ []) := by unfold encB; rw [if_neg (fun hc => hz hc.2)]
       refine ⟨some b72, ?_, ?_⟩
       ·rw [eR, eE, e3]; exact congrArg (fun n => Value.tuple #[accV (some _) n 1, .int .i64 0]) (by simp only [List.length_append, beB_len, List.length_nil]; omega)
       ·rw [eR, e3]; have st2 := st.pick 1 rfl; simpa [List.map_append] using st2
     ·refine gF rfl (by decide) ?_
      refine gF rfl (by decide) ?_
      refine gF rfl (by decide) ?_
      refine aN rfl rfl (by constructor) ?_
      refine sE ?_
      show AW _ (.cond _ _ _) _ _ _
      refine cF' rfl ?_
      show AWl _ _ _ _ _
      iterate 3 refine aN rfl rfl (by constructor) ?_
      refine sE ?_
      refine ⟨_, out2 (r_tmp rfl (by constructor)) (r_tmp rfl (by constructor)) ⟨rfl, rfl⟩, ?_⟩
      have eE : encE p = 0 := if_neg h8
      have eR : encR p hd dt = encB p hd dt := if_neg h8
      have e3 : encB p hd dt = hdrL p hd ++ (bodyL p ++ []) := by unfold encB; rw [if_neg (fun hc => by rw [h21] at hc; cases hc.1)]
      refine ⟨some b72, ?_, ?_⟩
      ·rw [eR, eE, e3]; exact congrArg (fun n => Value.tuple #[accV (some _) n 1, .int .i64 0]) (by simp only [List.length_append, beB_len, List.length_nil]; omega)
      ·rw [eR, e3]; have st2 := st.pick 1 rfl; simpa [List.map_append] using st2
end Go.Proofs.Ytfjlniemgmimnaa.Abs
