/- The tables of the document as bytes, out of bytes, and beside the program's. -/
import Derived.Test.YtihkghfmihdicaaX4
import Derived.Test.YtihkghfmihdicaaS4
set_option linter.unusedVariables false
set_option linter.unusedSimpArgs false
set_option maxRecDepth 100000
namespace Go.Proofs.Ytihkghfmihdicaa.Abs
open Go Go.RowKit
theorem xsave_len (X : XT) (j : Nat) : ([80, 82, IntKind.u8.wrap (reservedM (xpt X)).1, IntKind.u8.wrap (reservedM (xpt X)).2, IntKind.u8.wrap ((xr X.ks).length : Int)] ++ (xrTo X.ks j).flatMap regB).length = 5 + 9 * (xrTo X.ks j).length := by
  rw [List.length_append, flatB_len]
  simp only [List.length_cons, List.length_nil]
  omega
theorem res_byte {X : XT} (h : 0 ≤ X.kd ∧ X.kd < 256) : IntKind.u8.wrap (reservedM (xpt X)).1 = (reservedM (xpt X)).1 := by
  have e : reservedM (xpt X) = (if X.kd = 0 then (0, -1) else if allB X.kd = true then (X.kd, -1) else (X.kd, if X.kd = 0 then -1 else X.hd)) := rfl
  rw [e]
  split
  · rfl
  · split <;> (show IntKind.u8.wrap X.kd = X.kd; rw [w8]; omega)
theorem xsave_call {H : Hp} {b : Nat} {X : XT} (hk : H.m b = some ⟨true, 65, k8 X.ks [.int .i64 X.kd, .int .i64 X.hd, .int .u32 X.gen, .bool X.ls]⟩) (hkd : 0 ≤ X.kd ∧ X.kd < 256) :
  ACalls Try.prog 26 [.pointer (some ⟨b, 0, none⟩)] H (fun v H' => ∃ oc, v = accV oc (saveM (xpt X)).length 1 ∧ Stt [] H H' [⟨oc, true, ⟨true, 5, (saveM (xpt X)).map (Value.int .u8)⟩⟩]) := by
 refine acallsW Try.func26 f26_ok (Nat.le_of_ble_eq_true rfl) fun hw => ?_
 have st : Stt [] H H [] := Stt.start hw
 replace st := st.ro hk (by simp)
 unfold f26c
 show AWl _ _ _ _ _
 refine aN rfl rfl (by constructor) ?_
 refine sE ?_
 show AWl _ _ _ _ _
 iterate 3 refine aN rfl rfl (by constructor) ?_
 refine aLd st 0 rfl rfl rfl (by constructor) ?_
 refine aN rfl rfl (by constructor) ?_
 refine sE ?_
 show AW _ (.cond _ _ _) _ _ _
 refine cC' rfl (fun h1 => ?_) (fun h1 => ?_)
 ·have h1q := h1; try simp only [decide_eq_true_eq, decide_eq_false_iff_not, beq_iff_eq, beq_eq_false_iff_ne, bne_iff_ne, bne_eq_false_iff_eq, ne_eq, Decidable.not_not, Bool.not_eq_true, Bool.not_eq_false, gt_iff_lt, ge_iff_le, Int.not_lt, Int.not_le] at h1q
  have h1n : X.ls = false := Eq.mp (Bool.not_eq_true' _) h1
  show AWl _ _ _ _ _
  refine aN rfl rfl (by constructor) ?_
  refine sE ?_
  refine ⟨_, out1 (r_tmp rfl (by constructor)), ?_⟩
  have hf : X.ls = false := by simp_all
  exact ⟨none, by rw [show saveM (xpt X) = [] from if_pos hf]; rfl, by rw [show saveM (xpt X) = [] from if_pos hf]; exact (st.nil 5).pick 0 rfl⟩
 ·have h1q := h1; try simp only [decide_eq_true_eq, decide_eq_false_iff_not, beq_iff_eq, beq_eq_false_iff_ne, bne_iff_ne, bne_eq_false_iff_eq, ne_eq, Decidable.not_not, Bool.not_eq_true, Bool.not_eq_false, gt_iff_lt, ge_iff_le, Int.not_lt, Int.not_le] at h1q
  have h1n : X.ls = true := Eq.mp (Bool.not_eq_false' _) h1
  show AWl _ _ _ _ _
  refine aN rfl rfl (by constructor) ?_
  refine aC (xresd_call (X := X) (st.get (j := 0) rfl)) fun v14 H2 ⟨hv, st1⟩ => ?_
  subst hv
  replace st := st.call st1 rfl
  clear st1
  iterate 5 refine aN rfl rfl (by constructor) ?_
  refine sE ?_
  show AWl _ _ _ _ _
  iterate 5 refine aN rfl rfl (by constructor) ?_
  refine aC (count_call (X := X) (st.get (j := 0) rfl)) fun v22 H3 ⟨hv, st1⟩ => ?_
  subst hv
  replace st := st.call st1 rfl
  clear st1
  refine aN rfl rfl (by constructor) ?_
  refine aLit st rfl (by repeat constructor) fun b24 H4 st => ?_
  refine aN rfl rfl (by constructor) ?_
  refine sE ?_
  show AWl _ _ _ _ _
  refine aN rfl rfl (by constructor) ?_
  refine sE ?_
  show AW _ (.loop _) _ _ _
  have st := st.toI 0 rfl rfl (by repeat constructor)
  refine AW_loopN (fun m t1 H1 => ∃ (j : Nat) (c : Nat), m = 8 - j ∧ (j ≤ 8) ∧ t1 6 = .int .i64 (j : Int) ∧ t1 5 = .slice (some ⟨c, 0, none⟩) (5 + 9 * (xrTo X.ks j).length) 1 ∧ Stt [] H H1 [⟨some c, true, ⟨true, 5, ([80, 82, IntKind.u8.wrap (reservedM (xpt X)).1, IntKind.u8.wrap (reservedM (xpt X)).2, IntKind.u8.wrap ((xr X.ks).length : Int)] ++ (xrTo X.ks j).flatMap regB).map (Value.int .u8)⟩⟩, ⟨some b, false, ⟨true, 65, k8 X.ks [.int .i64 X.kd, .int .i64 X.hd, .int .u32 X.gen, .bool X.ls]⟩⟩]) (8 - 0) ⟨0, b24, rfl, by omega, rfl, rfl, (st.sel [0, 1] (by decide))⟩ [5, 6, 25, 26, 27, 28, 29, 30, 31, 32, 33, 34, 35, 36, 37, 38, 39, 40, 41, 42, 43, 44, 45, 46, 47, 48, 49] (by decide) ?_
  rintro m t1 H1 hk hI
  obtain ⟨j, c, rfl, hj, ht6, ht5, st⟩ := hI
  obtain ⟨u, rfl⟩ : ∃ u, t1 = (upd (upd (mix [5, 6, 25, 26, 27, 28, 29, 30, 31, 32, 33, 34, 35, 36, 37, 38, 39, 40, 41, 42, 43, 44, 45, 46, 47, 48, 49] _ u) (some 6) _) (some 5) _) := ⟨t1, by rw [← hk, upd_self ht6, upd_self ht5]⟩
  clear hk ht6 ht5
  show AWl _ _ _ _ _
  iterate 2 refine aN rfl rfl (by constructor) ?_
  refine sE ?_
  show AW _ (.cond _ _ _) _ _ _
  refine cC' rfl (fun h5 => ?_) (fun h5 => ?_)
  ·have h5q := h5; try simp only [decide_eq_true_eq, decide_eq_false_iff_not, beq_iff_eq, beq_eq_false_iff_ne, bne_iff_ne, bne_eq_false_iff_eq, ne_eq, Decidable.not_not, Bool.not_eq_true, Bool.not_eq_false, gt_iff_lt, ge_iff_le, Int.not_lt, Int.not_le] at h5q
   have hlt : j < 8 := by have := of_decide_eq_true h5; omega
   have hxl := xrTo_len X.ks j
   show AWl _ _ _ _ _
   iterate 4 refine aN rfl rfl (by constructor) ?_
   refine aIxA rfl rfl (by omega) ?_
   refine aLd st 1 rfl rfl (k8_at X.ks _ (by omega)) (by constructor) ?_
   refine aN rfl rfl (by constructor) ?_
   refine sE ?_
   show AW _ (.cond _ _ _) _ _ _
   refine cC' rfl (fun h6 => ?_) (fun h6 => ?_)
   ·have h6q := h6; try simp only [decide_eq_true_eq, decide_eq_false_iff_not, beq_iff_eq, beq_eq_false_iff_ne, bne_iff_ne, bne_eq_false_iff_eq, ne_eq, Decidable.not_not, Bool.not_eq_true, Bool.not_eq_false, gt_iff_lt, ge_iff_le, Int.not_lt, Int.not_le] at h6q
    have ho : xrTo X.ks (j + 1) = xrTo X.ks j ++ [((j : Int), X.ks.getD j 0)] := xrTo_t (by simpa using h6)
    show AWl _ _ _ _ _
    iterate 3 refine aN rfl rfl (by constructor) ?_
    refine aLit st rfl (by repeat constructor) fun b39 H7 st => ?_
    refine aAppP st 1 (ob := some c) rfl rfl rfl (by decide) (by rw [List.length_map, xsave_len X j, Nat.mul_one]) (st.rowAll 0 rfl (by first | rfl | (simp [beB_len, *]; done) | (simp [beB_len, *]; omega))).src (by rfl) (by omega) (by omega) (by omega) (NfL.any _) fun b40 H8 st => ?_
    refine aN rfl rfl (by constructor) ?_
    refine sE ?_
    show AWl _ _ _ _ _
    iterate 5 refine aN rfl rfl (by constructor) ?_
    refine aIxA rfl rfl (by omega) ?_
    refine aLd st 2 rfl rfl (k8_at X.ks _ (by omega)) (by constructor) ?_
    refine aC (big_call (n := 8) (v := X.ks.getD j 0) (by decide)) fun v48 H9 ⟨b48, hv, st1⟩ => ?_
    subst hv
    replace st := st.call st1 rfl
    clear st1
    refine aAppP st 2 (ob := some b40) rfl rfl rfl (by decide) (by rw [List.length_append, List.length_map, xsave_len X j]; show _ + 1 = _; omega) (st.rowAll 0 rfl (by simp [beB_len])).src (by simp [beB_len]) (by omega) (by omega) (by omega) (NfL.any _) fun b49 H10 st => ?_
    have st := st.recell 2 rfl (cs' := ([80, 82, IntKind.u8.wrap (reservedM (xpt X)).1, IntKind.u8.wrap (reservedM (xpt X)).2, IntKind.u8.wrap ((xr X.ks).length : Int)] ++ (xrTo X.ks (j + 1)).flatMap regB).map (Value.int .u8)) (by rw [ho, List.flatMap_append]; simp [regB])
    refine aN rfl rfl (by constructor) ?_
    refine sE ?_
    show AWl _ _ _ _ _
    iterate 3 refine aN rfl rfl (by constructor) ?_
    refine sE ?_
    exact ⟨_, by omega, j + 1, b49, rfl, by omega, congrArg (Value.int .i64) (wi _ (by omega)), congrArg (fun n => Value.slice _ n 1) (by rw [ho, List.length_append, List.length_singleton]; omega), (st.sel [2, 3] (by decide))⟩
   ·have h6q := h6; try simp only [decide_eq_true_eq, decide_eq_false_iff_not, beq_iff_eq, beq_eq_false_iff_ne, bne_iff_ne, bne_eq_false_iff_eq, ne_eq, Decidable.not_not, Bool.not_eq_true, Bool.not_eq_false, gt_iff_lt, ge_iff_le, Int.not_lt, Int.not_le] at h6q
    show AWl _ _ _ _ _
    iterate 3 refine aN rfl rfl (by constructor) ?_
    refine sE ?_
    have ho : xrTo X.ks (j + 1) = xrTo X.ks j := xrTo_f (by simpa using h6)
    have st := st.recell 0 rfl (cs' := ([80, 82, IntKind.u8.wrap (reservedM (xpt X)).1, IntKind.u8.wrap (reservedM (xpt X)).2, IntKind.u8.wrap ((xr X.ks).length : Int)] ++ (xrTo X.ks (j + 1)).flatMap regB).map (Value.int .u8)) (by rw [ho])
    exact ⟨_, by omega, j + 1, c, rfl, by omega, congrArg (Value.int .i64) (wi _ (by omega)), congrArg (fun n => Value.slice _ n 1) (by rw [ho]), (st.sel [0, 1] (by decide))⟩
  ·have h5q := h5; try simp only [decide_eq_true_eq, decide_eq_false_iff_not, beq_iff_eq, beq_eq_false_iff_ne, bne_iff_ne, bne_eq_false_iff_eq, ne_eq, Decidable.not_not, Bool.not_eq_true, Bool.not_eq_false, gt_iff_lt, ge_iff_le, Int.not_lt, Int.not_le] at h5q
   have hge : j = 8 := by have := of_decide_eq_false h5; omega
   subst hge
   show AWl _ _ _ _ _
   iterate 2 refine aN rfl rfl (by constructor) ?_
   refine sE ?_
   refine ⟨_, out1 (r_tmp rfl (by constructor)), ?_⟩
   have ht : ¬ X.ls = false := by simp_all
   have e1 : saveM (xpt X) = ([80, 82, IntKind.u8.wrap (reservedM (xpt X)).1, IntKind.u8.wrap (reservedM (xpt X)).2, IntKind.u8.wrap ((xr X.ks).length : Int)] ++ (xrTo X.ks 8).flatMap regB) := by rw [res_byte hkd]; exact if_neg ht
   exact ⟨some c, by rw [e1, xsave_len X 8]; rfl, by rw [e1]; exact st.pick 0 rfl⟩
theorem xload_call {H : Hp} {p : List Int} {x : Value} (hx : Sl H 1 p.length (p.map (Value.int .u8)) x) (hb : ByteL p) (hl : p.length ≤ 140737488351232) :
  ACalls Try.prog 25 [x] H (fun v H' => (loadM p = none ∧ v = .tuple #[.pointer none, .int .i64 3] ∧ Stt [] H H' []) ∨ ∃ X hh b, loadM p = some (PX X hh) ∧ Rel X hh ∧ XOK X ∧ v = .tuple #[.pointer (some ⟨b, 0, none⟩), .int .i64 0] ∧ Stt [] H H' [⟨some b, true, ⟨true, 65, k8 X.ks [.int .i64 X.kd, .int .i64 X.hd, .int .u32 X.gen, .bool X.ls]⟩⟩]) := by
 refine acallsW Try.func25 f25_ok (Nat.le_of_ble_eq_true rfl) fun hw => ?_
 have st : Stt [] H H [] := Stt.start hw
 unfold f25c
 show AWl _ _ _ _ _
 iterate 2 refine aN rfl rfl (by constructor) ?_
 refine sE ?_
 show AWl _ _ _ _ _
 refine aBld rfl (by repeat constructor) ?_
 refine aBoxN st rfl rfl (by repeat constructor) rfl fun b7 H1 st => ?_
 refine aN rfl rfl (by constructor) ?_
 refine sE ?_
 show AWl _ _ _ _ _
 refine aMovV x rfl ?_
 refine aLen (st.slc hx) rfl ?_
 refine aN rfl rfl (by constructor) ?_
 refine sE ?_
 show AW _ (.cond _ _ _) _ _ _
 refine cC' rfl (fun h2 => ?_) (fun h2 => ?_)
 ·have h2q := h2; try simp only [decide_eq_true_eq, decide_eq_false_iff_not, beq_iff_eq, beq_eq_false_iff_ne, bne_iff_ne, bne_eq_false_iff_eq, ne_eq, Decidable.not_not, Bool.not_eq_true, Bool.not_eq_false, gt_iff_lt, ge_iff_le, Int.not_lt, Int.not_le] at h2q
  have q0 : p.length = 0 := by have := h2q; omega
  show AWl _ _ _ _ _
  iterate 3 refine aN rfl rfl (by constructor) ?_
  refine sE ?_
  refine ⟨_, out2 (r_tmp rfl (by constructor)) (r_tmp rfl (by constructor)) ⟨rfl, rfl⟩, ?_⟩
  exact .inr ⟨X00, -1, b7, by rw [x00]; exact lm0 q0, x00_rel, x00_ok, rfl, st.sel [0] (by decide)⟩
 ·have h2q := h2; try simp only [decide_eq_true_eq, decide_eq_false_iff_not, beq_iff_eq, beq_eq_false_iff_ne, bne_iff_ne, bne_eq_false_iff_eq, ne_eq, Decidable.not_not, Bool.not_eq_true, Bool.not_eq_false, gt_iff_lt, ge_iff_le, Int.not_lt, Int.not_le] at h2q
  have q0 : p.length ≠ 0 := by have := h2q; omega
  show AWl _ _ _ _ _
  refine aMovV x rfl ?_
  refine aLen (st.slc hx) rfl ?_
  iterate 2 refine aN rfl rfl (by constructor) ?_
  refine gCase 15 rfl (fun h3 => ?_) (fun h3 => ?_)
  ·have h3q := h3; try simp only [decide_eq_true_eq, decide_eq_false_iff_not, beq_iff_eq, beq_eq_false_iff_ne, bne_iff_ne, bne_eq_false_iff_eq, ne_eq, Decidable.not_not, Bool.not_eq_true, Bool.not_eq_false, gt_iff_lt, ge_iff_le, Int.not_lt, Int.not_le] at h3q
   refine gF rfl (by decide) ?_
   refine gF rfl (by decide) ?_
   refine gF rfl (by decide) ?_
   refine gF rfl (by decide) ?_
   refine gF rfl (by decide) ?_
   refine aN rfl rfl (by constructor) ?_
   refine sE ?_
   show AW _ (.cond _ _ _) _ _ _
   refine cT rfl ?_
   show AWl _ _ _ _ _
   iterate 2 refine aN rfl rfl (by constructor) ?_
   refine sE ?_
   refine ⟨_, out2 (r_tmp rfl (by constructor)) (r_tmp rfl (by constructor)) ⟨rfl, rfl⟩, ?_⟩
   exact .inl ⟨ld_mod hb q0 (by omega), rfl, st.drop⟩
  ·have h3q := h3; try simp only [decide_eq_true_eq, decide_eq_false_iff_not, beq_iff_eq, beq_eq_false_iff_ne, bne_iff_ne, bne_eq_false_iff_eq, ne_eq, Decidable.not_not, Bool.not_eq_true, Bool.not_eq_false, gt_iff_lt, ge_iff_le, Int.not_lt, Int.not_le] at h3q
   refine gT rfl ?_
   refine aMovV x rfl ?_
   refine gT rfl ?_
   refine aLen (st.slc hx) rfl ?_
   refine gT rfl ?_
   refine aN rfl rfl (by constructor) ?_
   refine gT rfl ?_
   refine aBinV (.int .i64 (((p.length - 5) % 9 : Nat) : Int)) rfl rfl (rem9 (by omega) hl) ?_
   refine gT rfl ?_
   iterate 2 refine aN rfl rfl (by constructor) ?_
   refine sE ?_
   show AW _ (.cond _ _ _) _ _ _
   refine cC' rfl (fun h4 => ?_) (fun h4 => ?_)
   ·have h4q := h4; try simp only [decide_eq_true_eq, decide_eq_false_iff_not, beq_iff_eq, beq_eq_false_iff_ne, bne_iff_ne, bne_eq_false_iff_eq, ne_eq, Decidable.not_not, Bool.not_eq_true, Bool.not_eq_false, gt_iff_lt, ge_iff_le, Int.not_lt, Int.not_le] at h4q
    show AWl _ _ _ _ _
    iterate 2 refine aN rfl rfl (by constructor) ?_
    refine sE ?_
    refine ⟨_, out2 (r_tmp rfl (by constructor)) (r_tmp rfl (by constructor)) ⟨rfl, rfl⟩, ?_⟩
    exact .inl ⟨ld_mod hb q0 (by omega), rfl, st.drop⟩
   ·have h4q := h4; try simp only [decide_eq_true_eq, decide_eq_false_iff_not, beq_iff_eq, beq_eq_false_iff_ne, bne_iff_ne, bne_eq_false_iff_eq, ne_eq, Decidable.not_not, Bool.not_eq_true, Bool.not_eq_false, gt_iff_lt, ge_iff_le, Int.not_lt, Int.not_le] at h4q
    show AWl _ _ _ _ _
    obtain ⟨mr, hm⟩ : ∃ mr, p.length = 5 + 9 * mr := ⟨(p.length - 5) / 9, by omega⟩
    iterate 3 refine aN rfl rfl (by constructor) ?_
    refine aSt st 0 rfl rfl rfl rfl (by first | rfl | simp [cellsOf, *]) (by first | decide | (simp [*]; done) | (simp [k8]; done)) (by repeat constructor) fun H5 st => ?_
    refine sE ?_
    show AWl _ _ _ _ _
    refine aN rfl rfl (by constructor) ?_
    refine aMovV x rfl ?_
    refine aIxBK (st.slc hx) rfl rfl (by omega) fun b27 o27 g27 => ?_
    refine aLdG rfl (g27 _ (st.slc hx)) ?_
    refine aConvV (n' := p.getD 2 0) rfl (by have h2 := hb.getD 2; exact wi (p.getD 2 0) (by omega)) ?_
    iterate 2 refine aN rfl rfl (by constructor) ?_
    refine aSt st 0 rfl rfl rfl rfl (by first | rfl | simp [cellsOf, *]) (by first | decide | (simp [*]; done) | (simp [k8]; done)) (by repeat constructor) fun H6 st => ?_
    refine sE ?_
    show AWl _ _ _ _ _
    refine aN rfl rfl (by constructor) ?_
    refine aMovV x rfl ?_
    refine aIxBK (st.slc hx) rfl rfl (by omega) fun b34 o34 g34 => ?_
    refine aLdG rfl (g34 _ (st.slc hx)) ?_
    refine aConvV (n' := p.getD 3 0) rfl (by have h2 := hb.getD 3; exact wi (p.getD 3 0) (by omega)) ?_
    iterate 2 refine aN rfl rfl (by constructor) ?_
    refine aSt st 0 rfl rfl rfl rfl (by first | rfl | simp [cellsOf, *]) (by first | decide | (simp [*]; done) | (simp [k8]; done)) (by repeat constructor) fun H7 st => ?_
    refine sE ?_
    show AWl _ _ _ _ _
    refine aN rfl rfl (by constructor) ?_
    refine sE ?_
    show AW _ (.loop _) _ _ _
    have st := st.recell 0 rfl (cs' := k8 (kf p 0) [.int .i64 (p.getD 2 0), .int .i64 (p.getD 3 0), .int .u32 0, .bool true]) rfl
    refine AW_loopN (fun m t1 H1 => ∃ (j : Nat), m = mr - j ∧ (j ≤ mr) ∧ (∀ i, i < j → (recN p i).1 < 8) ∧ t1 5 = .int .i64 ((5 + 9 * j : Nat) : Int) ∧ Stt [] H H1 [⟨some b7, true, ⟨true, 65, k8 (kf p j) [.int .i64 (p.getD 2 0), .int .i64 (p.getD 3 0), .int .u32 0, .bool true]⟩⟩]) (mr - 0) ⟨0, rfl, by omega, fun i hi => by omega, rfl, (st.sel [0] (by decide))⟩ [2, 3, 5, 39, 40, 41, 42, 43, 44, 45, 46, 47, 48, 49, 50, 51, 52, 53, 54, 55, 56, 57, 58, 59, 60, 61] (by decide) ?_
    rintro m t1 H1 hk hI
    obtain ⟨j, rfl, hj, hrk, ht5, st⟩ := hI
    obtain ⟨u, rfl⟩ : ∃ u, t1 = (upd (mix [2, 3, 5, 39, 40, 41, 42, 43, 44, 45, 46, 47, 48, 49, 50, 51, 52, 53, 54, 55, 56, 57, 58, 59, 60, 61] _ u) (some 5) _) := ⟨t1, by rw [← hk, upd_self ht5]⟩
    clear hk ht5
    show AWl _ _ _ _ _
    refine aN rfl rfl (by constructor) ?_
    refine aMovV x rfl ?_
    refine aLen (st.slc hx) rfl ?_
    refine aN rfl rfl (by constructor) ?_
    refine sE ?_
    show AW _ (.cond _ _ _) _ _ _
    refine cC' rfl (fun h8 => ?_) (fun h8 => ?_)
    ·have h8q := h8; try simp only [decide_eq_true_eq, decide_eq_false_iff_not, beq_iff_eq, beq_eq_false_iff_ne, bne_iff_ne, bne_eq_false_iff_eq, ne_eq, Decidable.not_not, Bool.not_eq_true, Bool.not_eq_false, gt_iff_lt, ge_iff_le, Int.not_lt, Int.not_le] at h8q
     have hlt : j < mr := by have := h8q; omega
     show AWl _ _ _ _ _
     refine aMovV x rfl ?_
     refine aN rfl rfl (by constructor) ?_
     refine aIxBK (st.slc hx) rfl rfl (by omega) fun b47 o47 g47 => ?_
     refine aLdG rfl (g47 _ (st.slc hx)) ?_
     refine aN rfl rfl (by constructor) ?_
     refine sE ?_
     show AW _ (.cond _ _ _) _ _ _
     refine cC' rfl (fun h9 => ?_) (fun h9 => ?_)
     ·have h9q := h9; try simp only [decide_eq_true_eq, decide_eq_false_iff_not, beq_iff_eq, beq_eq_false_iff_ne, bne_iff_ne, bne_eq_false_iff_eq, ne_eq, Decidable.not_not, Bool.not_eq_true, Bool.not_eq_false, gt_iff_lt, ge_iff_le, Int.not_lt, Int.not_le] at h9q
      show AWl _ _ _ _ _
      iterate 2 refine aN rfl rfl (by constructor) ?_
      refine sE ?_
      refine ⟨_, out2 (r_tmp rfl (by constructor)) (r_tmp rfl (by constructor)) ⟨rfl, rfl⟩, ?_⟩
      exact .inl ⟨xl4 hb hm hlt (of_decide_eq_true h9), rfl, st.drop⟩
     ·have h9q := h9; try simp only [decide_eq_true_eq, decide_eq_false_iff_not, beq_iff_eq, beq_eq_false_iff_ne, bne_iff_ne, bne_eq_false_iff_eq, ne_eq, Decidable.not_not, Bool.not_eq_true, Bool.not_eq_false, gt_iff_lt, ge_iff_le, Int.not_lt, Int.not_le] at h9q
      show AWp _ _ _ _ _
      have hk9 : 0 ≤ (recN p j).1 ∧ (recN p j).1 < 8 := by have h1 : ¬ (p.getD (5 + 9 * j) 0 > 7) := of_decide_eq_false h9; have h2 := hb.getD (5 + 9 * j); show 0 ≤ p.getD (5 + 9 * j) 0 ∧ p.getD (5 + 9 * j) 0 < 8; omega
      refine aN rfl rfl (by constructor) ?_
      refine aMovV x rfl ?_
      refine aN rfl rfl (by constructor) ?_
      refine aIxBK (st.slc hx) rfl rfl (by omega) fun b53 o53 g53 => ?_
      refine aLdG rfl (g53 _ (st.slc hx)) ?_
      refine aMovV x rfl ?_
      refine aN rfl rfl (by constructor) ?_
      refine aBinV (.int .i64 ((5 + 9 * j + 1 : Nat) : Int)) rfl rfl (by show some (Value.int .i64 (IntKind.i64.wrap _)) = _; rw [wi _ (by omega)]; rfl) ?_
      iterate 2 refine aN rfl rfl (by constructor) ?_
      refine ⟨?_, trivial⟩
      refine aC (rnum_call (st.slc hx) hb (by omega) (by omega)) fun v58 H10 ⟨hv, st1⟩ => ?_
      subst hv
      replace st := st.call st1 rfl
      clear st1
      refine ⟨⟨(h_LdG rfl (g53 _ (st.slc hx))), trivial⟩, ?_⟩
      refine aIxA (j := (recN p j).1) rfl rfl hk9 ?_
      refine ⟨?_, trivial⟩
      refine aStAt (u := .int .u64 (recN p j).2) (cs := k8 (kf p (j + 1)) [.int .i64 (p.getD 2 0), .int .i64 (p.getD 3 0), .int .u32 0, .bool true]) st 0 rfl rfl rfl rfl rfl (by show 0 + ((recN p j).1).toNat * 1 < 12; omega) (k8_set (n := (recN p j).1) (kf_len p j) _ hk9) fun H11 st => ?_
      refine ⟨trivial, ?_⟩
      refine pE ?_
      show AWl _ _ _ _ _
      iterate 3 refine aN rfl rfl (by constructor) ?_
      refine sE ?_
      exact ⟨_, by omega, j + 1, rfl, by omega, fun i hi => by { rcases Nat.lt_succ_iff_lt_or_eq.1 hi with h | h; exact hrk i h; subst h; exact hk9.2 }, congrArg (Value.int .i64) (by rw [wi _ (by omega)]; omega), (st.sel [0] (by decide))⟩
    ·have h8q := h8; try simp only [decide_eq_true_eq, decide_eq_false_iff_not, beq_iff_eq, beq_eq_false_iff_ne, bne_iff_ne, bne_eq_false_iff_eq, ne_eq, Decidable.not_not, Bool.not_eq_true, Bool.not_eq_false, gt_iff_lt, ge_iff_le, Int.not_lt, Int.not_le] at h8q
     have hge : mr = j := by have := h8q; omega
     subst hge
     refine AW_cutK (b := .seq (.seq (.plan _) _) _) (fun t1 H1 => (xbad p mr = false) ∧ Stt [] H H1 [⟨some b7, true, ⟨true, 65, k8 (kf p mr) [.int .i64 (p.getD 2 0), .int .i64 (p.getD 3 0), .int .u32 0, .bool true]⟩⟩]) [2, 3, 62, 63, 64, 65, 66, 67, 68, 69, 70, 71, 72, 73, 74, 75, 76, 77, 78, 79, 80, 81, 82, 83, 84, 85, 86] (by decide) ?_ fun t1 H1 hk hI => ?_
     ·show AWl _ _ _ _ _
      iterate 3 refine aN rfl rfl (by constructor) ?_
      refine aLd st 0 rfl rfl rfl (by constructor) ?_
      iterate 2 refine aN rfl rfl (by constructor) ?_
      refine gCase 67 rfl (fun h12 => ?_) (fun h12 => ?_)
      ·have h12q := h12; try simp only [decide_eq_true_eq, decide_eq_false_iff_not, beq_iff_eq, beq_eq_false_iff_ne, bne_iff_ne, bne_eq_false_iff_eq, ne_eq, Decidable.not_not, Bool.not_eq_true, Bool.not_eq_false, gt_iff_lt, ge_iff_le, Int.not_lt, Int.not_le] at h12q
       refine gT rfl ?_
       refine aN rfl rfl (by constructor) ?_
       refine gT rfl ?_
       refine aN rfl rfl (by constructor) ?_
       refine gT rfl ?_
       refine aN rfl rfl (by constructor) ?_
       refine gT rfl ?_
       refine aLd st 0 rfl rfl rfl (by constructor) ?_
       refine gT rfl ?_
       refine aC (xtype_call) fun v72 H13 ⟨hv, st1⟩ => ?_
       subst hv
       replace st := st.call st1 rfl
       clear st1
       refine gT rfl ?_
       iterate 3 refine aN rfl rfl (by constructor) ?_
       refine gCase 75 rfl (fun h14 => ?_) (fun h14 => ?_)
       ·have h14q := h14; try simp only [decide_eq_true_eq, decide_eq_false_iff_not, beq_iff_eq, beq_eq_false_iff_ne, bne_iff_ne, bne_eq_false_iff_eq, ne_eq, Decidable.not_not, Bool.not_eq_true, Bool.not_eq_false, gt_iff_lt, ge_iff_le, Int.not_lt, Int.not_le] at h14q
        have h14n : typeB (p.getD 2 0) = false := Eq.mp (Bool.not_eq_true' _) h14
        refine gF rfl (by decide) ?_
        refine gF rfl (by decide) ?_
        refine gF rfl (by decide) ?_
        refine gF rfl (by decide) ?_
        refine gF rfl (by decide) ?_
        refine gF rfl (by decide) ?_
        refine gU rfl ?_
        refine gU rfl ?_
        refine gU rfl ?_
        refine gF rfl (by decide) ?_
        refine aN rfl rfl (by constructor) ?_
        refine sE ?_
        show AW _ (.cond _ _ _) _ _ _
        refine cT rfl ?_
        show AWl _ _ _ _ _
        iterate 2 refine aN rfl rfl (by constructor) ?_
        refine sE ?_
        refine ⟨_, out2 (r_tmp rfl (by constructor)) (r_tmp rfl (by constructor)) ⟨rfl, rfl⟩, ?_⟩
        exact .inl ⟨xl1 hb hm (by unfold xbad; simp only [h12, h14n, Bool.and_true, Bool.true_and, Bool.false_and, Bool.and_false, Bool.or_false, Bool.false_or, Bool.or_true, Bool.true_or, Bool.not_true, Bool.not_false]), rfl, st.drop⟩
       ·have h14q := h14; try simp only [decide_eq_true_eq, decide_eq_false_iff_not, beq_iff_eq, beq_eq_false_iff_ne, bne_iff_ne, bne_eq_false_iff_eq, ne_eq, Decidable.not_not, Bool.not_eq_true, Bool.not_eq_false, gt_iff_lt, ge_iff_le, Int.not_lt, Int.not_le] at h14q
        have h14n : typeB (p.getD 2 0) = true := Eq.mp (Bool.not_eq_false' _) h14
        refine gT rfl ?_
        refine aN rfl rfl (by constructor) ?_
        refine gT rfl ?_
        refine aN rfl rfl (by constructor) ?_
        refine gT rfl ?_
        refine aN rfl rfl (by constructor) ?_
        refine gT rfl ?_
        refine aLd st 0 rfl rfl rfl (by constructor) ?_
        refine gT rfl ?_
        refine aC (xall_call) fun v80 H15 ⟨hv, st1⟩ => ?_
        subst hv
        replace st := st.call st1 rfl
        clear st1
        refine gT rfl ?_
        refine aN rfl rfl (by constructor) ?_
        refine gCase 81 rfl (fun h16 => ?_) (fun h16 => ?_)
        ·have h16q := h16; try simp only [decide_eq_true_eq, decide_eq_false_iff_not, beq_iff_eq, beq_eq_false_iff_ne, bne_iff_ne, bne_eq_false_iff_eq, ne_eq, Decidable.not_not, Bool.not_eq_true, Bool.not_eq_false, gt_iff_lt, ge_iff_le, Int.not_lt, Int.not_le] at h16q
         refine gT rfl ?_
         refine aN rfl rfl (by constructor) ?_
         refine gT rfl ?_
         refine aC (count_call (X := xld p mr) (st.get (j := 0) rfl)) fun v83 H17 ⟨hv, st1⟩ => ?_
         subst hv
         replace st := st.call st1 rfl
         clear st1
         rw [show (xld p mr).ks = kf p mr from rfl]
         refine gT rfl ?_
         refine aN rfl rfl (by constructor) ?_
         refine gT rfl ?_
         iterate 2 refine aN rfl rfl (by constructor) ?_
         refine sE ?_
         show AW _ (.cond _ _ _) _ _ _
         refine cC' rfl (fun h18 => ?_) (fun h18 => ?_)
         ·have h18q := h18; try simp only [decide_eq_true_eq, decide_eq_false_iff_not, beq_iff_eq, beq_eq_false_iff_ne, bne_iff_ne, bne_eq_false_iff_eq, ne_eq, Decidable.not_not, Bool.not_eq_true, Bool.not_eq_false, gt_iff_lt, ge_iff_le, Int.not_lt, Int.not_le] at h18q
          show AWl _ _ _ _ _
          iterate 2 refine aN rfl rfl (by constructor) ?_
          refine sE ?_
          refine ⟨_, out2 (r_tmp rfl (by constructor)) (r_tmp rfl (by constructor)) ⟨rfl, rfl⟩, ?_⟩
          exact .inl ⟨xl1 hb hm (by unfold xbad; simp only [h12, h14n, h16, h18, Bool.and_true, Bool.true_and, Bool.false_and, Bool.and_false, Bool.or_false, Bool.false_or, Bool.or_true, Bool.true_or, Bool.not_true, Bool.not_false]), rfl, st.drop⟩
         ·have h18q := h18; try simp only [decide_eq_true_eq, decide_eq_false_iff_not, beq_iff_eq, beq_eq_false_iff_ne, bne_iff_ne, bne_eq_false_iff_eq, ne_eq, Decidable.not_not, Bool.not_eq_true, Bool.not_eq_false, gt_iff_lt, ge_iff_le, Int.not_lt, Int.not_le] at h18q
          exact ⟨by unfold xbad; simp only [h12, h14n, h16, h18, Bool.and_true, Bool.true_and, Bool.false_and, Bool.and_false, Bool.or_false, Bool.false_or, Bool.or_true, Bool.true_or, Bool.not_true, Bool.not_false], (st.sel [0] (by decide))⟩
        ·have h16q := h16; try simp only [decide_eq_true_eq, decide_eq_false_iff_not, beq_iff_eq, beq_eq_false_iff_ne, bne_iff_ne, bne_eq_false_iff_eq, ne_eq, Decidable.not_not, Bool.not_eq_true, Bool.not_eq_false, gt_iff_lt, ge_iff_le, Int.not_lt, Int.not_le] at h16q
         refine gF rfl (by decide) ?_
         refine gF rfl (by decide) ?_
         refine gF rfl (by decide) ?_
         refine gT rfl ?_
         iterate 2 refine aN rfl rfl (by constructor) ?_
         refine sE ?_
         show AW _ (.cond _ _ _) _ _ _
         refine cF' rfl ?_
         exact ⟨by unfold xbad; simp only [h12, h14n, h16, Bool.and_true, Bool.true_and, Bool.false_and, Bool.and_false, Bool.or_false, Bool.false_or, Bool.or_true, Bool.true_or, Bool.not_true, Bool.not_false], (st.sel [0] (by decide))⟩
      ·have h12q := h12; try simp only [decide_eq_true_eq, decide_eq_false_iff_not, beq_iff_eq, beq_eq_false_iff_ne, bne_iff_ne, bne_eq_false_iff_eq, ne_eq, Decidable.not_not, Bool.not_eq_true, Bool.not_eq_false, gt_iff_lt, ge_iff_le, Int.not_lt, Int.not_le] at h12q
       refine gF rfl (by decide) ?_
       refine gF rfl (by decide) ?_
       refine gF rfl (by decide) ?_
       refine gF rfl (by decide) ?_
       refine gF rfl (by decide) ?_
       refine gF rfl (by decide) ?_
       iterate 2 refine aN rfl rfl (by constructor) ?_
       refine gT rfl ?_
       refine aN rfl rfl (by constructor) ?_
       refine gT rfl ?_
       refine aN rfl rfl (by constructor) ?_
       refine gT rfl ?_
       refine aN rfl rfl (by constructor) ?_
       refine gT rfl ?_
       refine aLd st 0 rfl rfl rfl (by constructor) ?_
       refine gT rfl ?_
       refine aC (xall_call) fun v80 H19 ⟨hv, st1⟩ => ?_
       subst hv
       replace st := st.call st1 rfl
       clear st1
       refine gT rfl ?_
       refine aN rfl rfl (by constructor) ?_
       refine gCase 81 rfl (fun h20 => ?_) (fun h20 => ?_)
       ·have h20q := h20; try simp only [decide_eq_true_eq, decide_eq_false_iff_not, beq_iff_eq, beq_eq_false_iff_ne, bne_iff_ne, bne_eq_false_iff_eq, ne_eq, Decidable.not_not, Bool.not_eq_true, Bool.not_eq_false, gt_iff_lt, ge_iff_le, Int.not_lt, Int.not_le] at h20q
        refine gT rfl ?_
        refine aN rfl rfl (by constructor) ?_
        refine gT rfl ?_
        refine aC (count_call (X := xld p mr) (st.get (j := 0) rfl)) fun v83 H21 ⟨hv, st1⟩ => ?_
        subst hv
        replace st := st.call st1 rfl
        clear st1
        rw [show (xld p mr).ks = kf p mr from rfl]
        refine gT rfl ?_
        refine aN rfl rfl (by constructor) ?_
        refine gT rfl ?_
        iterate 2 refine aN rfl rfl (by constructor) ?_
        refine sE ?_
        show AW _ (.cond _ _ _) _ _ _
        refine cC' rfl (fun h22 => ?_) (fun h22 => ?_)
        ·have h22q := h22; try simp only [decide_eq_true_eq, decide_eq_false_iff_not, beq_iff_eq, beq_eq_false_iff_ne, bne_iff_ne, bne_eq_false_iff_eq, ne_eq, Decidable.not_not, Bool.not_eq_true, Bool.not_eq_false, gt_iff_lt, ge_iff_le, Int.not_lt, Int.not_le] at h22q
         show AWl _ _ _ _ _
         iterate 2 refine aN rfl rfl (by constructor) ?_
         refine sE ?_
         refine ⟨_, out2 (r_tmp rfl (by constructor)) (r_tmp rfl (by constructor)) ⟨rfl, rfl⟩, ?_⟩
         exact .inl ⟨xl1 hb hm (by unfold xbad; simp only [h12, h20, h22, Bool.and_true, Bool.true_and, Bool.false_and, Bool.and_false, Bool.or_false, Bool.false_or, Bool.or_true, Bool.true_or, Bool.not_true, Bool.not_false]), rfl, st.drop⟩
        ·have h22q := h22; try simp only [decide_eq_true_eq, decide_eq_false_iff_not, beq_iff_eq, beq_eq_false_iff_ne, bne_iff_ne, bne_eq_false_iff_eq, ne_eq, Decidable.not_not, Bool.not_eq_true, Bool.not_eq_false, gt_iff_lt, ge_iff_le, Int.not_lt, Int.not_le] at h22q
         exact ⟨by unfold xbad; simp only [h12, h20, h22, Bool.and_true, Bool.true_and, Bool.false_and, Bool.and_false, Bool.or_false, Bool.false_or, Bool.or_true, Bool.true_or, Bool.not_true, Bool.not_false], (st.sel [0] (by decide))⟩
       ·have h20q := h20; try simp only [decide_eq_true_eq, decide_eq_false_iff_not, beq_iff_eq, beq_eq_false_iff_ne, bne_iff_ne, bne_eq_false_iff_eq, ne_eq, Decidable.not_not, Bool.not_eq_true, Bool.not_eq_false, gt_iff_lt, ge_iff_le, Int.not_lt, Int.not_le] at h20q
        refine gF rfl (by decide) ?_
        refine gF rfl (by decide) ?_
        refine gF rfl (by decide) ?_
        refine gT rfl ?_
        iterate 2 refine aN rfl rfl (by constructor) ?_
        refine sE ?_
        show AW _ (.cond _ _ _) _ _ _
        refine cF' rfl ?_
        exact ⟨by unfold xbad; simp only [h12, h20, Bool.and_true, Bool.true_and, Bool.false_and, Bool.and_false, Bool.or_false, Bool.false_or, Bool.or_true, Bool.true_or, Bool.not_true, Bool.not_false], (st.sel [0] (by decide))⟩
     ·obtain ⟨q1, st⟩ := hI
      obtain ⟨u, rfl⟩ : ∃ u, t1 = (mix [2, 3, 62, 63, 64, 65, 66, 67, 68, 69, 70, 71, 72, 73, 74, 75, 76, 77, 78, 79, 80, 81, 82, 83, 84, 85, 86] _ u) := ⟨t1, by rw [← hk]⟩
      clear hk
      refine AW_cutK (b := .seq (.seq (.plan _) _) _) (fun t1 H1 => (xbad2 p mr = false) ∧ Stt [] H H1 [⟨some b7, true, ⟨true, 65, k8 (kf p mr) [.int .i64 (p.getD 2 0), .int .i64 (p.getD 3 0), .int .u32 0, .bool true]⟩⟩]) [2, 3, 87, 88, 89, 90, 91, 92, 93, 94, 95, 96, 97, 98, 99, 100, 101, 102, 103, 104, 105, 106, 107, 108, 109, 110, 111, 112, 113, 114, 115, 116, 117, 118] (by decide) ?_ fun t1 H1 hk hI => ?_
      ·show AWp _ _ _ _ _
       iterate 3 refine aN rfl rfl (by constructor) ?_
       refine aLd st 0 rfl rfl rfl (by constructor) ?_
       iterate 2 refine aN rfl rfl (by constructor) ?_
       refine gCase 92 rfl (fun h23 => ?_) (fun h23 => ?_)
       ·have h23q := h23; try simp only [decide_eq_true_eq, decide_eq_false_iff_not, beq_iff_eq, beq_eq_false_iff_ne, bne_iff_ne, bne_eq_false_iff_eq, ne_eq, Decidable.not_not, Bool.not_eq_true, Bool.not_eq_false, gt_iff_lt, ge_iff_le, Int.not_lt, Int.not_le] at h23q
        refine gT rfl ?_
        refine aN rfl rfl (by constructor) ?_
        refine gT rfl ?_
        refine aN rfl rfl (by constructor) ?_
        refine gT rfl ?_
        refine aN rfl rfl (by constructor) ?_
        refine gT rfl ?_
        refine aLd st 0 rfl rfl rfl (by constructor) ?_
        refine ⟨?_, trivial⟩
        refine gT rfl ?_
        refine aC (xall_call) fun v97 H24 ⟨hv, st1⟩ => ?_
        subst hv
        replace st := st.call st1 rfl
        clear st1
        refine ⟨⟨(h_Ld st 0 rfl rfl rfl (by constructor)), trivial⟩, ?_⟩
        refine gT rfl ?_
        iterate 3 refine aN rfl rfl (by constructor) ?_
        refine gCase 100 rfl (fun h25 => ?_) (fun h25 => ?_)
        ·have h25q := h25; try simp only [decide_eq_true_eq, decide_eq_false_iff_not, beq_iff_eq, beq_eq_false_iff_ne, bne_iff_ne, bne_eq_false_iff_eq, ne_eq, Decidable.not_not, Bool.not_eq_true, Bool.not_eq_false, gt_iff_lt, ge_iff_le, Int.not_lt, Int.not_le] at h25q
         have h25n : allB (p.getD 2 0) = false := Eq.mp (Bool.not_eq_true' _) h25
         refine gT rfl ?_
         refine aN rfl rfl (by constructor) ?_
         refine gT rfl ?_
         refine aN rfl rfl (by constructor) ?_
         refine gT rfl ?_
         refine aN rfl rfl (by constructor) ?_
         refine gT rfl ?_
         refine aLd st 0 rfl rfl rfl (by constructor) ?_
         refine gT rfl ?_
         refine aN rfl rfl (by constructor) ?_
         refine gT rfl ?_
         refine aN rfl rfl (by constructor) ?_
         refine gCase 106 rfl (fun h26 => ?_) (fun h26 => ?_)
         ·have h26q := h26; try simp only [decide_eq_true_eq, decide_eq_false_iff_not, beq_iff_eq, beq_eq_false_iff_ne, bne_iff_ne, bne_eq_false_iff_eq, ne_eq, Decidable.not_not, Bool.not_eq_true, Bool.not_eq_false, gt_iff_lt, ge_iff_le, Int.not_lt, Int.not_le] at h26q
          refine gF rfl (by decide) ?_
          refine gF rfl (by decide) ?_
          refine gF rfl (by decide) ?_
          refine gF rfl (by decide) ?_
          refine gF rfl (by decide) ?_
          refine gF rfl (by decide) ?_
          refine gF rfl (by decide) ?_
          refine gF rfl (by decide) ?_
          refine gF rfl (by decide) ?_
          refine gF rfl (by decide) ?_
          refine gT rfl ?_
          iterate 2 refine aN rfl rfl (by constructor) ?_
          refine pE ?_
          show AW _ (.cond _ _ _) _ _ _
          refine cT rfl ?_
          show AWl _ _ _ _ _
          iterate 2 refine aN rfl rfl (by constructor) ?_
          refine sE ?_
          refine ⟨_, out2 (r_tmp rfl (by constructor)) (r_tmp rfl (by constructor)) ⟨rfl, rfl⟩, ?_⟩
          exact .inl ⟨xl2 hb hm (by unfold xbad2; simp only [h23, h25n, h26, Bool.and_true, Bool.true_and, Bool.false_and, Bool.and_false, Bool.or_false, Bool.false_or, Bool.or_true, Bool.true_or, Bool.not_true, Bool.not_false]), rfl, st.drop⟩
         ·have h26q := h26; try simp only [decide_eq_true_eq, decide_eq_false_iff_not, beq_iff_eq, beq_eq_false_iff_ne, bne_iff_ne, bne_eq_false_iff_eq, ne_eq, Decidable.not_not, Bool.not_eq_true, Bool.not_eq_false, gt_iff_lt, ge_iff_le, Int.not_lt, Int.not_le] at h26q
          refine gT rfl ?_
          refine aN rfl rfl (by constructor) ?_
          refine gT rfl ?_
          refine aN rfl rfl (by constructor) ?_
          refine gT rfl ?_
          refine aN rfl rfl (by constructor) ?_
          refine gT rfl ?_
          refine aN rfl rfl (by constructor) ?_
          refine gT rfl ?_
          refine aLd st 0 rfl rfl rfl (by constructor) ?_
          refine gT rfl ?_
          refine aN rfl rfl (by constructor) ?_
          refine gT rfl ?_
          refine aN rfl rfl (by constructor) ?_
          refine gT rfl ?_
          have hp3 : 0 ≤ p.getD 3 0 ∧ p.getD 3 0 < 8 := by have h3b := hb.getD 3; have := of_decide_eq_false h26; omega
          refine aIxA (j := p.getD 3 0) rfl rfl hp3 ?_
          refine gT rfl ?_
          refine aLd st 0 rfl rfl (k8_at (kf p mr) _ hp3) (by constructor) ?_
          refine gT rfl ?_
          refine aN rfl rfl (by constructor) ?_
          refine gT rfl ?_
          iterate 2 refine aN rfl rfl (by constructor) ?_
          refine pE ?_
          show AW _ (.cond _ _ _) _ _ _
          refine cC' rfl (fun h27 => ?_) (fun h27 => ?_)
          ·have h27q := h27; try simp only [decide_eq_true_eq, decide_eq_false_iff_not, beq_iff_eq, beq_eq_false_iff_ne, bne_iff_ne, bne_eq_false_iff_eq, ne_eq, Decidable.not_not, Bool.not_eq_true, Bool.not_eq_false, gt_iff_lt, ge_iff_le, Int.not_lt, Int.not_le] at h27q
           show AWl _ _ _ _ _
           iterate 2 refine aN rfl rfl (by constructor) ?_
           refine sE ?_
           refine ⟨_, out2 (r_tmp rfl (by constructor)) (r_tmp rfl (by constructor)) ⟨rfl, rfl⟩, ?_⟩
           exact .inl ⟨xl2 hb hm (by unfold xbad2; simp only [h23, h25n, h26, h27, Bool.and_true, Bool.true_and, Bool.false_and, Bool.and_false, Bool.or_false, Bool.false_or, Bool.or_true, Bool.true_or, Bool.not_true, Bool.not_false]), rfl, st.drop⟩
          ·have h27q := h27; try simp only [decide_eq_true_eq, decide_eq_false_iff_not, beq_iff_eq, beq_eq_false_iff_ne, bne_iff_ne, bne_eq_false_iff_eq, ne_eq, Decidable.not_not, Bool.not_eq_true, Bool.not_eq_false, gt_iff_lt, ge_iff_le, Int.not_lt, Int.not_le] at h27q
           exact ⟨by unfold xbad2; simp only [h23, h25n, h26, h27, Bool.and_true, Bool.true_and, Bool.false_and, Bool.and_false, Bool.or_false, Bool.false_or, Bool.or_true, Bool.true_or, Bool.not_true, Bool.not_false], (st.sel [0] (by decide))⟩
        ·have h25q := h25; try simp only [decide_eq_true_eq, decide_eq_false_iff_not, beq_iff_eq, beq_eq_false_iff_ne, bne_iff_ne, bne_eq_false_iff_eq, ne_eq, Decidable.not_not, Bool.not_eq_true, Bool.not_eq_false, gt_iff_lt, ge_iff_le, Int.not_lt, Int.not_le] at h25q
         have h25n : allB (p.getD 2 0) = true := Eq.mp (Bool.not_eq_false' _) h25
         refine gF rfl (by decide) ?_
         refine gF rfl (by decide) ?_
         refine gF rfl (by decide) ?_
         refine gF rfl (by decide) ?_
         refine gF rfl (by decide) ?_
         refine gF rfl (by decide) ?_
         refine gU rfl ?_
         refine gU rfl ?_
         refine gU rfl ?_
         refine gU rfl ?_
         refine gU rfl ?_
         refine gU rfl ?_
         refine gU rfl ?_
         refine gU rfl ?_
         refine gU rfl ?_
         refine gU rfl ?_
         refine gF rfl (by decide) ?_
         refine aN rfl rfl (by constructor) ?_
         refine pE ?_
         show AW _ (.cond _ _ _) _ _ _
         refine cF' rfl ?_
         exact ⟨by unfold xbad2; simp only [h23, h25n, Bool.and_true, Bool.true_and, Bool.false_and, Bool.and_false, Bool.or_false, Bool.false_or, Bool.or_true, Bool.true_or, Bool.not_true, Bool.not_false], (st.sel [0] (by decide))⟩
       ·have h23q := h23; try simp only [decide_eq_true_eq, decide_eq_false_iff_not, beq_iff_eq, beq_eq_false_iff_ne, bne_iff_ne, bne_eq_false_iff_eq, ne_eq, Decidable.not_not, Bool.not_eq_true, Bool.not_eq_false, gt_iff_lt, ge_iff_le, Int.not_lt, Int.not_le] at h23q
        refine gF rfl (by decide) ?_
        refine gF rfl (by decide) ?_
        refine gF rfl (by decide) ?_
        refine gF rfl (by decide) ?_
        refine ⟨gF rfl (by decide) ?_, trivial⟩
        refine ⟨⟨(h_Ld st 0 rfl rfl rfl (by constructor)), trivial⟩, ?_⟩
        refine gF rfl (by decide) ?_
        iterate 2 refine aN rfl rfl (by constructor) ?_
        refine gF rfl (by decide) ?_
        refine gF rfl (by decide) ?_
        refine gF rfl (by decide) ?_
        refine gF rfl (by decide) ?_
        refine gF rfl (by decide) ?_
        refine gF rfl (by decide) ?_
        refine gU rfl ?_
        refine gU rfl ?_
        refine gU rfl ?_
        refine gU rfl ?_
        refine gU rfl ?_
        refine gU rfl ?_
        refine gU rfl ?_
        refine gU rfl ?_
        refine gU rfl ?_
        refine gU rfl ?_
        refine gF rfl (by decide) ?_
        refine aN rfl rfl (by constructor) ?_
        refine pE ?_
        show AW _ (.cond _ _ _) _ _ _
        refine cF' rfl ?_
        exact ⟨by unfold xbad2; simp only [h23, Bool.and_true, Bool.true_and, Bool.false_and, Bool.and_false, Bool.or_false, Bool.false_or, Bool.or_true, Bool.true_or, Bool.not_true, Bool.not_false], (st.sel [0] (by decide))⟩
      ·obtain ⟨q2, st⟩ := hI
       obtain ⟨u, rfl⟩ : ∃ u, t1 = (mix [2, 3, 87, 88, 89, 90, 91, 92, 93, 94, 95, 96, 97, 98, 99, 100, 101, 102, 103, 104, 105, 106, 107, 108, 109, 110, 111, 112, 113, 114, 115, 116, 117, 118] _ u) := ⟨t1, by rw [← hk]⟩
       clear hk
       show AWp _ _ _ _ _
       refine aN rfl rfl (by constructor) ?_
       refine aMovV x rfl ?_
       refine aText (st.slc hx) rfl ?_
       refine ⟨?_, trivial⟩
       have b2 := hb.getD 2
       have hkd : 0 ≤ (xld p mr).kd ∧ (xld p mr).kd < 256 := by show 0 ≤ p.getD 2 0 ∧ p.getD 2 0 < 256; omega
       refine aC (xsave_call (X := xld p mr) (st.get (j := 0) rfl) hkd) fun v120 H28 ⟨oc120, hv, st1⟩ => ?_
       subst hv
       replace st := st.call st1 rfl
       clear st1
       refine ⟨⟨(h_Text (st.slc hx) rfl), trivial⟩, ?_⟩
       refine aText (st.rowAcc 0 rfl (by decide) (by simp)) rfl ?_
       by_cases hsv : saveM (xpt (xld p mr)) = p
       ·refine aBinV (.bool false) rfl rfl (by rw [hsv]; exact ne_str) ?_
        refine pE ?_
        show AW _ (.cond _ _ _) _ _ _
        refine cF' rfl ?_
        show AWl _ _ _ _ _
        iterate 3 refine aN rfl rfl (by constructor) ?_
        refine aLd st 1 rfl rfl rfl (by constructor) ?_
        refine aC (xall_call) fun v129 H29 ⟨hv, st1⟩ => ?_
        subst hv
        replace st := st.call st1 rfl
        clear st1
        refine aN rfl rfl (by constructor) ?_
        refine gCase 130 rfl (fun h30 => ?_) (fun h30 => ?_)
        ·have h30q := h30; try simp only [decide_eq_true_eq, decide_eq_false_iff_not, beq_iff_eq, beq_eq_false_iff_ne, bne_iff_ne, bne_eq_false_iff_eq, ne_eq, Decidable.not_not, Bool.not_eq_true, Bool.not_eq_false, gt_iff_lt, ge_iff_le, Int.not_lt, Int.not_le] at h30q
         refine gF rfl (by decide) ?_
         refine gF rfl (by decide) ?_
         refine gF rfl (by decide) ?_
         refine gF rfl (by decide) ?_
         refine gF rfl (by decide) ?_
         refine aN rfl rfl (by constructor) ?_
         refine sE ?_
         show AW _ (.cond _ _ _) _ _ _
         refine cT rfl ?_
         show AWl _ _ _ _ _
         iterate 3 refine aN rfl rfl (by constructor) ?_
         refine aSt st 1 rfl rfl rfl rfl (by first | rfl | simp [cellsOf, *]) (by first | decide | (simp [*]; done) | (simp [k8]; done)) (by repeat constructor) fun H31 st => ?_
         refine sE ?_
         show AWl _ _ _ _ _
         iterate 3 refine aN rfl rfl (by constructor) ?_
         refine sE ?_
         refine ⟨_, out2 (r_tmp rfl (by constructor)) (r_tmp rfl (by constructor)) ⟨rfl, rfl⟩, ?_⟩
         have hc : (allB (p.getD 2 0) = true ∨ p.getD 2 0 = 0) := .inl h30
         obtain ⟨hh, a1, a2, a3⟩ := xl_load (xl5 hb hm hrk q1 q2 hsv) (if_pos hc)
         exact .inr ⟨_, hh, b7, a1, a2, a3, rfl, st.sel [1] (by decide)⟩
        ·have h30q := h30; try simp only [decide_eq_true_eq, decide_eq_false_iff_not, beq_iff_eq, beq_eq_false_iff_ne, bne_iff_ne, bne_eq_false_iff_eq, ne_eq, Decidable.not_not, Bool.not_eq_true, Bool.not_eq_false, gt_iff_lt, ge_iff_le, Int.not_lt, Int.not_le] at h30q
         refine gT rfl ?_
         refine aN rfl rfl (by constructor) ?_
         refine gT rfl ?_
         refine aN rfl rfl (by constructor) ?_
         refine gT rfl ?_
         refine aN rfl rfl (by constructor) ?_
         refine gT rfl ?_
         refine aLd st 1 rfl rfl rfl (by constructor) ?_
         refine gT rfl ?_
         iterate 2 refine aN rfl rfl (by constructor) ?_
         refine sE ?_
         show AW _ (.cond _ _ _) _ _ _
         refine cC' rfl (fun h32 => ?_) (fun h32 => ?_)
         ·have h32q := h32; try simp only [decide_eq_true_eq, decide_eq_false_iff_not, beq_iff_eq, beq_eq_false_iff_ne, bne_iff_ne, bne_eq_false_iff_eq, ne_eq, Decidable.not_not, Bool.not_eq_true, Bool.not_eq_false, gt_iff_lt, ge_iff_le, Int.not_lt, Int.not_le] at h32q
          show AWl _ _ _ _ _
          iterate 3 refine aN rfl rfl (by constructor) ?_
          refine aSt st 1 rfl rfl rfl rfl (by first | rfl | simp [cellsOf, *]) (by first | decide | (simp [*]; done) | (simp [k8]; done)) (by repeat constructor) fun H33 st => ?_
          refine sE ?_
          show AWl _ _ _ _ _
          iterate 3 refine aN rfl rfl (by constructor) ?_
          refine sE ?_
          refine ⟨_, out2 (r_tmp rfl (by constructor)) (r_tmp rfl (by constructor)) ⟨rfl, rfl⟩, ?_⟩
          have hc : (allB (p.getD 2 0) = true ∨ p.getD 2 0 = 0) := .inr (by simpa using h32)
          obtain ⟨hh, a1, a2, a3⟩ := xl_load (xl5 hb hm hrk q1 q2 hsv) (if_pos hc)
          exact .inr ⟨_, hh, b7, a1, a2, a3, rfl, st.sel [1] (by decide)⟩
         ·have h32q := h32; try simp only [decide_eq_true_eq, decide_eq_false_iff_not, beq_iff_eq, beq_eq_false_iff_ne, bne_iff_ne, bne_eq_false_iff_eq, ne_eq, Decidable.not_not, Bool.not_eq_true, Bool.not_eq_false, gt_iff_lt, ge_iff_le, Int.not_lt, Int.not_le] at h32q
          show AWl _ _ _ _ _
          iterate 3 refine aN rfl rfl (by constructor) ?_
          refine sE ?_
          refine ⟨_, out2 (r_tmp rfl (by constructor)) (r_tmp rfl (by constructor)) ⟨rfl, rfl⟩, ?_⟩
          have hc : ¬ (allB (p.getD 2 0) = true ∨ p.getD 2 0 = 0) := fun h => h.elim (fun a => by rw [h30] at a; cases a) (fun a => by have h9 := h32; rw [a] at h9; cases h9)
          obtain ⟨hh, a1, a2, a3⟩ := xl_load (xl5 hb hm hrk q1 q2 hsv) (if_neg hc)
          exact .inr ⟨_, hh, b7, a1, a2, a3, rfl, st.sel [1] (by decide)⟩
       ·refine aBinV (.bool true) rfl rfl (ne_strs (xsave_bytes hkd) hb hsv) ?_
        refine pE ?_
        show AW _ (.cond _ _ _) _ _ _
        refine cT rfl ?_
        show AWl _ _ _ _ _
        iterate 2 refine aN rfl rfl (by constructor) ?_
        refine sE ?_
        refine ⟨_, out2 (r_tmp rfl (by constructor)) (r_tmp rfl (by constructor)) ⟨rfl, rfl⟩, ?_⟩
        exact .inl ⟨xl3 hb hm hsv, rfl, st.drop⟩
theorem looks_call {H : Hp} {b bx : Nat} {X : XT} {hh : Int} {x : Value} (hkt : H.m b = some ⟨true, 79, [x, .int .u32 (PX X hh).gen, .int .u8 (PX X hh).kind, .int .i64 (PX X hh).holder, .bool (PX X hh).aptpl]⟩) (hS : Sl H 2 (xr X.ks).length ((xr X.ks).flatMap regE) x) (hkx : H.m bx = some ⟨true, 65, k8 X.ks [.int .i64 X.kd, .int .i64 X.hd, .int .u32 X.gen, .bool X.ls]⟩) (hX : XOK X) (hr : Rel X hh) :
  ACalls Try.prog 28 [.pointer (some ⟨b, 0, none⟩), .pointer (some ⟨bx, 0, none⟩)] H (fun v H' => v = .bool true ∧ Stt [] H H' []) := by
 refine acallsW Try.func28 f28_ok (Nat.le_of_ble_eq_true rfl) fun hw => ?_
 have st : Stt [] H H [] := Stt.start hw
 replace st := st.ro hkx (by simp)
 have h8 : (xr X.ks).length ≤ 8 := xrTo_len X.ks 8
 unfold f28c
 show AWl _ _ _ _ _
 refine aN rfl rfl (by constructor) ?_
 refine sE ?_
 show AWl _ _ _ _ _
 refine aN rfl rfl (by constructor) ?_
 refine aC (regs_call (P := (PX X hh)) (st.frm0.2 _ (hw _ _ hkt) ▸ hkt) (st.slc hS) (show (xr X.ks).length ≤ 1000 by omega)) fun v15 H1 ⟨oc15, hv, st1⟩ => ?_
 subst hv
 replace st := st.call st1 rfl
 clear st1
 rw [show (PX X hh).regs = xr X.ks from rfl] at st ⊢
 refine aMovA rfl ?_
 refine sE ?_
 show AWl _ _ _ _ _
 refine aN rfl rfl (by constructor) ?_
 refine sE ?_
 show AWl _ _ _ _ _
 refine aN rfl rfl (by constructor) ?_
 refine sE ?_
 show AW _ (.loop _) _ _ _
 refine AW_loopN (fun m t1 H1 => ∃ (j : Nat), m = 8 - j ∧ (j ≤ 8) ∧ t1 7 = .int .i64 (j : Int) ∧ t1 6 = .int .i64 ((xrTo X.ks j).length : Int) ∧ Stt [] H H1 [⟨oc15, true, ⟨true, 30, ((xr X.ks)).flatMap regE⟩⟩, ⟨some bx, false, ⟨true, 65, k8 X.ks [.int .i64 X.kd, .int .i64 X.hd, .int .u32 X.gen, .bool X.ls]⟩⟩]) (8 - 0) ⟨0, rfl, by omega, rfl, rfl, (st.sel [0, 1] (by decide))⟩ [4, 6, 7, 16, 17, 18, 19, 20, 21, 22, 23, 24, 25, 26, 27, 28, 29, 30, 31, 32, 33, 34, 35, 36, 37, 38, 39, 40, 41, 42, 43, 44, 45, 46, 47] (by decide) ?_
 rintro m t1 H1 hk hI
 obtain ⟨j, rfl, hj, ht7, ht6, st⟩ := hI
 obtain ⟨u, rfl⟩ : ∃ u, t1 = (upd (upd (mix [4, 6, 7, 16, 17, 18, 19, 20, 21, 22, 23, 24, 25, 26, 27, 28, 29, 30, 31, 32, 33, 34, 35, 36, 37, 38, 39, 40, 41, 42, 43, 44, 45, 46, 47] _ u) (some 7) _) (some 6) _) := ⟨t1, by rw [← hk, upd_self ht7, upd_self ht6]⟩
 clear hk ht7 ht6
 show AWl _ _ _ _ _
 iterate 2 refine aN rfl rfl (by constructor) ?_
 refine sE ?_
 show AW _ (.cond _ _ _) _ _ _
 refine cC' rfl (fun h2 => ?_) (fun h2 => ?_)
 ·have h2q := h2; try simp only [decide_eq_true_eq, decide_eq_false_iff_not, beq_iff_eq, beq_eq_false_iff_ne, bne_iff_ne, bne_eq_false_iff_eq, ne_eq, Decidable.not_not, Bool.not_eq_true, Bool.not_eq_false, gt_iff_lt, ge_iff_le, Int.not_lt, Int.not_le] at h2q
  have hlt : j < 8 := by have := of_decide_eq_true h2; omega
  show AWl _ _ _ _ _
  iterate 4 refine aN rfl rfl (by constructor) ?_
  refine aIxA rfl rfl (by omega) ?_
  refine aLd st 1 rfl rfl (k8_at X.ks _ (by omega)) (by constructor) ?_
  refine aN rfl rfl (by constructor) ?_
  refine sE ?_
  show AW _ (.cond _ _ _) _ _ _
  refine cC' rfl (fun h3 => ?_) (fun h3 => ?_)
  ·have h3q := h3; try simp only [decide_eq_true_eq, decide_eq_false_iff_not, beq_iff_eq, beq_eq_false_iff_ne, bne_iff_ne, bne_eq_false_iff_eq, ne_eq, Decidable.not_not, Bool.not_eq_true, Bool.not_eq_false, gt_iff_lt, ge_iff_le, Int.not_lt, Int.not_le] at h3q
   show AWl _ _ _ _ _
   iterate 3 refine aN rfl rfl (by constructor) ?_
   refine sE ?_
   have hz : X.ks.getD j 0 = 0 := by simpa using h3
   exact ⟨_, by omega, j + 1, rfl, by omega, congrArg (Value.int .i64) (wi _ (by omega)), congrArg (fun l : List (Int × Int) => Value.int .i64 (l.length : Int)) (xrTo_f hz).symm, (st.sel [0, 1] (by decide))⟩
  ·have h3q := h3; try simp only [decide_eq_true_eq, decide_eq_false_iff_not, beq_iff_eq, beq_eq_false_iff_ne, bne_iff_ne, bne_eq_false_iff_eq, ne_eq, Decidable.not_not, Bool.not_eq_true, Bool.not_eq_false, gt_iff_lt, ge_iff_le, Int.not_lt, Int.not_le] at h3q
   show AWp _ _ _ _ _
   have hz : X.ks.getD j 0 ≠ 0 := by simpa using h3
   obtain ⟨ha, hat⟩ := xr_at hlt hz
   refine aN rfl rfl (by constructor) ?_
   refine aMovA rfl ?_
   refine aLen (st.rowAcc 0 rfl (by decide) (by exact flat_len' regE_len _)) rfl ?_
   refine aBinV (.bool false) rfl rfl (by exact congrArg (fun q => some (Value.bool q)) (decide_eq_false (by omega))) ?_
   refine aN rfl rfl (by constructor) ?_
   refine gT rfl ?_
   refine aMovA rfl ?_
   refine gT rfl ?_
   refine aN rfl rfl (by constructor) ?_
   refine gT rfl ?_
   refine aIxEK regE_len (0, 0) (l := (xr X.ks)) (st.rowAcc 0 rfl (by decide) (by exact flat_len' regE_len _)) rfl rfl (by omega) fun b34 o34 g34 => ?_
   refine gT rfl ?_
   refine aLdAG rfl (g34 _ (st.rowAcc 0 rfl (by decide) (by exact flat_len' regE_len _))) ?_
   refine gT rfl ?_
   refine aN rfl rfl (by constructor) ?_
   refine gT rfl ?_
   refine aN rfl rfl (by constructor) ?_
   refine gT rfl ?_
   refine aN rfl rfl (by constructor) ?_
   refine gT rfl ?_
   refine aN rfl rfl (by constructor) ?_
   refine gT rfl ?_
   refine aN rfl rfl (by constructor) ?_
   refine gT rfl ?_
   refine aIxA rfl rfl (by omega) ?_
   refine gT rfl ?_
   refine aLd st 1 rfl rfl (k8_at X.ks _ (by omega)) (by constructor) ?_
   refine gT rfl ?_
   refine aBld rfl (by repeat constructor) ?_
   refine gT rfl ?_
   refine aEqAV true rfl rfl (by rw [show (xr X.ks).getD (((xrTo X.ks j).length : Int)).toNat (0, 0) = ((j : Int), X.ks.getD j 0) from hat]; simp [regE, eqL, eqV]) ?_
   refine aN rfl rfl (by constructor) ?_
   refine pE ?_
   show AW _ (.cond _ _ _) _ _ _
   refine cF' rfl ?_
   show AWl _ _ _ _ _
   iterate 3 refine aN rfl rfl (by constructor) ?_
   refine sE ?_
   show AWl _ _ _ _ _
   iterate 3 refine aN rfl rfl (by constructor) ?_
   refine sE ?_
   exact ⟨_, by omega, j + 1, rfl, by omega, congrArg (Value.int .i64) (wi _ (by omega)), congrArg (Value.int .i64) (by rw [wi _ (by omega), xrTo_t hz, List.length_append]; rfl), (st.sel [0, 1] (by decide))⟩
 ·have h2q := h2; try simp only [decide_eq_true_eq, decide_eq_false_iff_not, beq_iff_eq, beq_eq_false_iff_ne, bne_iff_ne, bne_eq_false_iff_eq, ne_eq, Decidable.not_not, Bool.not_eq_true, Bool.not_eq_false, gt_iff_lt, ge_iff_le, Int.not_lt, Int.not_le] at h2q
  have hge : j = 8 := by have := of_decide_eq_false h2; omega
  subst hge
  show AWl _ _ _ _ _
  refine aN rfl rfl (by constructor) ?_
  refine aC (reserved_call (P := (PX X hh)) (st.frm0.2 _ (hw _ _ hkt) ▸ hkt) (st.slc hS) (show (xr X.ks).length ≤ 1000 by omega)) fun v50 H4 ⟨hv, st1⟩ => ?_
  subst hv
  replace st := st.call st1 rfl
  clear st1
  rw [show reservedM (PX X hh) = reservedM (xpt X) from hr]
  iterate 5 refine aN rfl rfl (by constructor) ?_
  refine sE ?_
  show AWl _ _ _ _ _
  refine aN rfl rfl (by constructor) ?_
  refine aC (xresd_call (X := X) (st.get (j := 1) rfl)) fun v55 H5 ⟨hv, st1⟩ => ?_
  subst hv
  replace st := st.call st1 rfl
  clear st1
  iterate 5 refine aN rfl rfl (by constructor) ?_
  refine sE ?_
  show AWp _ _ _ _ _
  refine aN rfl rfl (by constructor) ?_
  refine aMovA rfl ?_
  refine aLen (st.rowAcc 0 rfl (by decide) (by exact flat_len' regE_len _)) rfl ?_
  refine aBinV (.bool false) rfl rfl ne_int ?_
  refine aN rfl rfl (by constructor) ?_
  refine gT rfl ?_
  refine aN rfl rfl (by constructor) ?_
  refine gT rfl ?_
  refine aConvV (n' := (reservedM (xpt X)).1) rfl (by have := hX.kd; rw [res1]; exact wi X.kd (by omega)) ?_
  refine gT rfl ?_
  refine aN rfl rfl (by constructor) ?_
  refine gT rfl ?_
  refine aBinV (.bool false) rfl rfl ne_int ?_
  iterate 2 refine aN rfl rfl (by constructor) ?_
  refine gT rfl ?_
  refine aN rfl rfl (by constructor) ?_
  refine gT rfl ?_
  refine aN rfl rfl (by constructor) ?_
  refine gT rfl ?_
  refine aBinV (.bool false) rfl rfl ne_int ?_
  iterate 2 refine aN rfl rfl (by constructor) ?_
  refine gT rfl ?_
  refine aN rfl rfl (by constructor) ?_
  refine gT rfl ?_
  refine aN rfl rfl (by constructor) ?_
  refine gT rfl ?_
  refine aN rfl rfl (by constructor) ?_
  refine gT rfl ?_
  refine aN rfl rfl (by constructor) ?_
  refine gT rfl ?_
  refine aLd st 1 rfl rfl rfl (by constructor) ?_
  refine ⟨?_, trivial⟩
  refine gT rfl ?_
  refine aC (gen_call (P := (PX X hh)) (st.frm0.2 _ (hw _ _ hkt) ▸ hkt) (st.slc hS) (show (xr X.ks).length ≤ 1000 by omega)) fun v75 H6 ⟨hv, st1⟩ => ?_
  subst hv
  replace st := st.call st1 rfl
  clear st1
  refine ⟨⟨⟨some false, .bool false, (h_Ld st 1 rfl rfl rfl (by constructor))⟩, trivial⟩, ?_⟩
  refine gT rfl ?_
  refine aBinV (.bool false) rfl rfl ne_int ?_
  iterate 2 refine aN rfl rfl (by constructor) ?_
  refine gT rfl ?_
  refine aN rfl rfl (by constructor) ?_
  refine gT rfl ?_
  refine aN rfl rfl (by constructor) ?_
  refine gT rfl ?_
  refine aN rfl rfl (by constructor) ?_
  refine gT rfl ?_
  refine aN rfl rfl (by constructor) ?_
  refine gT rfl ?_
  refine aLd st 1 rfl rfl rfl (by constructor) ?_
  refine ⟨?_, trivial⟩
  refine gT rfl ?_
  refine aC (lasts_call (P := (PX X hh)) (st.frm0.2 _ (hw _ _ hkt) ▸ hkt) (st.slc hS) (show (xr X.ks).length ≤ 1000 by omega)) fun v84 H7 ⟨hv, st1⟩ => ?_
  subst hv
  replace st := st.call st1 rfl
  clear st1
  refine ⟨⟨⟨some false, .bool false, (h_Ld st 1 rfl rfl rfl (by constructor))⟩, ⟨some false, .bool false, (h_Ld st 1 rfl rfl rfl (by constructor))⟩, trivial⟩, ?_⟩
  refine gT rfl ?_
  refine aBinV (.bool false) rfl rfl ne_bool ?_
  iterate 2 refine aN rfl rfl (by constructor) ?_
  refine gT rfl ?_
  refine aN rfl rfl (by constructor) ?_
  refine gT rfl ?_
  refine aN rfl rfl (by constructor) ?_
  refine ⟨?_, trivial⟩
  refine gT rfl ?_
  refine aC (save_call (P := (PX X hh)) (st.frm0.2 _ (hw _ _ hkt) ▸ hkt) (st.slc hS) (show (xr X.ks).length ≤ 1000 by omega) (xr_keys hX)) fun v93 H8 ⟨oc93, hv, st1⟩ => ?_
  subst hv
  replace st := st.call st1 rfl
  clear st1
  rw [rel_save hr] at st ⊢
  refine ⟨⟨⟨some false, .bool false, (h_Ld st 2 rfl rfl rfl (by constructor))⟩, ⟨some false, .bool false, (h_Ld st 2 rfl rfl rfl (by constructor))⟩, trivial⟩, ?_⟩
  refine gT rfl ?_
  refine aText (st.rowAcc 0 rfl (by decide) (by simp)) rfl ?_
  refine ⟨?_, trivial⟩
  refine gT rfl ?_
  refine aC (xsave_call (X := X) (st.get (j := 2) rfl) hX.kd) fun v96 H9 ⟨oc96, hv, st1⟩ => ?_
  subst hv
  replace st := st.call st1 rfl
  clear st1
  refine ⟨⟨⟨some false, .bool false, (h_Text (st.rowAcc 1 rfl (by decide) (by simp)) rfl)⟩, ⟨some false, .bool false, (h_Ld st 3 rfl rfl rfl (by constructor))⟩, ⟨some false, .bool false, (h_Ld st 3 rfl rfl rfl (by constructor))⟩, trivial⟩, ?_⟩
  refine gT rfl ?_
  refine aText (st.rowAcc 0 rfl (by decide) (by simp)) rfl ?_
  refine gT rfl ?_
  refine aBinV (.bool false) rfl rfl ne_str ?_
  refine aN rfl rfl (by constructor) ?_
  refine pE ?_
  show AW _ (.cond _ _ _) _ _ _
  refine cF' rfl ?_
  show AWl _ _ _ _ _
  refine aN rfl rfl (by constructor) ?_
  refine sE ?_
  show AW _ (.loop _) _ _ _
  refine AW_loopN (fun m t1 H1 => ∃ (n : Nat), m = 10 - n ∧ (n ≤ 10) ∧ t1 12 = .int .i64 ((n : Int) - 1) ∧ Stt [] H H1 [⟨some bx, false, ⟨true, 65, k8 X.ks [.int .i64 X.kd, .int .i64 X.hd, .int .u32 X.gen, .bool X.ls]⟩⟩]) (10 - 0) ⟨0, rfl, by omega, rfl, (st.sel [3] (by decide))⟩ [4, 12, 13, 100, 101, 102, 103, 104, 105, 106, 107, 108, 109, 110, 111, 112, 113, 114, 115, 116, 117, 118, 119, 120, 121, 122, 123, 124] (by decide) ?_
  rintro m t1 H1 hk hI
  obtain ⟨n, rfl, hn, ht12, st⟩ := hI
  obtain ⟨u, rfl⟩ : ∃ u, t1 = (upd (mix [4, 12, 13, 100, 101, 102, 103, 104, 105, 106, 107, 108, 109, 110, 111, 112, 113, 114, 115, 116, 117, 118, 119, 120, 121, 122, 123, 124] _ u) (some 12) _) := ⟨t1, by rw [← hk, upd_self ht12]⟩
  clear hk ht12
  show AWl _ _ _ _ _
  iterate 2 refine aN rfl rfl (by constructor) ?_
  refine sE ?_
  show AW _ (.cond _ _ _) _ _ _
  refine cC' rfl (fun h10 => ?_) (fun h10 => ?_)
  ·have h10q := h10; try simp only [decide_eq_true_eq, decide_eq_false_iff_not, beq_iff_eq, beq_eq_false_iff_ne, bne_iff_ne, bne_eq_false_iff_eq, ne_eq, Decidable.not_not, Bool.not_eq_true, Bool.not_eq_false, gt_iff_lt, ge_iff_le, Int.not_lt, Int.not_le] at h10q
   show AWl _ _ _ _ _
   iterate 2 refine aN rfl rfl (by constructor) ?_
   refine aC (holds_call (P := (PX X hh)) (n := ((n : Int) - 1)) (st.frm0.2 _ (hw _ _ hkt) ▸ hkt) (st.slc hS) (show (xr X.ks).length ≤ 1000 by omega)) fun v106 H11 ⟨hv, st1⟩ => ?_
   subst hv
   replace st := st.call st1 rfl
   clear st1
   rw [rel_holds hr]
   iterate 2 refine aN rfl rfl (by constructor) ?_
   refine aC (xholds_call (X := X) (n := ((n : Int) - 1)) (st.get (j := 0) rfl) hX) fun v109 H12 ⟨hv, st1⟩ => ?_
   subst hv
   replace st := st.call st1 rfl
   clear st1
   refine aBinV (.bool false) rfl rfl ne_bool ?_
   refine sE ?_
   show AW _ (.cond _ _ _) _ _ _
   refine cF' rfl ?_
   show AWl _ _ _ _ _
   refine aN rfl rfl (by constructor) ?_
   refine sE ?_
   show AW _ (.loop _) _ _ _
   refine AW_loopN (fun m t1 H1 => ∃ (q : Nat), m = 4 - q ∧ (q ≤ 4) ∧ t1 13 = .int .i64 (q : Int) ∧ Stt [] H H1 [⟨some bx, false, ⟨true, 65, k8 X.ks [.int .i64 X.kd, .int .i64 X.hd, .int .u32 X.gen, .bool X.ls]⟩⟩]) (4 - 0) ⟨0, rfl, by omega, rfl, (st.sel [0] (by decide))⟩ [4, 13, 111, 112, 113, 114, 115, 116, 117, 118, 119, 120, 121, 122, 123, 124] (by decide) ?_
   rintro m t1 H1 hk hI
   obtain ⟨q, rfl, hq, ht13, st⟩ := hI
   obtain ⟨u, rfl⟩ : ∃ u, t1 = (upd (mix [4, 13, 111, 112, 113, 114, 115, 116, 117, 118, 119, 120, 121, 122, 123, 124] _ u) (some 13) _) := ⟨t1, by rw [← hk, upd_self ht13]⟩
   clear hk ht13
   show AWl _ _ _ _ _
   iterate 2 refine aN rfl rfl (by constructor) ?_
   refine sE ?_
   show AW _ (.cond _ _ _) _ _ _
   refine cC' rfl (fun h13 => ?_) (fun h13 => ?_)
   ·have h13q := h13; try simp only [decide_eq_true_eq, decide_eq_false_iff_not, beq_iff_eq, beq_eq_false_iff_ne, bne_iff_ne, bne_eq_false_iff_eq, ne_eq, Decidable.not_not, Bool.not_eq_true, Bool.not_eq_false, gt_iff_lt, ge_iff_le, Int.not_lt, Int.not_le] at h13q
    show AWl _ _ _ _ _
    iterate 3 refine aN rfl rfl (by constructor) ?_
    refine aConvV (n' := (q : Int)) rfl (by rw [w8]; omega) ?_
    refine aC (conflict_call (P := (PX X hh)) (n := ((n : Int) - 1)) (c := (q : Int)) (st.frm0.2 _ (hw _ _ hkt) ▸ hkt) (st.slc hS) (show (xr X.ks).length ≤ 1000 by omega)) fun v119 H14 ⟨hv, st1⟩ => ?_
    subst hv
    replace st := st.call st1 rfl
    clear st1
    rw [rel_confl hr]
    iterate 3 refine aN rfl rfl (by constructor) ?_
    refine aC (xconf_call (X := X) (n := ((n : Int) - 1)) (c := (q : Int)) (st.get (j := 0) rfl) hX) fun v123 H15 ⟨hv, st1⟩ => ?_
    subst hv
    replace st := st.call st1 rfl
    clear st1
    refine aBinV (.bool false) rfl rfl ne_bool ?_
    refine sE ?_
    show AW _ (.cond _ _ _) _ _ _
    refine cF' rfl ?_
    show AWl _ _ _ _ _
    iterate 3 refine aN rfl rfl (by constructor) ?_
    refine sE ?_
    exact ⟨_, by omega, q + 1, rfl, by omega, congrArg (Value.int .i64) (wi _ (by omega)), (st.sel [0] (by decide))⟩
   ·have h13q := h13; try simp only [decide_eq_true_eq, decide_eq_false_iff_not, beq_iff_eq, beq_eq_false_iff_ne, bne_iff_ne, bne_eq_false_iff_eq, ne_eq, Decidable.not_not, Bool.not_eq_true, Bool.not_eq_false, gt_iff_lt, ge_iff_le, Int.not_lt, Int.not_le] at h13q
    show AWl _ _ _ _ _
    iterate 3 refine aN rfl rfl (by constructor) ?_
    refine sE ?_
    exact ⟨_, by omega, n + 1, rfl, by omega, congrArg (Value.int .i64) (by rw [wi _ (by omega)]; omega), (st.sel [0] (by decide))⟩
  ·have h10q := h10; try simp only [decide_eq_true_eq, decide_eq_false_iff_not, beq_iff_eq, beq_eq_false_iff_ne, bne_iff_ne, bne_eq_false_iff_eq, ne_eq, Decidable.not_not, Bool.not_eq_true, Bool.not_eq_false, gt_iff_lt, ge_iff_le, Int.not_lt, Int.not_le] at h10q
   show AWl _ _ _ _ _
   refine aN rfl rfl (by constructor) ?_
   refine sE ?_
   refine ⟨_, out1 (r_tmp rfl (by constructor)), ?_⟩
   exact ⟨rfl, st.drop⟩
end Go.Proofs.Ytihkghfmihdicaa.Abs
