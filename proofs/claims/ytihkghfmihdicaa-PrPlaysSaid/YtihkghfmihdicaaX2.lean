/- The tables of the document: who preempts. -/
import Derived.Test.YtihkghfmihdicaaX7
set_option linter.unusedVariables false
set_option linter.unusedSimpArgs false
set_option maxRecDepth 100000
namespace Go.Proofs.Ytihkghfmihdicaa.Abs
open Go Go.RowKit
section
variable {X : XT} {n : Int} {o : POut}
theorem pre_c1 (h : o.act = 0 → (heldB (xpt X) o || pallB (xpt X) o) = true) : ¬ (o.act = 0 ∧ pallB (xpt X) o = false) := fun hc => by
  have h1 := h hc.1
  rw [hc.2, Bool.or_false] at h1
  exact held_act h1 hc.1
theorem any_act (ks : List Int) (o : POut) : ((o.act == 0) || (List.range 8).any (fun i => ks.getD i 0 == o.act)) = ((o.act == 0) || (xr ks).any fun r => r.2 == o.act) := by
  by_cases ha : o.act = 0
  · rw [ha]; rfl
  · rw [any_xr ha]
theorem pre_c3 (hp : pallB (xpt X) o = (o.act == 0)) (h : ((o.act == 0) || (xr X.ks).any fun r => r.2 == o.act) = true) : ¬ (((xpt X).regs.any fun r => r.2 == o.act) = false ∧ pallB (xpt X) o = false) := fun hc => by
  rw [← hp, hc.2, Bool.false_or] at h
  have h2 : ((xr X.ks).any fun r => r.2 == o.act) = false := hc.1
  rw [h2] at h
  cases h
theorem pre_c3b (hp : pallB (xpt X) o = (o.act == 0)) (h : ((o.act == 0) || (xr X.ks).any fun r => r.2 == o.act) = false) : ((xpt X).regs.any fun r => r.2 == o.act) = false ∧ pallB (xpt X) o = false := by
  rw [← hp, Bool.or_eq_false_iff] at h
  exact ⟨h.2, h.1⟩
theorem pre_tab (hX : XOK X) (hp : pallB (xpt X) o = (o.act == 0)) (hc2 : ¬ ((heldB (xpt X) o || pallB (xpt X) o) = true ∧ typeB o.ty = false)) : xpt ⟨(zk X.ks n o 8), (if (heldB (xpt X) o || pallB (xpt X) o) = true then o.ty else X.kd), (if (heldB (xpt X) o || pallB (xpt X) o) = true then n else X.hd), inc32 X.gen, X.ls⟩ = { xpt X with regs := leftM (xpt X) n o, kind := (if (heldB (xpt X) o || pallB (xpt X) o) = true then o.ty else X.kd), holder := if (heldB (xpt X) o || pallB (xpt X) o) = true then n else (xpt X).holder, gen := inc32 X.gen } := by
  have hh : (if (if (heldB (xpt X) o || pallB (xpt X) o) = true then o.ty else X.kd) = 0 then (-1 : Int) else (if (heldB (xpt X) o || pallB (xpt X) o) = true then n else X.hd)) = if (heldB (xpt X) o || pallB (xpt X) o) = true then n else (xpt X).holder := by
    by_cases ht : (heldB (xpt X) o || pallB (xpt X) o) = true
    · have h0 : o.ty ≠ 0 := type_ne0 (by rcases hb : typeB o.ty with _ | _; exact absurd ⟨ht, hb⟩ hc2; rfl)
      rw [if_pos ht, if_pos ht, if_pos ht, if_neg h0]
    · rw [if_neg ht, if_neg ht, if_neg ht]
      rfl
  show (⟨xr (zk X.ks n o 8), inc32 X.gen, (if (heldB (xpt X) o || pallB (xpt X) o) = true then o.ty else X.kd), (if (if (heldB (xpt X) o || pallB (xpt X) o) = true then o.ty else X.kd) = 0 then (-1 : Int) else (if (heldB (xpt X) o || pallB (xpt X) o) = true then n else X.hd)), X.ls⟩ : PT) = _
  rw [hh, xr_zk hX.len hp]
  rfl
end
set_option maxHeartbeats 2000000 in
theorem xpreempt_call {H : Hp} {b : Nat} {X : XT} {n : Int} {o : POut} (hk : H.m b = some ⟨true, 65, k8 X.ks [.int .i64 X.kd, .int .i64 X.hd, .int .u32 X.gen, .bool X.ls]⟩) (hX : XOK X) (ho : 0 ≤ o.act ∧ o.act < 18446744073709551616) (hty : 0 ≤ o.ty ∧ o.ty < 256) (hn : 0 ≤ n ∧ n < 8) :
  ACalls Try.prog 46 [.pointer (some ⟨b, 0, none⟩), .int .i64 n, .agg #[.int .i64 o.sv, .int .i64 o.ty, .int .u64 o.key, .int .u64 o.act, .bool o.ap]] H (fun v H' => ∃ X' oe, v = .tuple #[.int .i64 (preemptM (xpt X) n o).st, .int .i64 (preemptM (xpt X) n o).code, accV oe (preemptM (xpt X) n o).ev.length 2] ∧ XOK X' ∧ xpt X' = (preemptM (xpt X) n o).tab ∧ Stt [b] H H' [⟨some b, true, ⟨true, 65, k8 X'.ks [.int .i64 X'.kd, .int .i64 X'.hd, .int .u32 X'.gen, .bool X'.ls]⟩⟩, ⟨oe, true, ⟨true, 75, ((preemptM (xpt X) n o).ev).flatMap ev2E⟩⟩]) := by
 refine acallsW Try.func46 f46_ok (Nat.le_of_ble_eq_true rfl) fun hw => ?_
 have st : Stt [b] H H [] := Stt.start hw
 replace st := st.mine hk rfl (by simp) (by simp)
 unfold f46c
 show AWl _ _ _ _ _
 refine aBoxN st rfl rfl (by repeat constructor) rfl fun b5 H1 st => ?_
 iterate 3 refine aN rfl rfl (by constructor) ?_
 refine sE ?_
 show AWl _ _ _ _ _
 iterate 3 refine aN rfl rfl (by constructor) ?_
 refine aLd st 1 rfl rfl rfl (by constructor) ?_
 iterate 2 refine aN rfl rfl (by constructor) ?_
 refine gCase 20 rfl (fun h2 => ?_) (fun h2 => ?_)
 ·refine gT rfl ?_
  refine aN rfl rfl (by constructor) ?_
  refine gT rfl ?_
  refine aN rfl rfl (by constructor) ?_
  refine gT rfl ?_
  refine aN rfl rfl (by constructor) ?_
  refine gT rfl ?_
  refine aLd st 1 rfl rfl rfl (by constructor) ?_
  refine gT rfl ?_
  refine aC (xall_call) fun v25 H3 ⟨hv, st1⟩ => ?_
  subst hv
  replace st := st.call st1 rfl
  clear st1
  iterate 2 refine aN rfl rfl (by constructor) ?_
  refine gCase 27 rfl (fun h4 => ?_) (fun h4 => ?_)
  ·refine gT rfl ?_
   refine aN rfl rfl (by constructor) ?_
   refine gT rfl ?_
   refine aLd st 0 rfl rfl rfl (by constructor) ?_
   refine gT rfl ?_
   iterate 3 refine aN rfl rfl (by constructor) ?_
   refine sE ?_
   refine AW_cutK (b := .seq (.seq (.list (⟨some 64, _, _⟩ :: _)) _) _) (fun t1 H1 => t1 9 = .bool (heldB (xpt X) o || pallB (xpt X) o) ∧ Stt [b] H H1 [⟨some b5, true, ⟨true, 72, [.int .i64 o.sv, .int .i64 o.ty, .int .u64 o.key, .int .u64 o.act, .bool o.ap]⟩⟩, ⟨some b, true, ⟨true, 65, k8 X.ks [.int .i64 X.kd, .int .i64 X.hd, .int .u32 X.gen, .bool X.ls]⟩⟩]) [9, 32, 33, 34, 35, 36, 37, 38, 39, 40, 41, 42, 43, 44, 45, 46, 47, 48, 49, 50, 51, 52, 53, 54, 55, 56, 57, 58, 59, 60, 61, 62, 63] (by decide) ?_ fun t1 H1 hk hI => ?_
   ·show AWp _ _ _ _ _
    iterate 3 refine aN rfl rfl (by constructor) ?_
    refine aLd st 1 rfl rfl rfl (by constructor) ?_
    refine aN rfl rfl (by constructor) ?_
    refine aMovV (.bool true) (congrArg Value.bool h2) ?_
    refine gT rfl ?_
    refine aN rfl rfl (by constructor) ?_
    refine gT rfl ?_
    refine aN rfl rfl (by constructor) ?_
    refine gT rfl ?_
    refine aN rfl rfl (by constructor) ?_
    refine gT rfl ?_
    refine aLd st 1 rfl rfl rfl (by constructor) ?_
    refine ⟨?_, trivial⟩
    refine gT rfl ?_
    refine aC (xall_call) fun v42 H5 ⟨hv, st1⟩ => ?_
    subst hv
    replace st := st.call st1 rfl
    clear st1
    refine ⟨⟨(h_Ld st 1 rfl rfl rfl (by constructor)), trivial⟩, ?_⟩
    refine gT rfl ?_
    iterate 2 refine aN rfl rfl (by constructor) ?_
    refine aMovV (.bool false) (congrArg (fun z => Value.bool (!z)) h4) ?_
    refine gF rfl (by decide) ?_
    refine gF rfl (by decide) ?_
    refine gF rfl (by decide) ?_
    refine gF rfl (by decide) ?_
    refine gF rfl (by decide) ?_
    refine gF rfl (by decide) ?_
    refine gF rfl (by decide) ?_
    refine gF rfl (by decide) ?_
    refine gF rfl (by decide) ?_
    refine gF rfl (by decide) ?_
    refine gF rfl (by decide) ?_
    refine gF rfl (by decide) ?_
    iterate 2 refine aN rfl rfl (by constructor) ?_
    refine gF rfl (by decide) ?_
    refine gF rfl (by decide) ?_
    refine gF rfl (by decide) ?_
    refine aN rfl rfl (by constructor) ?_
    refine pE ?_
    show AW _ (.cond _ _ _) _ _ _
    refine cF' rfl ?_
    have hT : (heldB (xpt X) o || pallB (xpt X) o) = (o.act == 0) := by rw [xheld hX]; unfold pallB; show ((X.kd != 0 && !allB X.kd && (X.ks.getD X.hd.toNat 0 == o.act) && o.act != 0) || (allB X.kd && o.act == 0)) = _; simp_all <;> simp [allB]
    exact ⟨congrArg Value.bool hT.symm, st.sel [0, 1] (by decide)⟩
   ·obtain ⟨ht9, st⟩ := hI
    obtain ⟨u, rfl⟩ : ∃ u, t1 = (upd (mix [9, 32, 33, 34, 35, 36, 37, 38, 39, 40, 41, 42, 43, 44, 45, 46, 47, 48, 49, 50, 51, 52, 53, 54, 55, 56, 57, 58, 59, 60, 61, 62, 63] _ u) (some 9) _) := ⟨t1, by rw [← hk, upd_self ht9]⟩
    clear hk ht9
    show AWl _ _ _ _ _
    refine aN rfl rfl (by constructor) ?_
    refine aLd st 0 rfl rfl rfl (by constructor) ?_
    iterate 2 refine aN rfl rfl (by constructor) ?_
    refine gCase 67 rfl (fun h6 => ?_) (fun h6 => ?_)
    ·refine gT rfl ?_
     refine aN rfl rfl (by constructor) ?_
     refine gT rfl ?_
     iterate 2 refine aN rfl rfl (by constructor) ?_
     refine sE ?_
     show AW _ (.cond _ _ _) _ _ _
     refine cC' rfl (fun h7 => ?_) (fun h7 => ?_)
     ·have h7n : (heldB (xpt X) o || pallB (xpt X) o) = false := Eq.mp (Bool.not_eq_true' _) h7
      show AWl _ _ _ _ _
      iterate 3 refine aN rfl rfl (by constructor) ?_
      refine sE ?_
      refine ⟨_, out3 (r_tmp rfl (by constructor)) (r_tmp rfl (by constructor)) (r_tmp rfl (by constructor)) ⟨rfl, rfl, rfl⟩, ?_⟩
      have hc1 : o.act = 0 ∧ pallB (xpt X) o = false := by simp_all
      have st := st.nil 75
      have hM : preemptM (xpt X) n o = ⟨2, 9728, [], xpt X⟩ := by unfold preemptM; rw [if_pos hc1]
      rw [hM]
      exact ⟨X, none, rfl, hX, rfl, st.sel [2, 0] (by decide)⟩
     ·have h7n : (heldB (xpt X) o || pallB (xpt X) o) = true := Eq.mp (Bool.not_eq_false' _) h7
      show AWl _ _ _ _ _
      have hc1 : ¬ (o.act = 0 ∧ pallB (xpt X) o = false) := pre_c1 (X := X) (o := o) (fun h0 => by simp_all)
      have hp := pall_eq hc1
      refine aMovV (.bool true) (congrArg Value.bool h7n) ?_
      refine aN rfl rfl (by constructor) ?_
      refine gT rfl ?_
      refine aN rfl rfl (by constructor) ?_
      refine gT rfl ?_
      refine aLd st 0 rfl rfl rfl (by constructor) ?_
      refine gT rfl ?_
      refine aC (xtype_call) fun v75 H8 ⟨hv, st1⟩ => ?_
      subst hv
      replace st := st.call st1 rfl
      clear st1
      refine gT rfl ?_
      iterate 2 refine aN rfl rfl (by constructor) ?_
      refine sE ?_
      show AW _ (.cond _ _ _) _ _ _
      refine cC' rfl (fun h9 => ?_) (fun h9 => ?_)
      ·have h9n : typeB o.ty = false := Eq.mp (Bool.not_eq_true' _) h9
       show AWl _ _ _ _ _
       iterate 3 refine aN rfl rfl (by constructor) ?_
       refine sE ?_
       refine ⟨_, out3 (r_tmp rfl (by constructor)) (r_tmp rfl (by constructor)) (r_tmp rfl (by constructor)) ⟨rfl, rfl, rfl⟩, ?_⟩
       have hc2 : (heldB (xpt X) o || pallB (xpt X) o) = true ∧ typeB o.ty = false := by simp_all
       have st := st.nil 75
       have hM : preemptM (xpt X) n o = ⟨2, 9216, [], xpt X⟩ := by unfold preemptM; rw [if_neg hc1, if_pos hc2]
       rw [hM]
       exact ⟨X, none, rfl, hX, rfl, st.sel [2, 0] (by decide)⟩
      ·have h9n : typeB o.ty = true := Eq.mp (Bool.not_eq_false' _) h9
       show AWl _ _ _ _ _
       have hc2 : ¬ ((heldB (xpt X) o || pallB (xpt X) o) = true ∧ typeB o.ty = false) := by simp_all
       refine aN rfl rfl (by constructor) ?_
       refine aLd st 0 rfl rfl rfl (by constructor) ?_
       refine aN rfl rfl (by constructor) ?_
       refine aMovV (.bool true) (congrArg Value.bool h6) ?_
       refine sE ?_
       refine AW_cutK (b := .seq (.seq (.list (⟨some 94, _, _⟩ :: _)) _) _) (fun t1 H1 => t1 10 = .bool ((o.act == 0) || (xr X.ks).any fun r => r.2 == o.act) ∧ Stt [b] H H1 [⟨some b5, true, ⟨true, 72, [.int .i64 o.sv, .int .i64 o.ty, .int .u64 o.key, .int .u64 o.act, .bool o.ap]⟩⟩, ⟨some b, true, ⟨true, 65, k8 X.ks [.int .i64 X.kd, .int .i64 X.hd, .int .u32 X.gen, .bool X.ls]⟩⟩]) [10, 11, 81, 82, 83, 84, 85, 86, 87, 88, 89, 90, 91, 92, 93] (by decide) ?_ fun t1 H1 hk hI => ?_
       ·show AWl _ _ _ _ _
        refine aN rfl rfl (by constructor) ?_
        refine sE ?_
        show AW _ (.loop _) _ _ _
        refine AW_loopN (fun m t1 H1 => ∃ (j : Nat), m = 8 - j ∧ (j ≤ 8) ∧ t1 11 = .int .i64 (j : Int) ∧ t1 10 = .bool ((o.act == 0) || (List.range j).any (fun i => X.ks.getD i 0 == o.act)) ∧ Stt [b] H H1 [⟨some b5, true, ⟨true, 72, [.int .i64 o.sv, .int .i64 o.ty, .int .u64 o.key, .int .u64 o.act, .bool o.ap]⟩⟩, ⟨some b, true, ⟨true, 65, k8 X.ks [.int .i64 X.kd, .int .i64 X.hd, .int .u32 X.gen, .bool X.ls]⟩⟩]) (8 - 0) ⟨0, rfl, by omega, rfl, congrArg Value.bool (by first | (simp; done) | simp_all), (st.sel [0, 1] (by decide))⟩ [10, 11, 81, 82, 83, 84, 85, 86, 87, 88, 89, 90, 91, 92, 93] (by decide) ?_
        rintro m t1 H1 hk hI
        obtain ⟨j, rfl, hj, ht11, ht10, st⟩ := hI
        obtain ⟨u, rfl⟩ : ∃ u, t1 = (upd (upd (mix [10, 11, 81, 82, 83, 84, 85, 86, 87, 88, 89, 90, 91, 92, 93] _ u) (some 11) _) (some 10) _) := ⟨t1, by rw [← hk, upd_self ht11, upd_self ht10]⟩
        clear hk ht11 ht10
        show AWl _ _ _ _ _
        iterate 2 refine aN rfl rfl (by constructor) ?_
        refine sE ?_
        show AW _ (.cond _ _ _) _ _ _
        refine cC' rfl (fun h10 => ?_) (fun h10 => ?_)
        ·have hlt : j < 8 := by have := of_decide_eq_true h10; omega
         show AWp _ _ _ _ _
         iterate 4 refine aN rfl rfl (by constructor) ?_
         refine aIxA rfl rfl (by omega) ?_
         refine aLd st 1 rfl rfl (k8_at X.ks _ (by omega)) (by constructor) ?_
         refine aN rfl rfl (by constructor) ?_
         refine aLd st 0 rfl rfl rfl (by constructor) ?_
         refine aN rfl rfl (by constructor) ?_
         refine pE ?_
         show AW _ (.cond _ _ _) _ _ _
         refine cC' rfl (fun h11 => ?_) (fun h11 => ?_)
         ·show AWl _ _ _ _ _
          refine aN rfl rfl (by constructor) ?_
          refine sE ?_
          show AWl _ _ _ _ _
          iterate 3 refine aN rfl rfl (by constructor) ?_
          refine sE ?_
          exact ⟨_, by omega, j + 1, rfl, by omega, congrArg (Value.int .i64) (wi _ (by omega)), congrArg Value.bool (by rw [any_range]; show _ = (_ || (_ || (X.ks.getD j 0 == o.act))); rw [show (X.ks.getD j 0 == o.act) = true from h11]; simp), (st.sel [0, 1] (by decide))⟩
         ·show AWl _ _ _ _ _
          iterate 3 refine aN rfl rfl (by constructor) ?_
          refine sE ?_
          exact ⟨_, by omega, j + 1, rfl, by omega, congrArg (Value.int .i64) (wi _ (by omega)), congrArg Value.bool (by rw [any_range]; show _ = (_ || (_ || (X.ks.getD j 0 == o.act))); rw [show (X.ks.getD j 0 == o.act) = false from h11]; simp), (st.sel [0, 1] (by decide))⟩
        ·have hge : j = 8 := by have := of_decide_eq_false h10; omega
         subst hge
         exact ⟨congrArg Value.bool (any_act X.ks o), (st.sel [0, 1] (by decide))⟩
       ·obtain ⟨ht10, st⟩ := hI
        obtain ⟨u, rfl⟩ : ∃ u, t1 = (upd (mix [10, 11, 81, 82, 83, 84, 85, 86, 87, 88, 89, 90, 91, 92, 93] _ u) (some 10) _) := ⟨t1, by rw [← hk, upd_self ht10]⟩
        clear hk ht10
        show AWl _ _ _ _ _
        iterate 2 refine aN rfl rfl (by constructor) ?_
        refine sE ?_
        show AW _ (.cond _ _ _) _ _ _
        refine cC' rfl (fun h12 => ?_) (fun h12 => ?_)
        ·have h12n : ((o.act == 0) || (xr X.ks).any fun r => r.2 == o.act) = false := Eq.mp (Bool.not_eq_true' _) h12
         show AWl _ _ _ _ _
         iterate 3 refine aN rfl rfl (by constructor) ?_
         refine sE ?_
         refine ⟨_, out3 (r_tmp rfl (by constructor)) (r_tmp rfl (by constructor)) (r_tmp rfl (by constructor)) ⟨rfl, rfl, rfl⟩, ?_⟩
         have hc3 : ((xpt X).regs.any fun r => r.2 == o.act) = false ∧ pallB (xpt X) o = false := pre_c3b hp h12n
         have st := st.nil 75
         have hM : preemptM (xpt X) n o = ⟨24, 0, [], xpt X⟩ := by unfold preemptM; rw [if_neg hc1, if_neg hc2, if_pos hc3]
         rw [hM]
         exact ⟨X, none, rfl, hX, rfl, st.sel [2, 0] (by decide)⟩
        ·have h12n : ((o.act == 0) || (xr X.ks).any fun r => r.2 == o.act) = true := Eq.mp (Bool.not_eq_false' _) h12
         show AWl _ _ _ _ _
         have hc3 : ¬ (((xpt X).regs.any fun r => r.2 == o.act) = false ∧ pallB (xpt X) o = false) := pre_c3 hp h12n
         refine aN rfl rfl (by constructor) ?_
         refine sE ?_
         refine AW_cutK (b := .seq (.seq (.list (⟨some 138, _, _⟩ :: _)) _) _) (fun t1 H1 => ∃ (oe : Option Nat), t1 12 = accV oe (goneE (xpt X) n o).length 2 ∧ Stt [b] H H1 [⟨oe, true, ⟨true, 75, (goneE (xpt X) n o).flatMap ev2E⟩⟩, ⟨some b5, true, ⟨true, 72, [.int .i64 o.sv, .int .i64 o.ty, .int .u64 o.key, .int .u64 o.act, .bool o.ap]⟩⟩, ⟨some b, true, ⟨true, 65, k8 (zk X.ks n o 8) [.int .i64 X.kd, .int .i64 X.hd, .int .u32 X.gen, .bool X.ls]⟩⟩]) [12, 13, 96, 97, 98, 99, 100, 101, 102, 103, 104, 105, 106, 107, 108, 109, 110, 111, 112, 113, 114, 115, 116, 117, 118, 119, 120, 121, 122, 123, 124, 125, 126, 127, 128, 129, 130, 131, 132, 133, 134, 135, 136, 137] (by decide) ?_ fun t1 H1 hk hI => ?_
         ·show AWl _ _ _ _ _
          refine aN rfl rfl (by constructor) ?_
          refine sE ?_
          show AW _ (.loop _) _ _ _
          have st := st.nil 75
          refine AW_loopN (fun m t1 H1 => ∃ (j : Nat) (oc : Option Nat), m = 8 - j ∧ (j ≤ 8) ∧ t1 13 = .int .i64 (j : Int) ∧ t1 12 = accV oc (goneTo X n o j).length 2 ∧ Stt [b] H H1 [⟨oc, true, ⟨true, 75, ((goneTo X n o j)).flatMap ev2E⟩⟩, ⟨some b5, true, ⟨true, 72, [.int .i64 o.sv, .int .i64 o.ty, .int .u64 o.key, .int .u64 o.act, .bool o.ap]⟩⟩, ⟨some b, true, ⟨true, 65, k8 (zk X.ks n o j) [.int .i64 X.kd, .int .i64 X.hd, .int .u32 X.gen, .bool X.ls]⟩⟩]) (8 - 0) ⟨0, none, rfl, by omega, rfl, rfl, (st.sel [0, 1, 2] (by decide))⟩ [12, 13, 96, 97, 98, 99, 100, 101, 102, 103, 104, 105, 106, 107, 108, 109, 110, 111, 112, 113, 114, 115, 116, 117, 118, 119, 120, 121, 122, 123, 124, 125, 126, 127, 128, 129, 130, 131, 132, 133, 134, 135, 136, 137] (by decide) ?_
          rintro m t1 H1 hk hI
          obtain ⟨j, oc, rfl, hj, ht13, ht12, st⟩ := hI
          obtain ⟨u, rfl⟩ : ∃ u, t1 = (upd (upd (mix [12, 13, 96, 97, 98, 99, 100, 101, 102, 103, 104, 105, 106, 107, 108, 109, 110, 111, 112, 113, 114, 115, 116, 117, 118, 119, 120, 121, 122, 123, 124, 125, 126, 127, 128, 129, 130, 131, 132, 133, 134, 135, 136, 137] _ u) (some 13) _) (some 12) _) := ⟨t1, by rw [← hk, upd_self ht13, upd_self ht12]⟩
          clear hk ht13 ht12
          show AWl _ _ _ _ _
          iterate 2 refine aN rfl rfl (by constructor) ?_
          refine sE ?_
          show AW _ (.cond _ _ _) _ _ _
          refine cC' rfl (fun h13 => ?_) (fun h13 => ?_)
          ·have hlt : j < 8 := by have := of_decide_eq_true h13; omega
           show AWp _ _ _ _ _
           iterate 4 refine aN rfl rfl (by constructor) ?_
           refine gCase 103 rfl (fun h14 => ?_) (fun h14 => ?_)
           ·refine gT rfl ?_
            refine aN rfl rfl (by constructor) ?_
            refine gT rfl ?_
            refine aN rfl rfl (by constructor) ?_
            refine gT rfl ?_
            refine aN rfl rfl (by constructor) ?_
            refine gT rfl ?_
            refine aN rfl rfl (by constructor) ?_
            refine gT rfl ?_
            refine aIxA rfl rfl (by omega) ?_
            refine gT rfl ?_
            refine aLd st 2 rfl rfl (k8_at (zk X.ks n o j) _ (by omega)) (by constructor) ?_
            rw [show (zk X.ks n o j).getD ((j : Int)).toNat 0 = X.ks.getD j 0 from zk_at n o (by rw [hX.len]; omega)]
            refine gT rfl ?_
            iterate 3 refine aN rfl rfl (by constructor) ?_
            refine gCase 112 rfl (fun h15 => ?_) (fun h15 => ?_)
            ·refine gT rfl ?_
             refine aN rfl rfl (by constructor) ?_
             refine gT rfl ?_
             refine aLd st 1 rfl rfl rfl (by constructor) ?_
             refine gT rfl ?_
             refine aN rfl rfl (by constructor) ?_
             refine gT rfl ?_
             refine aMovV (.bool true) (congrArg Value.bool h6) ?_
             refine gF rfl (by decide) ?_
             refine gF rfl (by decide) ?_
             refine gF rfl (by decide) ?_
             refine gF rfl (by decide) ?_
             refine gF rfl (by decide) ?_
             refine gF rfl (by decide) ?_
             refine gF rfl (by decide) ?_
             refine gF rfl (by decide) ?_
             refine gF rfl (by decide) ?_
             refine gT rfl ?_
             iterate 2 refine aN rfl rfl (by constructor) ?_
             refine pE ?_
             show AW _ (.cond _ _ _) _ _ _
             refine cT rfl ?_
             show AWl _ _ _ _ _
             have hg : goes n o j (X.ks.getD j 0) = true := by unfold goes; simp only [h14, h15, h6, Bool.and_true, Bool.true_and, Bool.false_and, Bool.and_false, Bool.or_true, Bool.true_or, Bool.false_or, Bool.or_false]
             have ho2 : (goneTo X n o (j + 1)) = (goneTo X n o j) ++ [((j : Int), 10757)] := gone_t hp hg
             have hz2 : zk X.ks n o (j + 1) = (zk X.ks n o j).set j 0 := if_pos hg
             iterate 4 refine aN rfl rfl (by constructor) ?_
             refine aIxA rfl rfl (by omega) ?_
             refine aStAt (u := .int .u64 0) (cs := k8 ((zk X.ks n o j).set j 0) [.int .i64 X.kd, .int .i64 X.hd, .int .u32 X.gen, .bool X.ls]) st 2 rfl rfl rfl rfl rfl (by show 0 + ((j : Int)).toNat * 1 < 12; omega) (k8_set (n := (j : Int)) (by rw [zk_len]; exact hX.len) _ (by omega)) fun H16 st => ?_
             refine sE ?_
             show AWl _ _ _ _ _
             refine aMovA rfl ?_
             refine aN rfl rfl (by constructor) ?_
             refine aBld rfl (by repeat constructor) ?_
             refine aLit st rfl (by repeat constructor) fun b136 H17 st => ?_
             refine aApp st 1 (ob := oc) rfl rfl rfl (by decide) (by exact flat_len' ev2E_len _) (st.rowAll 0 rfl (by first | rfl | (simp [beB_len, *]; done) | (simp [beB_len, *]; omega))).src (by first | rfl | simp) (by have := gone_len X n o j; omega) (by have := gone_len X n o j; omega) fun b137 H18 hp137 st => ?_
             have st := st.recell 1 rfl (cs' := (goneTo X n o (j + 1)).flatMap ev2E) (flat_snoc ho2 rfl)
             have hc3 : ¬ (((xpt X).regs.any fun r => r.2 == o.act) = false ∧ pallB (xpt X) o = false) := pre_c3 hp h12n
             refine aMovA rfl ?_
             refine sE ?_
             show AWl _ _ _ _ _
             iterate 3 refine aN rfl rfl (by constructor) ?_
             refine sE ?_
             have st := st.recell 3 rfl (cs' := k8 (zk X.ks n o (j + 1)) [.int .i64 X.kd, .int .i64 X.hd, .int .u32 X.gen, .bool X.ls]) (by rw [hz2])
             exact ⟨_, by omega, j + 1, b137, rfl, by omega, congrArg (Value.int .i64) (wi _ (by omega)), congrArg (fun n => accV _ n 2) (len_snoc ho2), (st.sel [1, 2, 3] (by decide))⟩
            ·refine gF rfl (by decide) ?_
             refine gF rfl (by decide) ?_
             refine gF rfl (by decide) ?_
             refine gF rfl (by decide) ?_
             refine gU rfl ?_
             refine gU rfl ?_
             refine gU rfl ?_
             refine gU rfl ?_
             refine gU rfl ?_
             refine gU rfl ?_
             refine gU rfl ?_
             refine gU rfl ?_
             refine gU rfl ?_
             refine gF rfl (by decide) ?_
             refine aN rfl rfl (by constructor) ?_
             refine pE ?_
             show AW _ (.cond _ _ _) _ _ _
             refine cF' rfl ?_
             show AWl _ _ _ _ _
             iterate 3 refine aN rfl rfl (by constructor) ?_
             refine sE ?_
             have hg : goes n o j (X.ks.getD j 0) = false := by unfold goes; simp only [h14, h15, h6, Bool.and_true, Bool.true_and, Bool.false_and, Bool.and_false, Bool.or_true, Bool.true_or, Bool.false_or, Bool.or_false]
             have ho2 : (goneTo X n o (j + 1)) = (goneTo X n o j) := gone_f hp hg
             have hz2 : zk X.ks n o (j + 1) = zk X.ks n o j := if_neg (by rw [hg]; decide)
             have st := st.recell 0 rfl (cs' := (goneTo X n o (j + 1)).flatMap ev2E) (by rw [ho2])
             have st := st.recell 2 rfl (cs' := k8 (zk X.ks n o (j + 1)) [.int .i64 X.kd, .int .i64 X.hd, .int .u32 X.gen, .bool X.ls]) (by rw [hz2])
             exact ⟨_, by omega, j + 1, oc, rfl, by omega, congrArg (Value.int .i64) (wi _ (by omega)), congrArg (fun n => accV _ n 2) (congrArg List.length ho2.symm), (st.sel [0, 1, 2] (by decide))⟩
           ·refine gF rfl (by decide) ?_
            refine gF rfl (by decide) ?_
            refine gF rfl (by decide) ?_
            refine gF rfl (by decide) ?_
            refine gF rfl (by decide) ?_
            refine gF rfl (by decide) ?_
            refine gF rfl (by decide) ?_
            iterate 2 refine aN rfl rfl (by constructor) ?_
            refine gF rfl (by decide) ?_
            refine gF rfl (by decide) ?_
            refine gF rfl (by decide) ?_
            refine gF rfl (by decide) ?_
            refine gU rfl ?_
            refine gU rfl ?_
            refine gU rfl ?_
            refine gU rfl ?_
            refine gU rfl ?_
            refine gU rfl ?_
            refine gU rfl ?_
            refine gU rfl ?_
            refine gU rfl ?_
            refine gF rfl (by decide) ?_
            refine aN rfl rfl (by constructor) ?_
            refine pE ?_
            show AW _ (.cond _ _ _) _ _ _
            refine cF' rfl ?_
            show AWl _ _ _ _ _
            iterate 3 refine aN rfl rfl (by constructor) ?_
            refine sE ?_
            have hg : goes n o j (X.ks.getD j 0) = false := by unfold goes; simp only [h14, h6, Bool.and_true, Bool.true_and, Bool.false_and, Bool.and_false, Bool.or_true, Bool.true_or, Bool.false_or, Bool.or_false]
            have ho2 : (goneTo X n o (j + 1)) = (goneTo X n o j) := gone_f hp hg
            have hz2 : zk X.ks n o (j + 1) = zk X.ks n o j := if_neg (by rw [hg]; decide)
            have st := st.recell 0 rfl (cs' := (goneTo X n o (j + 1)).flatMap ev2E) (by rw [ho2])
            have st := st.recell 2 rfl (cs' := k8 (zk X.ks n o (j + 1)) [.int .i64 X.kd, .int .i64 X.hd, .int .u32 X.gen, .bool X.ls]) (by rw [hz2])
            exact ⟨_, by omega, j + 1, oc, rfl, by omega, congrArg (Value.int .i64) (wi _ (by omega)), congrArg (fun n => accV _ n 2) (congrArg List.length ho2.symm), (st.sel [0, 1, 2] (by decide))⟩
          ·have hge : j = 8 := by have := of_decide_eq_false h13; omega
           subst hge
           exact ⟨oc, rfl, (st.sel [0, 1, 2] (by decide))⟩
         ·obtain ⟨oe, ht12, st⟩ := hI
          obtain ⟨u, rfl⟩ : ∃ u, t1 = (upd (mix [12, 13, 96, 97, 98, 99, 100, 101, 102, 103, 104, 105, 106, 107, 108, 109, 110, 111, 112, 113, 114, 115, 116, 117, 118, 119, 120, 121, 122, 123, 124, 125, 126, 127, 128, 129, 130, 131, 132, 133, 134, 135, 136, 137] _ u) (some 12) _) := ⟨t1, by rw [← hk, upd_self ht12]⟩
          clear hk ht12
          refine AW_cutK (b := .seq (.list (⟨some 165, _, _⟩ :: _)) _) (fun t1 H1 => ∃ (oe : Option Nat), t1 12 = accV oe (goneE (xpt X) n o ++ relE (xpt X) n o).length 2 ∧ Stt [b] H H1 [⟨oe, true, ⟨true, 75, (goneE (xpt X) n o ++ relE (xpt X) n o).flatMap ev2E⟩⟩, ⟨some b, true, ⟨true, 65, k8 (zk X.ks n o 8) [.int .i64 (if (heldB (xpt X) o || pallB (xpt X) o) = true then o.ty else X.kd), .int .i64 (if (heldB (xpt X) o || pallB (xpt X) o) = true then n else X.hd), .int .u32 X.gen, .bool X.ls]⟩⟩]) [12, 14, 138, 139, 140, 141, 142, 143, 144, 145, 146, 147, 148, 149, 150, 151, 152, 153, 154, 155, 156, 157, 158, 159, 160, 161, 162, 163, 164] (by decide) ?_ fun t1 H1 hk hI => ?_
          ·show AWl _ _ _ _ _
           refine aMovV (.bool true) (congrArg Value.bool h7n) ?_
           refine sE ?_
           show AW _ (.cond _ _ _) _ _ _
           refine cT rfl ?_
           show AWl _ _ _ _ _
           iterate 3 refine aN rfl rfl (by constructor) ?_
           refine aLd st 2 rfl rfl rfl (by constructor) ?_
           refine aN rfl rfl (by constructor) ?_
           refine sE ?_
           show AWl _ _ _ _ _
           iterate 2 refine aN rfl rfl (by constructor) ?_
           refine aLd st 1 rfl rfl rfl (by constructor) ?_
           iterate 2 refine aN rfl rfl (by constructor) ?_
           refine aSt st 2 rfl rfl rfl rfl (by first | rfl | simp [cellsOf, *]) (by first | decide | (simp [*]; done) | (simp [k8]; done)) (by repeat constructor) fun H19 st => ?_
           refine sE ?_
           show AWl _ _ _ _ _
           iterate 4 refine aN rfl rfl (by constructor) ?_
           refine aSt st 2 rfl rfl rfl rfl (by first | rfl | simp [cellsOf, *]) (by first | decide | (simp [*]; done) | (simp [k8]; done)) (by repeat constructor) fun H20 st => ?_
           refine sE ?_
           show AWl _ _ _ _ _
           iterate 3 refine aN rfl rfl (by constructor) ?_
           refine gCase 154 rfl (fun h21 => ?_) (fun h21 => ?_)
           ·refine gT rfl ?_
            refine aN rfl rfl (by constructor) ?_
            refine gT rfl ?_
            refine aN rfl rfl (by constructor) ?_
            refine gT rfl ?_
            refine aLd st 1 rfl rfl rfl (by constructor) ?_
            refine gT rfl ?_
            iterate 2 refine aN rfl rfl (by constructor) ?_
            refine sE ?_
            show AW _ (.cond _ _ _) _ _ _
            refine cC' rfl (fun h22 => ?_) (fun h22 => ?_)
            ·show AWl _ _ _ _ _
             have hb1 : (goneE (xpt X) n o).length ≤ 8 := gone_len X n o 8
             have hb2 : (othersM (zk X.ks n o 8) n 10756).length ≤ 8 := oth_len (zk X.ks n o 8) n 10756 8
             refine aMovA rfl ?_
             iterate 2 refine aN rfl rfl (by constructor) ?_
             refine aC (others_call (X := ({ ks := (zk X.ks n o 8), kd := o.ty, hd := n, gen := X.gen, ls := X.ls } : XT)) (but := n) (code := 10756) (st.get (j := 2) rfl)) fun v163 H23 ⟨oe163, hv, st1⟩ => ?_
             subst hv
             replace st := st.call st1 rfl
             clear st1
             rw [show othersM ({ ks := (zk X.ks n o 8), kd := o.ty, hd := n, gen := X.gen, ls := X.ls } : XT).ks n 10756 = othersM (zk X.ks n o 8) n 10756 from rfl] at st ⊢
             refine aApp st 1 (ob := oe) rfl rfl rfl (by decide) (by exact flat_len' ev2E_len _) (st.rowAcc 0 rfl (by decide) (by exact flat_len' ev2E_len _)).src (by exact flat_len' ev2E_len _) (by omega) (by omega) fun b164 H24 hp164 st => ?_
             have hc3 : ¬ (((xpt X).regs.any fun r => r.2 == o.act) = false ∧ pallB (xpt X) o = false) := pre_c3 hp h12n
             refine aMovA rfl ?_
             refine sE ?_
             have hK : (if (heldB (xpt X) o || pallB (xpt X) o) = true then o.ty else X.kd) = o.ty := if_pos h7n
             have hD : (if (heldB (xpt X) o || pallB (xpt X) o) = true then n else X.hd) = n := if_pos h7n
             have hR : relE (xpt X) n o = othersM (zk X.ks n o 8) n 10756 := by unfold relE othersM; rw [if_pos ⟨h7n, by simp_all [xpt], by simp_all [xpt]⟩, xr_zk hX.len hp]
             have st2 := st.sel [1, 3] (by decide)
             exact ⟨b164, (by rw [hR, List.length_append] <;> rfl), by rw [hR, hK, hD, List.flatMap_append]; exact st2⟩
            ·have hK : (if (heldB (xpt X) o || pallB (xpt X) o) = true then o.ty else X.kd) = o.ty := if_pos h7n
             have hD : (if (heldB (xpt X) o || pallB (xpt X) o) = true then n else X.hd) = n := if_pos h7n
             have hR : relE (xpt X) n o = [] := if_neg (fun hc => by have h1 := hc.2.1; have h2 := hc.2.2; simp_all [xpt] <;> omega)
             have st2 := st.sel [0, 2] (by decide)
             exact ⟨oe, (by rw [hR, List.append_nil] <;> rfl), by rw [hR, hK, hD, List.append_nil]; exact st2⟩
           ·refine gF rfl (by decide) ?_
            refine gF rfl (by decide) ?_
            refine gF rfl (by decide) ?_
            refine gF rfl (by decide) ?_
            refine aN rfl rfl (by constructor) ?_
            refine sE ?_
            show AW _ (.cond _ _ _) _ _ _
            refine cF' rfl ?_
            have hK : (if (heldB (xpt X) o || pallB (xpt X) o) = true then o.ty else X.kd) = o.ty := if_pos h7n
            have hD : (if (heldB (xpt X) o || pallB (xpt X) o) = true then n else X.hd) = n := if_pos h7n
            have hR : relE (xpt X) n o = [] := if_neg (fun hc => by have h1 := hc.2.1; have h2 := hc.2.2; simp_all [xpt] <;> omega)
            have st2 := st.sel [0, 2] (by decide)
            exact ⟨oe, (by rw [hR, List.append_nil] <;> rfl), by rw [hR, hK, hD, List.append_nil]; exact st2⟩
          ·obtain ⟨oe, ht12, st⟩ := hI
           obtain ⟨u, rfl⟩ : ∃ u, t1 = (upd (mix [12, 14, 138, 139, 140, 141, 142, 143, 144, 145, 146, 147, 148, 149, 150, 151, 152, 153, 154, 155, 156, 157, 158, 159, 160, 161, 162, 163, 164] _ u) (some 12) _) := ⟨t1, by rw [← hk, upd_self ht12]⟩
           clear hk ht12
           show AWl _ _ _ _ _
           iterate 3 refine aN rfl rfl (by constructor) ?_
           refine aLd st 1 rfl rfl rfl (by constructor) ?_
           iterate 3 refine aN rfl rfl (by constructor) ?_
           refine aSt st 1 rfl rfl rfl rfl (by first | rfl | simp [cellsOf, *]) (by first | decide | (simp [*]; done) | (simp [k8]; done)) (by repeat constructor) fun H25 st => ?_
           refine sE ?_
           show AWl _ _ _ _ _
           refine aMovA rfl ?_
           iterate 2 refine aN rfl rfl (by constructor) ?_
           refine aMovA rfl ?_
           refine sE ?_
           refine ⟨_, out3 (r_tmp rfl (by constructor)) (r_tmp rfl (by constructor)) (r_acc rfl) ⟨rfl, rfl, notTup_acc⟩, ?_⟩
           have hM : preemptM (xpt X) n o = ⟨0, 0, goneE (xpt X) n o ++ relE (xpt X) n o, { xpt X with regs := leftM (xpt X) n o, kind := (if (heldB (xpt X) o || pallB (xpt X) o) = true then o.ty else X.kd), holder := if (heldB (xpt X) o || pallB (xpt X) o) = true then n else (xpt X).holder, gen := inc32 X.gen }⟩ := by unfold preemptM; rw [if_neg hc1, if_neg hc2, if_neg hc3]; rfl
           rw [hM]
           exact ⟨({ ks := (zk X.ks n o 8), kd := (if (heldB (xpt X) o || pallB (xpt X) o) = true then o.ty else X.kd), hd := (if (heldB (xpt X) o || pallB (xpt X) o) = true then n else X.hd), gen := inc32 X.gen, ls := X.ls } : XT), oe, rfl, zk_ok hX (ite_bd hty hX.kd) (ite_bd hn hX.hd), pre_tab hX hp hc2, st.sel [1, 0] (by decide)⟩
    ·refine gF rfl (by decide) ?_
     refine gF rfl (by decide) ?_
     refine aN rfl rfl (by constructor) ?_
     refine sE ?_
     show AW _ (.cond _ _ _) _ _ _
     refine cF' rfl ?_
     show AWl _ _ _ _ _
     have hc1 : ¬ (o.act = 0 ∧ pallB (xpt X) o = false) := pre_c1 (X := X) (o := o) (fun h0 => by simp_all)
     have hp := pall_eq hc1
     iterate 2 refine aN rfl rfl (by constructor) ?_
     refine gCase 72 rfl (fun h26 => ?_) (fun h26 => ?_)
     ·refine gT rfl ?_
      refine aN rfl rfl (by constructor) ?_
      refine gT rfl ?_
      refine aLd st 0 rfl rfl rfl (by constructor) ?_
      refine gT rfl ?_
      refine aC (xtype_call) fun v75 H27 ⟨hv, st1⟩ => ?_
      subst hv
      replace st := st.call st1 rfl
      clear st1
      refine gT rfl ?_
      iterate 2 refine aN rfl rfl (by constructor) ?_
      refine sE ?_
      show AW _ (.cond _ _ _) _ _ _
      refine cC' rfl (fun h28 => ?_) (fun h28 => ?_)
      ·have h28n : typeB o.ty = false := Eq.mp (Bool.not_eq_true' _) h28
       show AWl _ _ _ _ _
       iterate 3 refine aN rfl rfl (by constructor) ?_
       refine sE ?_
       refine ⟨_, out3 (r_tmp rfl (by constructor)) (r_tmp rfl (by constructor)) (r_tmp rfl (by constructor)) ⟨rfl, rfl, rfl⟩, ?_⟩
       have hc2 : (heldB (xpt X) o || pallB (xpt X) o) = true ∧ typeB o.ty = false := by simp_all
       have st := st.nil 75
       have hM : preemptM (xpt X) n o = ⟨2, 9216, [], xpt X⟩ := by unfold preemptM; rw [if_neg hc1, if_pos hc2]
       rw [hM]
       exact ⟨X, none, rfl, hX, rfl, st.sel [2, 0] (by decide)⟩
      ·have h28n : typeB o.ty = true := Eq.mp (Bool.not_eq_false' _) h28
       show AWl _ _ _ _ _
       have hc2 : ¬ ((heldB (xpt X) o || pallB (xpt X) o) = true ∧ typeB o.ty = false) := by simp_all
       refine aN rfl rfl (by constructor) ?_
       refine aLd st 0 rfl rfl rfl (by constructor) ?_
       refine aN rfl rfl (by constructor) ?_
       refine aMovV (.bool false) (congrArg Value.bool h6) ?_
       refine sE ?_
       refine AW_cutK (b := .seq (.seq (.list (⟨some 94, _, _⟩ :: _)) _) _) (fun t1 H1 => t1 10 = .bool ((o.act == 0) || (xr X.ks).any fun r => r.2 == o.act) ∧ Stt [b] H H1 [⟨some b5, true, ⟨true, 72, [.int .i64 o.sv, .int .i64 o.ty, .int .u64 o.key, .int .u64 o.act, .bool o.ap]⟩⟩, ⟨some b, true, ⟨true, 65, k8 X.ks [.int .i64 X.kd, .int .i64 X.hd, .int .u32 X.gen, .bool X.ls]⟩⟩]) [10, 11, 81, 82, 83, 84, 85, 86, 87, 88, 89, 90, 91, 92, 93] (by decide) ?_ fun t1 H1 hk hI => ?_
       ·show AWl _ _ _ _ _
        refine aN rfl rfl (by constructor) ?_
        refine sE ?_
        show AW _ (.loop _) _ _ _
        refine AW_loopN (fun m t1 H1 => ∃ (j : Nat), m = 8 - j ∧ (j ≤ 8) ∧ t1 11 = .int .i64 (j : Int) ∧ t1 10 = .bool ((o.act == 0) || (List.range j).any (fun i => X.ks.getD i 0 == o.act)) ∧ Stt [b] H H1 [⟨some b5, true, ⟨true, 72, [.int .i64 o.sv, .int .i64 o.ty, .int .u64 o.key, .int .u64 o.act, .bool o.ap]⟩⟩, ⟨some b, true, ⟨true, 65, k8 X.ks [.int .i64 X.kd, .int .i64 X.hd, .int .u32 X.gen, .bool X.ls]⟩⟩]) (8 - 0) ⟨0, rfl, by omega, rfl, congrArg Value.bool (by first | (simp; done) | simp_all), (st.sel [0, 1] (by decide))⟩ [10, 11, 81, 82, 83, 84, 85, 86, 87, 88, 89, 90, 91, 92, 93] (by decide) ?_
        rintro m t1 H1 hk hI
        obtain ⟨j, rfl, hj, ht11, ht10, st⟩ := hI
        obtain ⟨u, rfl⟩ : ∃ u, t1 = (upd (upd (mix [10, 11, 81, 82, 83, 84, 85, 86, 87, 88, 89, 90, 91, 92, 93] _ u) (some 11) _) (some 10) _) := ⟨t1, by rw [← hk, upd_self ht11, upd_self ht10]⟩
        clear hk ht11 ht10
        show AWl _ _ _ _ _
        iterate 2 refine aN rfl rfl (by constructor) ?_
        refine sE ?_
        show AW _ (.cond _ _ _) _ _ _
        refine cC' rfl (fun h29 => ?_) (fun h29 => ?_)
        ·have hlt : j < 8 := by have := of_decide_eq_true h29; omega
         show AWp _ _ _ _ _
         iterate 4 refine aN rfl rfl (by constructor) ?_
         refine aIxA rfl rfl (by omega) ?_
         refine aLd st 1 rfl rfl (k8_at X.ks _ (by omega)) (by constructor) ?_
         refine aN rfl rfl (by constructor) ?_
         refine aLd st 0 rfl rfl rfl (by constructor) ?_
         refine aN rfl rfl (by constructor) ?_
         refine pE ?_
         show AW _ (.cond _ _ _) _ _ _
         refine cC' rfl (fun h30 => ?_) (fun h30 => ?_)
         ·show AWl _ _ _ _ _
          refine aN rfl rfl (by constructor) ?_
          refine sE ?_
          show AWl _ _ _ _ _
          iterate 3 refine aN rfl rfl (by constructor) ?_
          refine sE ?_
          exact ⟨_, by omega, j + 1, rfl, by omega, congrArg (Value.int .i64) (wi _ (by omega)), congrArg Value.bool (by rw [any_range]; show _ = (_ || (_ || (X.ks.getD j 0 == o.act))); rw [show (X.ks.getD j 0 == o.act) = true from h30]; simp), (st.sel [0, 1] (by decide))⟩
         ·show AWl _ _ _ _ _
          iterate 3 refine aN rfl rfl (by constructor) ?_
          refine sE ?_
          exact ⟨_, by omega, j + 1, rfl, by omega, congrArg (Value.int .i64) (wi _ (by omega)), congrArg Value.bool (by rw [any_range]; show _ = (_ || (_ || (X.ks.getD j 0 == o.act))); rw [show (X.ks.getD j 0 == o.act) = false from h30]; simp), (st.sel [0, 1] (by decide))⟩
        ·have hge : j = 8 := by have := of_decide_eq_false h29; omega
         subst hge
         exact ⟨congrArg Value.bool (any_act X.ks o), (st.sel [0, 1] (by decide))⟩
       ·obtain ⟨ht10, st⟩ := hI
        obtain ⟨u, rfl⟩ : ∃ u, t1 = (upd (mix [10, 11, 81, 82, 83, 84, 85, 86, 87, 88, 89, 90, 91, 92, 93] _ u) (some 10) _) := ⟨t1, by rw [← hk, upd_self ht10]⟩
        clear hk ht10
        show AWl _ _ _ _ _
        iterate 2 refine aN rfl rfl (by constructor) ?_
        refine sE ?_
        show AW _ (.cond _ _ _) _ _ _
        refine cC' rfl (fun h31 => ?_) (fun h31 => ?_)
        ·have h31n : ((o.act == 0) || (xr X.ks).any fun r => r.2 == o.act) = false := Eq.mp (Bool.not_eq_true' _) h31
         show AWl _ _ _ _ _
         iterate 3 refine aN rfl rfl (by constructor) ?_
         refine sE ?_
         refine ⟨_, out3 (r_tmp rfl (by constructor)) (r_tmp rfl (by constructor)) (r_tmp rfl (by constructor)) ⟨rfl, rfl, rfl⟩, ?_⟩
         have hc3 : ((xpt X).regs.any fun r => r.2 == o.act) = false ∧ pallB (xpt X) o = false := pre_c3b hp h31n
         have st := st.nil 75
         have hM : preemptM (xpt X) n o = ⟨24, 0, [], xpt X⟩ := by unfold preemptM; rw [if_neg hc1, if_neg hc2, if_pos hc3]
         rw [hM]
         exact ⟨X, none, rfl, hX, rfl, st.sel [2, 0] (by decide)⟩
        ·have h31n : ((o.act == 0) || (xr X.ks).any fun r => r.2 == o.act) = true := Eq.mp (Bool.not_eq_false' _) h31
         show AWl _ _ _ _ _
         have hc3 : ¬ (((xpt X).regs.any fun r => r.2 == o.act) = false ∧ pallB (xpt X) o = false) := pre_c3 hp h31n
         refine aN rfl rfl (by constructor) ?_
         refine sE ?_
         refine AW_cutK (b := .seq (.seq (.list (⟨some 138, _, _⟩ :: _)) _) _) (fun t1 H1 => ∃ (oe : Option Nat), t1 12 = accV oe (goneE (xpt X) n o).length 2 ∧ Stt [b] H H1 [⟨oe, true, ⟨true, 75, (goneE (xpt X) n o).flatMap ev2E⟩⟩, ⟨some b5, true, ⟨true, 72, [.int .i64 o.sv, .int .i64 o.ty, .int .u64 o.key, .int .u64 o.act, .bool o.ap]⟩⟩, ⟨some b, true, ⟨true, 65, k8 (zk X.ks n o 8) [.int .i64 X.kd, .int .i64 X.hd, .int .u32 X.gen, .bool X.ls]⟩⟩]) [12, 13, 96, 97, 98, 99, 100, 101, 102, 103, 104, 105, 106, 107, 108, 109, 110, 111, 112, 113, 114, 115, 116, 117, 118, 119, 120, 121, 122, 123, 124, 125, 126, 127, 128, 129, 130, 131, 132, 133, 134, 135, 136, 137] (by decide) ?_ fun t1 H1 hk hI => ?_
         ·show AWl _ _ _ _ _
          refine aN rfl rfl (by constructor) ?_
          refine sE ?_
          show AW _ (.loop _) _ _ _
          have st := st.nil 75
          refine AW_loopN (fun m t1 H1 => ∃ (j : Nat) (oc : Option Nat), m = 8 - j ∧ (j ≤ 8) ∧ t1 13 = .int .i64 (j : Int) ∧ t1 12 = accV oc (goneTo X n o j).length 2 ∧ Stt [b] H H1 [⟨oc, true, ⟨true, 75, ((goneTo X n o j)).flatMap ev2E⟩⟩, ⟨some b5, true, ⟨true, 72, [.int .i64 o.sv, .int .i64 o.ty, .int .u64 o.key, .int .u64 o.act, .bool o.ap]⟩⟩, ⟨some b, true, ⟨true, 65, k8 (zk X.ks n o j) [.int .i64 X.kd, .int .i64 X.hd, .int .u32 X.gen, .bool X.ls]⟩⟩]) (8 - 0) ⟨0, none, rfl, by omega, rfl, rfl, (st.sel [0, 1, 2] (by decide))⟩ [12, 13, 96, 97, 98, 99, 100, 101, 102, 103, 104, 105, 106, 107, 108, 109, 110, 111, 112, 113, 114, 115, 116, 117, 118, 119, 120, 121, 122, 123, 124, 125, 126, 127, 128, 129, 130, 131, 132, 133, 134, 135, 136, 137] (by decide) ?_
          rintro m t1 H1 hk hI
          obtain ⟨j, oc, rfl, hj, ht13, ht12, st⟩ := hI
          obtain ⟨u, rfl⟩ : ∃ u, t1 = (upd (upd (mix [12, 13, 96, 97, 98, 99, 100, 101, 102, 103, 104, 105, 106, 107, 108, 109, 110, 111, 112, 113, 114, 115, 116, 117, 118, 119, 120, 121, 122, 123, 124, 125, 126, 127, 128, 129, 130, 131, 132, 133, 134, 135, 136, 137] _ u) (some 13) _) (some 12) _) := ⟨t1, by rw [← hk, upd_self ht13, upd_self ht12]⟩
          clear hk ht13 ht12
          show AWl _ _ _ _ _
          iterate 2 refine aN rfl rfl (by constructor) ?_
          refine sE ?_
          show AW _ (.cond _ _ _) _ _ _
          refine cC' rfl (fun h32 => ?_) (fun h32 => ?_)
          ·have hlt : j < 8 := by have := of_decide_eq_true h32; omega
           show AWp _ _ _ _ _
           iterate 4 refine aN rfl rfl (by constructor) ?_
           refine gCase 103 rfl (fun h33 => ?_) (fun h33 => ?_)
           ·refine gT rfl ?_
            refine aN rfl rfl (by constructor) ?_
            refine gT rfl ?_
            refine aN rfl rfl (by constructor) ?_
            refine gT rfl ?_
            refine aN rfl rfl (by constructor) ?_
            refine gT rfl ?_
            refine aN rfl rfl (by constructor) ?_
            refine gT rfl ?_
            refine aIxA rfl rfl (by omega) ?_
            refine gT rfl ?_
            refine aLd st 2 rfl rfl (k8_at (zk X.ks n o j) _ (by omega)) (by constructor) ?_
            rw [show (zk X.ks n o j).getD ((j : Int)).toNat 0 = X.ks.getD j 0 from zk_at n o (by rw [hX.len]; omega)]
            refine gT rfl ?_
            iterate 3 refine aN rfl rfl (by constructor) ?_
            refine gCase 112 rfl (fun h34 => ?_) (fun h34 => ?_)
            ·refine gT rfl ?_
             refine aN rfl rfl (by constructor) ?_
             refine gT rfl ?_
             refine aLd st 1 rfl rfl rfl (by constructor) ?_
             refine gT rfl ?_
             refine aN rfl rfl (by constructor) ?_
             refine gT rfl ?_
             refine aMovV (.bool false) (congrArg Value.bool h6) ?_
             refine gT rfl ?_
             refine aN rfl rfl (by constructor) ?_
             refine gT rfl ?_
             refine aN rfl rfl (by constructor) ?_
             refine gT rfl ?_
             refine aN rfl rfl (by constructor) ?_
             refine gT rfl ?_
             refine aN rfl rfl (by constructor) ?_
             refine gT rfl ?_
             refine aIxA rfl rfl (by omega) ?_
             refine gT rfl ?_
             refine aLd st 2 rfl rfl (k8_at (zk X.ks n o j) _ (by omega)) (by constructor) ?_
             rw [show (zk X.ks n o j).getD ((j : Int)).toNat 0 = X.ks.getD j 0 from zk_at n o (by rw [hX.len]; omega)]
             refine gT rfl ?_
             refine aN rfl rfl (by constructor) ?_
             refine gT rfl ?_
             refine aLd st 1 rfl rfl rfl (by constructor) ?_
             refine gT rfl ?_
             refine aN rfl rfl (by constructor) ?_
             refine gT rfl ?_
             iterate 2 refine aN rfl rfl (by constructor) ?_
             refine pE ?_
             show AW _ (.cond _ _ _) _ _ _
             refine cC' rfl (fun h35 => ?_) (fun h35 => ?_)
             ·show AWl _ _ _ _ _
              have hg : goes n o j (X.ks.getD j 0) = true := by unfold goes; simp only [h33, h34, h6, h35, Bool.and_true, Bool.true_and, Bool.false_and, Bool.and_false, Bool.or_true, Bool.true_or, Bool.false_or, Bool.or_false]
              have ho2 : (goneTo X n o (j + 1)) = (goneTo X n o j) ++ [((j : Int), 10757)] := gone_t hp hg
              have hz2 : zk X.ks n o (j + 1) = (zk X.ks n o j).set j 0 := if_pos hg
              iterate 4 refine aN rfl rfl (by constructor) ?_
              refine aIxA rfl rfl (by omega) ?_
              refine aStAt (u := .int .u64 0) (cs := k8 ((zk X.ks n o j).set j 0) [.int .i64 X.kd, .int .i64 X.hd, .int .u32 X.gen, .bool X.ls]) st 2 rfl rfl rfl rfl rfl (by show 0 + ((j : Int)).toNat * 1 < 12; omega) (k8_set (n := (j : Int)) (by rw [zk_len]; exact hX.len) _ (by omega)) fun H36 st => ?_
              refine sE ?_
              show AWl _ _ _ _ _
              refine aMovA rfl ?_
              refine aN rfl rfl (by constructor) ?_
              refine aBld rfl (by repeat constructor) ?_
              refine aLit st rfl (by repeat constructor) fun b136 H37 st => ?_
              refine aApp st 1 (ob := oc) rfl rfl rfl (by decide) (by exact flat_len' ev2E_len _) (st.rowAll 0 rfl (by first | rfl | (simp [beB_len, *]; done) | (simp [beB_len, *]; omega))).src (by first | rfl | simp) (by have := gone_len X n o j; omega) (by have := gone_len X n o j; omega) fun b137 H38 hp137 st => ?_
              have st := st.recell 1 rfl (cs' := (goneTo X n o (j + 1)).flatMap ev2E) (flat_snoc ho2 rfl)
              have hc3 : ¬ (((xpt X).regs.any fun r => r.2 == o.act) = false ∧ pallB (xpt X) o = false) := pre_c3 hp h31n
              refine aMovA rfl ?_
              refine sE ?_
              show AWl _ _ _ _ _
              iterate 3 refine aN rfl rfl (by constructor) ?_
              refine sE ?_
              have st := st.recell 3 rfl (cs' := k8 (zk X.ks n o (j + 1)) [.int .i64 X.kd, .int .i64 X.hd, .int .u32 X.gen, .bool X.ls]) (by rw [hz2])
              exact ⟨_, by omega, j + 1, b137, rfl, by omega, congrArg (Value.int .i64) (wi _ (by omega)), congrArg (fun n => accV _ n 2) (len_snoc ho2), (st.sel [1, 2, 3] (by decide))⟩
             ·show AWl _ _ _ _ _
              iterate 3 refine aN rfl rfl (by constructor) ?_
              refine sE ?_
              have hg : goes n o j (X.ks.getD j 0) = false := by unfold goes; simp only [h33, h34, h6, h35, Bool.and_true, Bool.true_and, Bool.false_and, Bool.and_false, Bool.or_true, Bool.true_or, Bool.false_or, Bool.or_false]
              have ho2 : (goneTo X n o (j + 1)) = (goneTo X n o j) := gone_f hp hg
              have hz2 : zk X.ks n o (j + 1) = zk X.ks n o j := if_neg (by rw [hg]; decide)
              have st := st.recell 0 rfl (cs' := (goneTo X n o (j + 1)).flatMap ev2E) (by rw [ho2])
              have st := st.recell 2 rfl (cs' := k8 (zk X.ks n o (j + 1)) [.int .i64 X.kd, .int .i64 X.hd, .int .u32 X.gen, .bool X.ls]) (by rw [hz2])
              exact ⟨_, by omega, j + 1, oc, rfl, by omega, congrArg (Value.int .i64) (wi _ (by omega)), congrArg (fun n => accV _ n 2) (congrArg List.length ho2.symm), (st.sel [0, 1, 2] (by decide))⟩
            ·refine gF rfl (by decide) ?_
             refine gF rfl (by decide) ?_
             refine gF rfl (by decide) ?_
             refine gF rfl (by decide) ?_
             refine gU rfl ?_
             refine gU rfl ?_
             refine gU rfl ?_
             refine gU rfl ?_
             refine gU rfl ?_
             refine gU rfl ?_
             refine gU rfl ?_
             refine gU rfl ?_
             refine gU rfl ?_
             refine gF rfl (by decide) ?_
             refine aN rfl rfl (by constructor) ?_
             refine pE ?_
             show AW _ (.cond _ _ _) _ _ _
             refine cF' rfl ?_
             show AWl _ _ _ _ _
             iterate 3 refine aN rfl rfl (by constructor) ?_
             refine sE ?_
             have hg : goes n o j (X.ks.getD j 0) = false := by unfold goes; simp only [h33, h34, h6, Bool.and_true, Bool.true_and, Bool.false_and, Bool.and_false, Bool.or_true, Bool.true_or, Bool.false_or, Bool.or_false]
             have ho2 : (goneTo X n o (j + 1)) = (goneTo X n o j) := gone_f hp hg
             have hz2 : zk X.ks n o (j + 1) = zk X.ks n o j := if_neg (by rw [hg]; decide)
             have st := st.recell 0 rfl (cs' := (goneTo X n o (j + 1)).flatMap ev2E) (by rw [ho2])
             have st := st.recell 2 rfl (cs' := k8 (zk X.ks n o (j + 1)) [.int .i64 X.kd, .int .i64 X.hd, .int .u32 X.gen, .bool X.ls]) (by rw [hz2])
             exact ⟨_, by omega, j + 1, oc, rfl, by omega, congrArg (Value.int .i64) (wi _ (by omega)), congrArg (fun n => accV _ n 2) (congrArg List.length ho2.symm), (st.sel [0, 1, 2] (by decide))⟩
           ·refine gF rfl (by decide) ?_
            refine gF rfl (by decide) ?_
            refine gF rfl (by decide) ?_
            refine gF rfl (by decide) ?_
            refine gF rfl (by decide) ?_
            refine gF rfl (by decide) ?_
            refine gF rfl (by decide) ?_
            iterate 2 refine aN rfl rfl (by constructor) ?_
            refine gF rfl (by decide) ?_
            refine gF rfl (by decide) ?_
            refine gF rfl (by decide) ?_
            refine gF rfl (by decide) ?_
            refine gU rfl ?_
            refine gU rfl ?_
            refine gU rfl ?_
            refine gU rfl ?_
            refine gU rfl ?_
            refine gU rfl ?_
            refine gU rfl ?_
            refine gU rfl ?_
            refine gU rfl ?_
            refine gF rfl (by decide) ?_
            refine aN rfl rfl (by constructor) ?_
            refine pE ?_
            show AW _ (.cond _ _ _) _ _ _
            refine cF' rfl ?_
            show AWl _ _ _ _ _
            iterate 3 refine aN rfl rfl (by constructor) ?_
            refine sE ?_
            have hg : goes n o j (X.ks.getD j 0) = false := by unfold goes; simp only [h33, h6, Bool.and_true, Bool.true_and, Bool.false_and, Bool.and_false, Bool.or_true, Bool.true_or, Bool.false_or, Bool.or_false]
            have ho2 : (goneTo X n o (j + 1)) = (goneTo X n o j) := gone_f hp hg
            have hz2 : zk X.ks n o (j + 1) = zk X.ks n o j := if_neg (by rw [hg]; decide)
            have st := st.recell 0 rfl (cs' := (goneTo X n o (j + 1)).flatMap ev2E) (by rw [ho2])
            have st := st.recell 2 rfl (cs' := k8 (zk X.ks n o (j + 1)) [.int .i64 X.kd, .int .i64 X.hd, .int .u32 X.gen, .bool X.ls]) (by rw [hz2])
            exact ⟨_, by omega, j + 1, oc, rfl, by omega, congrArg (Value.int .i64) (wi _ (by omega)), congrArg (fun n => accV _ n 2) (congrArg List.length ho2.symm), (st.sel [0, 1, 2] (by decide))⟩
          ·have hge : j = 8 := by have := of_decide_eq_false h32; omega
           subst hge
           exact ⟨oc, rfl, (st.sel [0, 1, 2] (by decide))⟩
         ·obtain ⟨oe, ht12, st⟩ := hI
          obtain ⟨u, rfl⟩ : ∃ u, t1 = (upd (mix [12, 13, 96, 97, 98, 99, 100, 101, 102, 103, 104, 105, 106, 107, 108, 109, 110, 111, 112, 113, 114, 115, 116, 117, 118, 119, 120, 121, 122, 123, 124, 125, 126, 127, 128, 129, 130, 131, 132, 133, 134, 135, 136, 137] _ u) (some 12) _) := ⟨t1, by rw [← hk, upd_self ht12]⟩
          clear hk ht12
          refine AW_cutK (b := .seq (.list (⟨some 165, _, _⟩ :: _)) _) (fun t1 H1 => ∃ (oe : Option Nat), t1 12 = accV oe (goneE (xpt X) n o ++ relE (xpt X) n o).length 2 ∧ Stt [b] H H1 [⟨oe, true, ⟨true, 75, (goneE (xpt X) n o ++ relE (xpt X) n o).flatMap ev2E⟩⟩, ⟨some b, true, ⟨true, 65, k8 (zk X.ks n o 8) [.int .i64 (if (heldB (xpt X) o || pallB (xpt X) o) = true then o.ty else X.kd), .int .i64 (if (heldB (xpt X) o || pallB (xpt X) o) = true then n else X.hd), .int .u32 X.gen, .bool X.ls]⟩⟩]) [12, 14, 138, 139, 140, 141, 142, 143, 144, 145, 146, 147, 148, 149, 150, 151, 152, 153, 154, 155, 156, 157, 158, 159, 160, 161, 162, 163, 164] (by decide) ?_ fun t1 H1 hk hI => ?_
          ·show AWl _ _ _ _ _
           refine aMovV (.bool true) (congrArg Value.bool h26) ?_
           refine sE ?_
           show AW _ (.cond _ _ _) _ _ _
           refine cT rfl ?_
           show AWl _ _ _ _ _
           iterate 3 refine aN rfl rfl (by constructor) ?_
           refine aLd st 2 rfl rfl rfl (by constructor) ?_
           refine aN rfl rfl (by constructor) ?_
           refine sE ?_
           show AWl _ _ _ _ _
           iterate 2 refine aN rfl rfl (by constructor) ?_
           refine aLd st 1 rfl rfl rfl (by constructor) ?_
           iterate 2 refine aN rfl rfl (by constructor) ?_
           refine aSt st 2 rfl rfl rfl rfl (by first | rfl | simp [cellsOf, *]) (by first | decide | (simp [*]; done) | (simp [k8]; done)) (by repeat constructor) fun H39 st => ?_
           refine sE ?_
           show AWl _ _ _ _ _
           iterate 4 refine aN rfl rfl (by constructor) ?_
           refine aSt st 2 rfl rfl rfl rfl (by first | rfl | simp [cellsOf, *]) (by first | decide | (simp [*]; done) | (simp [k8]; done)) (by repeat constructor) fun H40 st => ?_
           refine sE ?_
           show AWl _ _ _ _ _
           iterate 3 refine aN rfl rfl (by constructor) ?_
           refine gCase 154 rfl (fun h41 => ?_) (fun h41 => ?_)
           ·refine gT rfl ?_
            refine aN rfl rfl (by constructor) ?_
            refine gT rfl ?_
            refine aN rfl rfl (by constructor) ?_
            refine gT rfl ?_
            refine aLd st 1 rfl rfl rfl (by constructor) ?_
            refine gT rfl ?_
            iterate 2 refine aN rfl rfl (by constructor) ?_
            refine sE ?_
            show AW _ (.cond _ _ _) _ _ _
            refine cC' rfl (fun h42 => ?_) (fun h42 => ?_)
            ·show AWl _ _ _ _ _
             have hb1 : (goneE (xpt X) n o).length ≤ 8 := gone_len X n o 8
             have hb2 : (othersM (zk X.ks n o 8) n 10756).length ≤ 8 := oth_len (zk X.ks n o 8) n 10756 8
             refine aMovA rfl ?_
             iterate 2 refine aN rfl rfl (by constructor) ?_
             refine aC (others_call (X := ({ ks := (zk X.ks n o 8), kd := o.ty, hd := n, gen := X.gen, ls := X.ls } : XT)) (but := n) (code := 10756) (st.get (j := 2) rfl)) fun v163 H43 ⟨oe163, hv, st1⟩ => ?_
             subst hv
             replace st := st.call st1 rfl
             clear st1
             rw [show othersM ({ ks := (zk X.ks n o 8), kd := o.ty, hd := n, gen := X.gen, ls := X.ls } : XT).ks n 10756 = othersM (zk X.ks n o 8) n 10756 from rfl] at st ⊢
             refine aApp st 1 (ob := oe) rfl rfl rfl (by decide) (by exact flat_len' ev2E_len _) (st.rowAcc 0 rfl (by decide) (by exact flat_len' ev2E_len _)).src (by exact flat_len' ev2E_len _) (by omega) (by omega) fun b164 H44 hp164 st => ?_
             have hc3 : ¬ (((xpt X).regs.any fun r => r.2 == o.act) = false ∧ pallB (xpt X) o = false) := pre_c3 hp h31n
             refine aMovA rfl ?_
             refine sE ?_
             have hK : (if (heldB (xpt X) o || pallB (xpt X) o) = true then o.ty else X.kd) = o.ty := if_pos h26
             have hD : (if (heldB (xpt X) o || pallB (xpt X) o) = true then n else X.hd) = n := if_pos h26
             have hR : relE (xpt X) n o = othersM (zk X.ks n o 8) n 10756 := by unfold relE othersM; rw [if_pos ⟨h26, by simp_all [xpt], by simp_all [xpt]⟩, xr_zk hX.len hp]
             have st2 := st.sel [1, 3] (by decide)
             exact ⟨b164, (by rw [hR, List.length_append] <;> rfl), by rw [hR, hK, hD, List.flatMap_append]; exact st2⟩
            ·have hK : (if (heldB (xpt X) o || pallB (xpt X) o) = true then o.ty else X.kd) = o.ty := if_pos h26
             have hD : (if (heldB (xpt X) o || pallB (xpt X) o) = true then n else X.hd) = n := if_pos h26
             have hR : relE (xpt X) n o = [] := if_neg (fun hc => by have h1 := hc.2.1; have h2 := hc.2.2; simp_all [xpt] <;> omega)
             have st2 := st.sel [0, 2] (by decide)
             exact ⟨oe, (by rw [hR, List.append_nil] <;> rfl), by rw [hR, hK, hD, List.append_nil]; exact st2⟩
           ·refine gF rfl (by decide) ?_
            refine gF rfl (by decide) ?_
            refine gF rfl (by decide) ?_
            refine gF rfl (by decide) ?_
            refine aN rfl rfl (by constructor) ?_
            refine sE ?_
            show AW _ (.cond _ _ _) _ _ _
            refine cF' rfl ?_
            have hK : (if (heldB (xpt X) o || pallB (xpt X) o) = true then o.ty else X.kd) = o.ty := if_pos h26
            have hD : (if (heldB (xpt X) o || pallB (xpt X) o) = true then n else X.hd) = n := if_pos h26
            have hR : relE (xpt X) n o = [] := if_neg (fun hc => by have h1 := hc.2.1; have h2 := hc.2.2; simp_all [xpt] <;> omega)
            have st2 := st.sel [0, 2] (by decide)
            exact ⟨oe, (by rw [hR, List.append_nil] <;> rfl), by rw [hR, hK, hD, List.append_nil]; exact st2⟩
          ·obtain ⟨oe, ht12, st⟩ := hI
           obtain ⟨u, rfl⟩ : ∃ u, t1 = (upd (mix [12, 14, 138, 139, 140, 141, 142, 143, 144, 145, 146, 147, 148, 149, 150, 151, 152, 153, 154, 155, 156, 157, 158, 159, 160, 161, 162, 163, 164] _ u) (some 12) _) := ⟨t1, by rw [← hk, upd_self ht12]⟩
           clear hk ht12
           show AWl _ _ _ _ _
           iterate 3 refine aN rfl rfl (by constructor) ?_
           refine aLd st 1 rfl rfl rfl (by constructor) ?_
           iterate 3 refine aN rfl rfl (by constructor) ?_
           refine aSt st 1 rfl rfl rfl rfl (by first | rfl | simp [cellsOf, *]) (by first | decide | (simp [*]; done) | (simp [k8]; done)) (by repeat constructor) fun H45 st => ?_
           refine sE ?_
           show AWl _ _ _ _ _
           refine aMovA rfl ?_
           iterate 2 refine aN rfl rfl (by constructor) ?_
           refine aMovA rfl ?_
           refine sE ?_
           refine ⟨_, out3 (r_tmp rfl (by constructor)) (r_tmp rfl (by constructor)) (r_acc rfl) ⟨rfl, rfl, notTup_acc⟩, ?_⟩
           have hM : preemptM (xpt X) n o = ⟨0, 0, goneE (xpt X) n o ++ relE (xpt X) n o, { xpt X with regs := leftM (xpt X) n o, kind := (if (heldB (xpt X) o || pallB (xpt X) o) = true then o.ty else X.kd), holder := if (heldB (xpt X) o || pallB (xpt X) o) = true then n else (xpt X).holder, gen := inc32 X.gen }⟩ := by unfold preemptM; rw [if_neg hc1, if_neg hc2, if_neg hc3]; rfl
           rw [hM]
           exact ⟨({ ks := (zk X.ks n o 8), kd := (if (heldB (xpt X) o || pallB (xpt X) o) = true then o.ty else X.kd), hd := (if (heldB (xpt X) o || pallB (xpt X) o) = true then n else X.hd), gen := inc32 X.gen, ls := X.ls } : XT), oe, rfl, zk_ok hX (ite_bd hty hX.kd) (ite_bd hn hX.hd), pre_tab hX hp hc2, st.sel [1, 0] (by decide)⟩
     ·refine gF rfl (by decide) ?_
      refine gF rfl (by decide) ?_
      refine gF rfl (by decide) ?_
      refine gF rfl (by decide) ?_
      refine aN rfl rfl (by constructor) ?_
      refine sE ?_
      show AW _ (.cond _ _ _) _ _ _
      refine cF' rfl ?_
      show AWl _ _ _ _ _
      have hc2 : ¬ ((heldB (xpt X) o || pallB (xpt X) o) = true ∧ typeB o.ty = false) := by simp_all
      refine aN rfl rfl (by constructor) ?_
      refine aLd st 0 rfl rfl rfl (by constructor) ?_
      refine aN rfl rfl (by constructor) ?_
      refine aMovV (.bool false) (congrArg Value.bool h6) ?_
      refine sE ?_
      refine AW_cutK (b := .seq (.seq (.list (⟨some 94, _, _⟩ :: _)) _) _) (fun t1 H1 => t1 10 = .bool ((o.act == 0) || (xr X.ks).any fun r => r.2 == o.act) ∧ Stt [b] H H1 [⟨some b5, true, ⟨true, 72, [.int .i64 o.sv, .int .i64 o.ty, .int .u64 o.key, .int .u64 o.act, .bool o.ap]⟩⟩, ⟨some b, true, ⟨true, 65, k8 X.ks [.int .i64 X.kd, .int .i64 X.hd, .int .u32 X.gen, .bool X.ls]⟩⟩]) [10, 11, 81, 82, 83, 84, 85, 86, 87, 88, 89, 90, 91, 92, 93] (by decide) ?_ fun t1 H1 hk hI => ?_
      ·show AWl _ _ _ _ _
       refine aN rfl rfl (by constructor) ?_
       refine sE ?_
       show AW _ (.loop _) _ _ _
       refine AW_loopN (fun m t1 H1 => ∃ (j : Nat), m = 8 - j ∧ (j ≤ 8) ∧ t1 11 = .int .i64 (j : Int) ∧ t1 10 = .bool ((o.act == 0) || (List.range j).any (fun i => X.ks.getD i 0 == o.act)) ∧ Stt [b] H H1 [⟨some b5, true, ⟨true, 72, [.int .i64 o.sv, .int .i64 o.ty, .int .u64 o.key, .int .u64 o.act, .bool o.ap]⟩⟩, ⟨some b, true, ⟨true, 65, k8 X.ks [.int .i64 X.kd, .int .i64 X.hd, .int .u32 X.gen, .bool X.ls]⟩⟩]) (8 - 0) ⟨0, rfl, by omega, rfl, congrArg Value.bool (by first | (simp; done) | simp_all), (st.sel [0, 1] (by decide))⟩ [10, 11, 81, 82, 83, 84, 85, 86, 87, 88, 89, 90, 91, 92, 93] (by decide) ?_
       rintro m t1 H1 hk hI
       obtain ⟨j, rfl, hj, ht11, ht10, st⟩ := hI
       obtain ⟨u, rfl⟩ : ∃ u, t1 = (upd (upd (mix [10, 11, 81, 82, 83, 84, 85, 86, 87, 88, 89, 90, 91, 92, 93] _ u) (some 11) _) (some 10) _) := ⟨t1, by rw [← hk, upd_self ht11, upd_self ht10]⟩
       clear hk ht11 ht10
       show AWl _ _ _ _ _
       iterate 2 refine aN rfl rfl (by constructor) ?_
       refine sE ?_
       show AW _ (.cond _ _ _) _ _ _
       refine cC' rfl (fun h46 => ?_) (fun h46 => ?_)
       ·have hlt : j < 8 := by have := of_decide_eq_true h46; omega
        show AWp _ _ _ _ _
        iterate 4 refine aN rfl rfl (by constructor) ?_
        refine aIxA rfl rfl (by omega) ?_
        refine aLd st 1 rfl rfl (k8_at X.ks _ (by omega)) (by constructor) ?_
        refine aN rfl rfl (by constructor) ?_
        refine aLd st 0 rfl rfl rfl (by constructor) ?_
        refine aN rfl rfl (by constructor) ?_
        refine pE ?_
        show AW _ (.cond _ _ _) _ _ _
        refine cC' rfl (fun h47 => ?_) (fun h47 => ?_)
        ·show AWl _ _ _ _ _
         refine aN rfl rfl (by constructor) ?_
         refine sE ?_
         show AWl _ _ _ _ _
         iterate 3 refine aN rfl rfl (by constructor) ?_
         refine sE ?_
         exact ⟨_, by omega, j + 1, rfl, by omega, congrArg (Value.int .i64) (wi _ (by omega)), congrArg Value.bool (by rw [any_range]; show _ = (_ || (_ || (X.ks.getD j 0 == o.act))); rw [show (X.ks.getD j 0 == o.act) = true from h47]; simp), (st.sel [0, 1] (by decide))⟩
        ·show AWl _ _ _ _ _
         iterate 3 refine aN rfl rfl (by constructor) ?_
         refine sE ?_
         exact ⟨_, by omega, j + 1, rfl, by omega, congrArg (Value.int .i64) (wi _ (by omega)), congrArg Value.bool (by rw [any_range]; show _ = (_ || (_ || (X.ks.getD j 0 == o.act))); rw [show (X.ks.getD j 0 == o.act) = false from h47]; simp), (st.sel [0, 1] (by decide))⟩
       ·have hge : j = 8 := by have := of_decide_eq_false h46; omega
        subst hge
        exact ⟨congrArg Value.bool (any_act X.ks o), (st.sel [0, 1] (by decide))⟩
      ·obtain ⟨ht10, st⟩ := hI
       obtain ⟨u, rfl⟩ : ∃ u, t1 = (upd (mix [10, 11, 81, 82, 83, 84, 85, 86, 87, 88, 89, 90, 91, 92, 93] _ u) (some 10) _) := ⟨t1, by rw [← hk, upd_self ht10]⟩
       clear hk ht10
       show AWl _ _ _ _ _
       iterate 2 refine aN rfl rfl (by constructor) ?_
       refine sE ?_
       show AW _ (.cond _ _ _) _ _ _
       refine cC' rfl (fun h48 => ?_) (fun h48 => ?_)
       ·have h48n : ((o.act == 0) || (xr X.ks).any fun r => r.2 == o.act) = false := Eq.mp (Bool.not_eq_true' _) h48
        show AWl _ _ _ _ _
        iterate 3 refine aN rfl rfl (by constructor) ?_
        refine sE ?_
        refine ⟨_, out3 (r_tmp rfl (by constructor)) (r_tmp rfl (by constructor)) (r_tmp rfl (by constructor)) ⟨rfl, rfl, rfl⟩, ?_⟩
        have hc3 : ((xpt X).regs.any fun r => r.2 == o.act) = false ∧ pallB (xpt X) o = false := pre_c3b hp h48n
        have st := st.nil 75
        have hM : preemptM (xpt X) n o = ⟨24, 0, [], xpt X⟩ := by unfold preemptM; rw [if_neg hc1, if_neg hc2, if_pos hc3]
        rw [hM]
        exact ⟨X, none, rfl, hX, rfl, st.sel [2, 0] (by decide)⟩
       ·have h48n : ((o.act == 0) || (xr X.ks).any fun r => r.2 == o.act) = true := Eq.mp (Bool.not_eq_false' _) h48
        show AWl _ _ _ _ _
        have hc3 : ¬ (((xpt X).regs.any fun r => r.2 == o.act) = false ∧ pallB (xpt X) o = false) := pre_c3 hp h48n
        refine aN rfl rfl (by constructor) ?_
        refine sE ?_
        refine AW_cutK (b := .seq (.seq (.list (⟨some 138, _, _⟩ :: _)) _) _) (fun t1 H1 => ∃ (oe : Option Nat), t1 12 = accV oe (goneE (xpt X) n o).length 2 ∧ Stt [b] H H1 [⟨oe, true, ⟨true, 75, (goneE (xpt X) n o).flatMap ev2E⟩⟩, ⟨some b5, true, ⟨true, 72, [.int .i64 o.sv, .int .i64 o.ty, .int .u64 o.key, .int .u64 o.act, .bool o.ap]⟩⟩, ⟨some b, true, ⟨true, 65, k8 (zk X.ks n o 8) [.int .i64 X.kd, .int .i64 X.hd, .int .u32 X.gen, .bool X.ls]⟩⟩]) [12, 13, 96, 97, 98, 99, 100, 101, 102, 103, 104, 105, 106, 107, 108, 109, 110, 111, 112, 113, 114, 115, 116, 117, 118, 119, 120, 121, 122, 123, 124, 125, 126, 127, 128, 129, 130, 131, 132, 133, 134, 135, 136, 137] (by decide) ?_ fun t1 H1 hk hI => ?_
        ·show AWl _ _ _ _ _
         refine aN rfl rfl (by constructor) ?_
         refine sE ?_
         show AW _ (.loop _) _ _ _
         have st := st.nil 75
         refine AW_loopN (fun m t1 H1 => ∃ (j : Nat) (oc : Option Nat), m = 8 - j ∧ (j ≤ 8) ∧ t1 13 = .int .i64 (j : Int) ∧ t1 12 = accV oc (goneTo X n o j).length 2 ∧ Stt [b] H H1 [⟨oc, true, ⟨true, 75, ((goneTo X n o j)).flatMap ev2E⟩⟩, ⟨some b5, true, ⟨true, 72, [.int .i64 o.sv, .int .i64 o.ty, .int .u64 o.key, .int .u64 o.act, .bool o.ap]⟩⟩, ⟨some b, true, ⟨true, 65, k8 (zk X.ks n o j) [.int .i64 X.kd, .int .i64 X.hd, .int .u32 X.gen, .bool X.ls]⟩⟩]) (8 - 0) ⟨0, none, rfl, by omega, rfl, rfl, (st.sel [0, 1, 2] (by decide))⟩ [12, 13, 96, 97, 98, 99, 100, 101, 102, 103, 104, 105, 106, 107, 108, 109, 110, 111, 112, 113, 114, 115, 116, 117, 118, 119, 120, 121, 122, 123, 124, 125, 126, 127, 128, 129, 130, 131, 132, 133, 134, 135, 136, 137] (by decide) ?_
         rintro m t1 H1 hk hI
         obtain ⟨j, oc, rfl, hj, ht13, ht12, st⟩ := hI
         obtain ⟨u, rfl⟩ : ∃ u, t1 = (upd (upd (mix [12, 13, 96, 97, 98, 99, 100, 101, 102, 103, 104, 105, 106, 107, 108, 109, 110, 111, 112, 113, 114, 115, 116, 117, 118, 119, 120, 121, 122, 123, 124, 125, 126, 127, 128, 129, 130, 131, 132, 133, 134, 135, 136, 137] _ u) (some 13) _) (some 12) _) := ⟨t1, by rw [← hk, upd_self ht13, upd_self ht12]⟩
         clear hk ht13 ht12
         show AWl _ _ _ _ _
         iterate 2 refine aN rfl rfl (by constructor) ?_
         refine sE ?_
         show AW _ (.cond _ _ _) _ _ _
         refine cC' rfl (fun h49 => ?_) (fun h49 => ?_)
         ·have hlt : j < 8 := by have := of_decide_eq_true h49; omega
          show AWp _ _ _ _ _
          iterate 4 refine aN rfl rfl (by constructor) ?_
          refine gCase 103 rfl (fun h50 => ?_) (fun h50 => ?_)
          ·refine gT rfl ?_
           refine aN rfl rfl (by constructor) ?_
           refine gT rfl ?_
           refine aN rfl rfl (by constructor) ?_
           refine gT rfl ?_
           refine aN rfl rfl (by constructor) ?_
           refine gT rfl ?_
           refine aN rfl rfl (by constructor) ?_
           refine gT rfl ?_
           refine aIxA rfl rfl (by omega) ?_
           refine gT rfl ?_
           refine aLd st 2 rfl rfl (k8_at (zk X.ks n o j) _ (by omega)) (by constructor) ?_
           rw [show (zk X.ks n o j).getD ((j : Int)).toNat 0 = X.ks.getD j 0 from zk_at n o (by rw [hX.len]; omega)]
           refine gT rfl ?_
           iterate 3 refine aN rfl rfl (by constructor) ?_
           refine gCase 112 rfl (fun h51 => ?_) (fun h51 => ?_)
           ·refine gT rfl ?_
            refine aN rfl rfl (by constructor) ?_
            refine gT rfl ?_
            refine aLd st 1 rfl rfl rfl (by constructor) ?_
            refine gT rfl ?_
            refine aN rfl rfl (by constructor) ?_
            refine gT rfl ?_
            refine aMovV (.bool false) (congrArg Value.bool h6) ?_
            refine gT rfl ?_
            refine aN rfl rfl (by constructor) ?_
            refine gT rfl ?_
            refine aN rfl rfl (by constructor) ?_
            refine gT rfl ?_
            refine aN rfl rfl (by constructor) ?_
            refine gT rfl ?_
            refine aN rfl rfl (by constructor) ?_
            refine gT rfl ?_
            refine aIxA rfl rfl (by omega) ?_
            refine gT rfl ?_
            refine aLd st 2 rfl rfl (k8_at (zk X.ks n o j) _ (by omega)) (by constructor) ?_
            rw [show (zk X.ks n o j).getD ((j : Int)).toNat 0 = X.ks.getD j 0 from zk_at n o (by rw [hX.len]; omega)]
            refine gT rfl ?_
            refine aN rfl rfl (by constructor) ?_
            refine gT rfl ?_
            refine aLd st 1 rfl rfl rfl (by constructor) ?_
            refine gT rfl ?_
            refine aN rfl rfl (by constructor) ?_
            refine gT rfl ?_
            iterate 2 refine aN rfl rfl (by constructor) ?_
            refine pE ?_
            show AW _ (.cond _ _ _) _ _ _
            refine cC' rfl (fun h52 => ?_) (fun h52 => ?_)
            ·show AWl _ _ _ _ _
             have hg : goes n o j (X.ks.getD j 0) = true := by unfold goes; simp only [h50, h51, h6, h52, Bool.and_true, Bool.true_and, Bool.false_and, Bool.and_false, Bool.or_true, Bool.true_or, Bool.false_or, Bool.or_false]
             have ho2 : (goneTo X n o (j + 1)) = (goneTo X n o j) ++ [((j : Int), 10757)] := gone_t hp hg
             have hz2 : zk X.ks n o (j + 1) = (zk X.ks n o j).set j 0 := if_pos hg
             iterate 4 refine aN rfl rfl (by constructor) ?_
             refine aIxA rfl rfl (by omega) ?_
             refine aStAt (u := .int .u64 0) (cs := k8 ((zk X.ks n o j).set j 0) [.int .i64 X.kd, .int .i64 X.hd, .int .u32 X.gen, .bool X.ls]) st 2 rfl rfl rfl rfl rfl (by show 0 + ((j : Int)).toNat * 1 < 12; omega) (k8_set (n := (j : Int)) (by rw [zk_len]; exact hX.len) _ (by omega)) fun H53 st => ?_
             refine sE ?_
             show AWl _ _ _ _ _
             refine aMovA rfl ?_
             refine aN rfl rfl (by constructor) ?_
             refine aBld rfl (by repeat constructor) ?_
             refine aLit st rfl (by repeat constructor) fun b136 H54 st => ?_
             refine aApp st 1 (ob := oc) rfl rfl rfl (by decide) (by exact flat_len' ev2E_len _) (st.rowAll 0 rfl (by first | rfl | (simp [beB_len, *]; done) | (simp [beB_len, *]; omega))).src (by first | rfl | simp) (by have := gone_len X n o j; omega) (by have := gone_len X n o j; omega) fun b137 H55 hp137 st => ?_
             have st := st.recell 1 rfl (cs' := (goneTo X n o (j + 1)).flatMap ev2E) (flat_snoc ho2 rfl)
             have hc3 : ¬ (((xpt X).regs.any fun r => r.2 == o.act) = false ∧ pallB (xpt X) o = false) := pre_c3 hp h48n
             refine aMovA rfl ?_
             refine sE ?_
             show AWl _ _ _ _ _
             iterate 3 refine aN rfl rfl (by constructor) ?_
             refine sE ?_
             have st := st.recell 3 rfl (cs' := k8 (zk X.ks n o (j + 1)) [.int .i64 X.kd, .int .i64 X.hd, .int .u32 X.gen, .bool X.ls]) (by rw [hz2])
             exact ⟨_, by omega, j + 1, b137, rfl, by omega, congrArg (Value.int .i64) (wi _ (by omega)), congrArg (fun n => accV _ n 2) (len_snoc ho2), (st.sel [1, 2, 3] (by decide))⟩
            ·show AWl _ _ _ _ _
             iterate 3 refine aN rfl rfl (by constructor) ?_
             refine sE ?_
             have hg : goes n o j (X.ks.getD j 0) = false := by unfold goes; simp only [h50, h51, h6, h52, Bool.and_true, Bool.true_and, Bool.false_and, Bool.and_false, Bool.or_true, Bool.true_or, Bool.false_or, Bool.or_false]
             have ho2 : (goneTo X n o (j + 1)) = (goneTo X n o j) := gone_f hp hg
             have hz2 : zk X.ks n o (j + 1) = zk X.ks n o j := if_neg (by rw [hg]; decide)
             have st := st.recell 0 rfl (cs' := (goneTo X n o (j + 1)).flatMap ev2E) (by rw [ho2])
             have st := st.recell 2 rfl (cs' := k8 (zk X.ks n o (j + 1)) [.int .i64 X.kd, .int .i64 X.hd, .int .u32 X.gen, .bool X.ls]) (by rw [hz2])
             exact ⟨_, by omega, j + 1, oc, rfl, by omega, congrArg (Value.int .i64) (wi _ (by omega)), congrArg (fun n => accV _ n 2) (congrArg List.length ho2.symm), (st.sel [0, 1, 2] (by decide))⟩
           ·refine gF rfl (by decide) ?_
            refine gF rfl (by decide) ?_
            refine gF rfl (by decide) ?_
            refine gF rfl (by decide) ?_
            refine gU rfl ?_
            refine gU rfl ?_
            refine gU rfl ?_
            refine gU rfl ?_
            refine gU rfl ?_
            refine gU rfl ?_
            refine gU rfl ?_
            refine gU rfl ?_
            refine gU rfl ?_
            refine gF rfl (by decide) ?_
            refine aN rfl rfl (by constructor) ?_
            refine pE ?_
            show AW _ (.cond _ _ _) _ _ _
            refine cF' rfl ?_
            show AWl _ _ _ _ _
            iterate 3 refine aN rfl rfl (by constructor) ?_
            refine sE ?_
            have hg : goes n o j (X.ks.getD j 0) = false := by unfold goes; simp only [h50, h51, h6, Bool.and_true, Bool.true_and, Bool.false_and, Bool.and_false, Bool.or_true, Bool.true_or, Bool.false_or, Bool.or_false]
            have ho2 : (goneTo X n o (j + 1)) = (goneTo X n o j) := gone_f hp hg
            have hz2 : zk X.ks n o (j + 1) = zk X.ks n o j := if_neg (by rw [hg]; decide)
            have st := st.recell 0 rfl (cs' := (goneTo X n o (j + 1)).flatMap ev2E) (by rw [ho2])
            have st := st.recell 2 rfl (cs' := k8 (zk X.ks n o (j + 1)) [.int .i64 X.kd, .int .i64 X.hd, .int .u32 X.gen, .bool X.ls]) (by rw [hz2])
            exact ⟨_, by omega, j + 1, oc, rfl, by omega, congrArg (Value.int .i64) (wi _ (by omega)), congrArg (fun n => accV _ n 2) (congrArg List.length ho2.symm), (st.sel [0, 1, 2] (by decide))⟩
          ·refine gF rfl (by decide) ?_
           refine gF rfl (by decide) ?_
           refine gF rfl (by decide) ?_
           refine gF rfl (by decide) ?_
           refine gF rfl (by decide) ?_
           refine gF rfl (by decide) ?_
           refine gF rfl (by decide) ?_
           iterate 2 refine aN rfl rfl (by constructor) ?_
           refine gF rfl (by decide) ?_
           refine gF rfl (by decide) ?_
           refine gF rfl (by decide) ?_
           refine gF rfl (by decide) ?_
           refine gU rfl ?_
           refine gU rfl ?_
           refine gU rfl ?_
           refine gU rfl ?_
           refine gU rfl ?_
           refine gU rfl ?_
           refine gU rfl ?_
           refine gU rfl ?_
           refine gU rfl ?_
           refine gF rfl (by decide) ?_
           refine aN rfl rfl (by constructor) ?_
           refine pE ?_
           show AW _ (.cond _ _ _) _ _ _
           refine cF' rfl ?_
           show AWl _ _ _ _ _
           iterate 3 refine aN rfl rfl (by constructor) ?_
           refine sE ?_
           have hg : goes n o j (X.ks.getD j 0) = false := by unfold goes; simp only [h50, h6, Bool.and_true, Bool.true_and, Bool.false_and, Bool.and_false, Bool.or_true, Bool.true_or, Bool.false_or, Bool.or_false]
           have ho2 : (goneTo X n o (j + 1)) = (goneTo X n o j) := gone_f hp hg
           have hz2 : zk X.ks n o (j + 1) = zk X.ks n o j := if_neg (by rw [hg]; decide)
           have st := st.recell 0 rfl (cs' := (goneTo X n o (j + 1)).flatMap ev2E) (by rw [ho2])
           have st := st.recell 2 rfl (cs' := k8 (zk X.ks n o (j + 1)) [.int .i64 X.kd, .int .i64 X.hd, .int .u32 X.gen, .bool X.ls]) (by rw [hz2])
           exact ⟨_, by omega, j + 1, oc, rfl, by omega, congrArg (Value.int .i64) (wi _ (by omega)), congrArg (fun n => accV _ n 2) (congrArg List.length ho2.symm), (st.sel [0, 1, 2] (by decide))⟩
         ·have hge : j = 8 := by have := of_decide_eq_false h49; omega
          subst hge
          exact ⟨oc, rfl, (st.sel [0, 1, 2] (by decide))⟩
        ·obtain ⟨oe, ht12, st⟩ := hI
         obtain ⟨u, rfl⟩ : ∃ u, t1 = (upd (mix [12, 13, 96, 97, 98, 99, 100, 101, 102, 103, 104, 105, 106, 107, 108, 109, 110, 111, 112, 113, 114, 115, 116, 117, 118, 119, 120, 121, 122, 123, 124, 125, 126, 127, 128, 129, 130, 131, 132, 133, 134, 135, 136, 137] _ u) (some 12) _) := ⟨t1, by rw [← hk, upd_self ht12]⟩
         clear hk ht12
         refine AW_cutK (b := .seq (.list (⟨some 165, _, _⟩ :: _)) _) (fun t1 H1 => ∃ (oe : Option Nat), t1 12 = accV oe (goneE (xpt X) n o ++ relE (xpt X) n o).length 2 ∧ Stt [b] H H1 [⟨oe, true, ⟨true, 75, (goneE (xpt X) n o ++ relE (xpt X) n o).flatMap ev2E⟩⟩, ⟨some b, true, ⟨true, 65, k8 (zk X.ks n o 8) [.int .i64 (if (heldB (xpt X) o || pallB (xpt X) o) = true then o.ty else X.kd), .int .i64 (if (heldB (xpt X) o || pallB (xpt X) o) = true then n else X.hd), .int .u32 X.gen, .bool X.ls]⟩⟩]) [12, 14, 138, 139, 140, 141, 142, 143, 144, 145, 146, 147, 148, 149, 150, 151, 152, 153, 154, 155, 156, 157, 158, 159, 160, 161, 162, 163, 164] (by decide) ?_ fun t1 H1 hk hI => ?_
         ·show AWl _ _ _ _ _
          refine aMovV (.bool false) (congrArg Value.bool h26) ?_
          refine sE ?_
          show AW _ (.cond _ _ _) _ _ _
          refine cF' rfl ?_
          have hK : (if (heldB (xpt X) o || pallB (xpt X) o) = true then o.ty else X.kd) = X.kd := if_neg (by rw [h26]; decide)
          have hD : (if (heldB (xpt X) o || pallB (xpt X) o) = true then n else X.hd) = X.hd := if_neg (by rw [h26]; decide)
          have hR : relE (xpt X) n o = [] := if_neg (fun hc => by have h1 := hc.1.symm.trans h26; cases h1)
          have st2 := st.sel [0, 2] (by decide)
          exact ⟨oe, (by rw [hR, List.append_nil] <;> rfl), by rw [hR, hK, hD, List.append_nil]; exact st2⟩
         ·obtain ⟨oe, ht12, st⟩ := hI
          obtain ⟨u, rfl⟩ : ∃ u, t1 = (upd (mix [12, 14, 138, 139, 140, 141, 142, 143, 144, 145, 146, 147, 148, 149, 150, 151, 152, 153, 154, 155, 156, 157, 158, 159, 160, 161, 162, 163, 164] _ u) (some 12) _) := ⟨t1, by rw [← hk, upd_self ht12]⟩
          clear hk ht12
          show AWl _ _ _ _ _
          iterate 3 refine aN rfl rfl (by constructor) ?_
          refine aLd st 1 rfl rfl rfl (by constructor) ?_
          iterate 3 refine aN rfl rfl (by constructor) ?_
          refine aSt st 1 rfl rfl rfl rfl (by first | rfl | simp [cellsOf, *]) (by first | decide | (simp [*]; done) | (simp [k8]; done)) (by repeat constructor) fun H56 st => ?_
          refine sE ?_
          show AWl _ _ _ _ _
          refine aMovA rfl ?_
          iterate 2 refine aN rfl rfl (by constructor) ?_
          refine aMovA rfl ?_
          refine sE ?_
          refine ⟨_, out3 (r_tmp rfl (by constructor)) (r_tmp rfl (by constructor)) (r_acc rfl) ⟨rfl, rfl, notTup_acc⟩, ?_⟩
          have hM : preemptM (xpt X) n o = ⟨0, 0, goneE (xpt X) n o ++ relE (xpt X) n o, { xpt X with regs := leftM (xpt X) n o, kind := (if (heldB (xpt X) o || pallB (xpt X) o) = true then o.ty else X.kd), holder := if (heldB (xpt X) o || pallB (xpt X) o) = true then n else (xpt X).holder, gen := inc32 X.gen }⟩ := by unfold preemptM; rw [if_neg hc1, if_neg hc2, if_neg hc3]; rfl
          rw [hM]
          exact ⟨({ ks := (zk X.ks n o 8), kd := (if (heldB (xpt X) o || pallB (xpt X) o) = true then o.ty else X.kd), hd := (if (heldB (xpt X) o || pallB (xpt X) o) = true then n else X.hd), gen := inc32 X.gen, ls := X.ls } : XT), oe, rfl, zk_ok hX (ite_bd hty hX.kd) (ite_bd hn hX.hd), pre_tab hX hp hc2, st.sel [1, 0] (by decide)⟩
  ·refine gF rfl (by decide) ?_
   refine gF rfl (by decide) ?_
   refine gF rfl (by decide) ?_
   iterate 2 refine aN rfl rfl (by constructor) ?_
   refine sE ?_
   refine AW_cutK (b := .seq (.seq (.list (⟨some 64, _, _⟩ :: _)) _) _) (fun t1 H1 => t1 9 = .bool (heldB (xpt X) o || pallB (xpt X) o) ∧ Stt [b] H H1 [⟨some b5, true, ⟨true, 72, [.int .i64 o.sv, .int .i64 o.ty, .int .u64 o.key, .int .u64 o.act, .bool o.ap]⟩⟩, ⟨some b, true, ⟨true, 65, k8 X.ks [.int .i64 X.kd, .int .i64 X.hd, .int .u32 X.gen, .bool X.ls]⟩⟩]) [9, 32, 33, 34, 35, 36, 37, 38, 39, 40, 41, 42, 43, 44, 45, 46, 47, 48, 49, 50, 51, 52, 53, 54, 55, 56, 57, 58, 59, 60, 61, 62, 63] (by decide) ?_ fun t1 H1 hk hI => ?_
   ·show AWp _ _ _ _ _
    iterate 3 refine aN rfl rfl (by constructor) ?_
    refine aLd st 1 rfl rfl rfl (by constructor) ?_
    refine aN rfl rfl (by constructor) ?_
    refine aMovV (.bool true) (congrArg Value.bool h2) ?_
    refine gT rfl ?_
    refine aN rfl rfl (by constructor) ?_
    refine gT rfl ?_
    refine aN rfl rfl (by constructor) ?_
    refine gT rfl ?_
    refine aN rfl rfl (by constructor) ?_
    refine gT rfl ?_
    refine aLd st 1 rfl rfl rfl (by constructor) ?_
    refine ⟨?_, trivial⟩
    refine gT rfl ?_
    refine aC (xall_call) fun v42 H57 ⟨hv, st1⟩ => ?_
    subst hv
    replace st := st.call st1 rfl
    clear st1
    refine ⟨⟨(h_Ld st 1 rfl rfl rfl (by constructor)), trivial⟩, ?_⟩
    refine gT rfl ?_
    iterate 2 refine aN rfl rfl (by constructor) ?_
    refine aMovV (.bool true) (congrArg (fun z => Value.bool (!z)) h4) ?_
    refine gT rfl ?_
    refine aN rfl rfl (by constructor) ?_
    refine gT rfl ?_
    refine aN rfl rfl (by constructor) ?_
    refine gT rfl ?_
    refine aN rfl rfl (by constructor) ?_
    refine gT rfl ?_
    refine aN rfl rfl (by constructor) ?_
    refine gT rfl ?_
    refine aLd st 1 rfl rfl rfl (by constructor) ?_
    refine gT rfl ?_
    refine aN rfl rfl (by constructor) ?_
    refine gT rfl ?_
    refine aN rfl rfl (by constructor) ?_
    refine gT rfl ?_
    refine aIxA rfl rfl hX.hd ?_
    refine gT rfl ?_
    refine aLd st 1 rfl rfl (k8_at X.ks _ hX.hd) (by constructor) ?_
    refine gT rfl ?_
    refine aN rfl rfl (by constructor) ?_
    refine gT rfl ?_
    refine aLd st 0 rfl rfl rfl (by constructor) ?_
    refine gT rfl ?_
    iterate 3 refine aN rfl rfl (by constructor) ?_
    refine gCase 59 rfl (fun h58 => ?_) (fun h58 => ?_)
    ·refine gT rfl ?_
     refine aN rfl rfl (by constructor) ?_
     refine gT rfl ?_
     refine aLd st 0 rfl rfl rfl (by constructor) ?_
     refine gT rfl ?_
     iterate 2 refine aN rfl rfl (by constructor) ?_
     refine pE ?_
     show AW _ (.cond _ _ _) _ _ _
     refine cC' rfl (fun h59 => ?_) (fun h59 => ?_)
     ·show AWl _ _ _ _ _
      refine aN rfl rfl (by constructor) ?_
      refine sE ?_
      have hT : (heldB (xpt X) o || pallB (xpt X) o) = true := by rw [xheld hX]; unfold pallB; show ((X.kd != 0 && !allB X.kd && (X.ks.getD X.hd.toNat 0 == o.act) && o.act != 0) || (allB X.kd && o.act == 0)) = _; simp_all <;> simp [allB]
      exact ⟨congrArg Value.bool hT.symm, st.sel [0, 1] (by decide)⟩
     ·have hT : (heldB (xpt X) o || pallB (xpt X) o) = false := by rw [xheld hX]; unfold pallB; show ((X.kd != 0 && !allB X.kd && (X.ks.getD X.hd.toNat 0 == o.act) && o.act != 0) || (allB X.kd && o.act == 0)) = _; simp_all <;> simp [allB]
      exact ⟨congrArg Value.bool hT.symm, st.sel [0, 1] (by decide)⟩
    ·refine gF rfl (by decide) ?_
     refine gF rfl (by decide) ?_
     refine gF rfl (by decide) ?_
     refine aN rfl rfl (by constructor) ?_
     refine pE ?_
     show AW _ (.cond _ _ _) _ _ _
     refine cF' rfl ?_
     have hT : (heldB (xpt X) o || pallB (xpt X) o) = false := by rw [xheld hX]; unfold pallB; show ((X.kd != 0 && !allB X.kd && (X.ks.getD X.hd.toNat 0 == o.act) && o.act != 0) || (allB X.kd && o.act == 0)) = _; simp_all <;> simp [allB]
     exact ⟨congrArg Value.bool hT.symm, st.sel [0, 1] (by decide)⟩
   ·obtain ⟨ht9, st⟩ := hI
    obtain ⟨u, rfl⟩ : ∃ u, t1 = (upd (mix [9, 32, 33, 34, 35, 36, 37, 38, 39, 40, 41, 42, 43, 44, 45, 46, 47, 48, 49, 50, 51, 52, 53, 54, 55, 56, 57, 58, 59, 60, 61, 62, 63] _ u) (some 9) _) := ⟨t1, by rw [← hk, upd_self ht9]⟩
    clear hk ht9
    show AWl _ _ _ _ _
    refine aN rfl rfl (by constructor) ?_
    refine aLd st 0 rfl rfl rfl (by constructor) ?_
    iterate 2 refine aN rfl rfl (by constructor) ?_
    refine gCase 67 rfl (fun h60 => ?_) (fun h60 => ?_)
    ·refine gT rfl ?_
     refine aN rfl rfl (by constructor) ?_
     refine gT rfl ?_
     iterate 2 refine aN rfl rfl (by constructor) ?_
     refine sE ?_
     show AW _ (.cond _ _ _) _ _ _
     refine cC' rfl (fun h61 => ?_) (fun h61 => ?_)
     ·have h61n : (heldB (xpt X) o || pallB (xpt X) o) = false := Eq.mp (Bool.not_eq_true' _) h61
      show AWl _ _ _ _ _
      iterate 3 refine aN rfl rfl (by constructor) ?_
      refine sE ?_
      refine ⟨_, out3 (r_tmp rfl (by constructor)) (r_tmp rfl (by constructor)) (r_tmp rfl (by constructor)) ⟨rfl, rfl, rfl⟩, ?_⟩
      have hc1 : o.act = 0 ∧ pallB (xpt X) o = false := by simp_all
      have st := st.nil 75
      have hM : preemptM (xpt X) n o = ⟨2, 9728, [], xpt X⟩ := by unfold preemptM; rw [if_pos hc1]
      rw [hM]
      exact ⟨X, none, rfl, hX, rfl, st.sel [2, 0] (by decide)⟩
     ·have h61n : (heldB (xpt X) o || pallB (xpt X) o) = true := Eq.mp (Bool.not_eq_false' _) h61
      show AWl _ _ _ _ _
      have hc1 : ¬ (o.act = 0 ∧ pallB (xpt X) o = false) := pre_c1 (X := X) (o := o) (fun h0 => by simp_all)
      have hp := pall_eq hc1
      refine aMovV (.bool true) (congrArg Value.bool h61n) ?_
      refine aN rfl rfl (by constructor) ?_
      refine gT rfl ?_
      refine aN rfl rfl (by constructor) ?_
      refine gT rfl ?_
      refine aLd st 0 rfl rfl rfl (by constructor) ?_
      refine gT rfl ?_
      refine aC (xtype_call) fun v75 H62 ⟨hv, st1⟩ => ?_
      subst hv
      replace st := st.call st1 rfl
      clear st1
      refine gT rfl ?_
      iterate 2 refine aN rfl rfl (by constructor) ?_
      refine sE ?_
      show AW _ (.cond _ _ _) _ _ _
      refine cC' rfl (fun h63 => ?_) (fun h63 => ?_)
      ·have h63n : typeB o.ty = false := Eq.mp (Bool.not_eq_true' _) h63
       show AWl _ _ _ _ _
       iterate 3 refine aN rfl rfl (by constructor) ?_
       refine sE ?_
       refine ⟨_, out3 (r_tmp rfl (by constructor)) (r_tmp rfl (by constructor)) (r_tmp rfl (by constructor)) ⟨rfl, rfl, rfl⟩, ?_⟩
       have hc2 : (heldB (xpt X) o || pallB (xpt X) o) = true ∧ typeB o.ty = false := by simp_all
       have st := st.nil 75
       have hM : preemptM (xpt X) n o = ⟨2, 9216, [], xpt X⟩ := by unfold preemptM; rw [if_neg hc1, if_pos hc2]
       rw [hM]
       exact ⟨X, none, rfl, hX, rfl, st.sel [2, 0] (by decide)⟩
      ·have h63n : typeB o.ty = true := Eq.mp (Bool.not_eq_false' _) h63
       show AWl _ _ _ _ _
       have hc2 : ¬ ((heldB (xpt X) o || pallB (xpt X) o) = true ∧ typeB o.ty = false) := by simp_all
       refine aN rfl rfl (by constructor) ?_
       refine aLd st 0 rfl rfl rfl (by constructor) ?_
       refine aN rfl rfl (by constructor) ?_
       refine aMovV (.bool true) (congrArg Value.bool h60) ?_
       refine sE ?_
       refine AW_cutK (b := .seq (.seq (.list (⟨some 94, _, _⟩ :: _)) _) _) (fun t1 H1 => t1 10 = .bool ((o.act == 0) || (xr X.ks).any fun r => r.2 == o.act) ∧ Stt [b] H H1 [⟨some b5, true, ⟨true, 72, [.int .i64 o.sv, .int .i64 o.ty, .int .u64 o.key, .int .u64 o.act, .bool o.ap]⟩⟩, ⟨some b, true, ⟨true, 65, k8 X.ks [.int .i64 X.kd, .int .i64 X.hd, .int .u32 X.gen, .bool X.ls]⟩⟩]) [10, 11, 81, 82, 83, 84, 85, 86, 87, 88, 89, 90, 91, 92, 93] (by decide) ?_ fun t1 H1 hk hI => ?_
       ·show AWl _ _ _ _ _
        refine aN rfl rfl (by constructor) ?_
        refine sE ?_
        show AW _ (.loop _) _ _ _
        refine AW_loopN (fun m t1 H1 => ∃ (j : Nat), m = 8 - j ∧ (j ≤ 8) ∧ t1 11 = .int .i64 (j : Int) ∧ t1 10 = .bool ((o.act == 0) || (List.range j).any (fun i => X.ks.getD i 0 == o.act)) ∧ Stt [b] H H1 [⟨some b5, true, ⟨true, 72, [.int .i64 o.sv, .int .i64 o.ty, .int .u64 o.key, .int .u64 o.act, .bool o.ap]⟩⟩, ⟨some b, true, ⟨true, 65, k8 X.ks [.int .i64 X.kd, .int .i64 X.hd, .int .u32 X.gen, .bool X.ls]⟩⟩]) (8 - 0) ⟨0, rfl, by omega, rfl, congrArg Value.bool (by first | (simp; done) | simp_all), (st.sel [0, 1] (by decide))⟩ [10, 11, 81, 82, 83, 84, 85, 86, 87, 88, 89, 90, 91, 92, 93] (by decide) ?_
        rintro m t1 H1 hk hI
        obtain ⟨j, rfl, hj, ht11, ht10, st⟩ := hI
        obtain ⟨u, rfl⟩ : ∃ u, t1 = (upd (upd (mix [10, 11, 81, 82, 83, 84, 85, 86, 87, 88, 89, 90, 91, 92, 93] _ u) (some 11) _) (some 10) _) := ⟨t1, by rw [← hk, upd_self ht11, upd_self ht10]⟩
        clear hk ht11 ht10
        show AWl _ _ _ _ _
        iterate 2 refine aN rfl rfl (by constructor) ?_
        refine sE ?_
        show AW _ (.cond _ _ _) _ _ _
        refine cC' rfl (fun h64 => ?_) (fun h64 => ?_)
        ·have hlt : j < 8 := by have := of_decide_eq_true h64; omega
         show AWp _ _ _ _ _
         iterate 4 refine aN rfl rfl (by constructor) ?_
         refine aIxA rfl rfl (by omega) ?_
         refine aLd st 1 rfl rfl (k8_at X.ks _ (by omega)) (by constructor) ?_
         refine aN rfl rfl (by constructor) ?_
         refine aLd st 0 rfl rfl rfl (by constructor) ?_
         refine aN rfl rfl (by constructor) ?_
         refine pE ?_
         show AW _ (.cond _ _ _) _ _ _
         refine cC' rfl (fun h65 => ?_) (fun h65 => ?_)
         ·show AWl _ _ _ _ _
          refine aN rfl rfl (by constructor) ?_
          refine sE ?_
          show AWl _ _ _ _ _
          iterate 3 refine aN rfl rfl (by constructor) ?_
          refine sE ?_
          exact ⟨_, by omega, j + 1, rfl, by omega, congrArg (Value.int .i64) (wi _ (by omega)), congrArg Value.bool (by rw [any_range]; show _ = (_ || (_ || (X.ks.getD j 0 == o.act))); rw [show (X.ks.getD j 0 == o.act) = true from h65]; simp), (st.sel [0, 1] (by decide))⟩
         ·show AWl _ _ _ _ _
          iterate 3 refine aN rfl rfl (by constructor) ?_
          refine sE ?_
          exact ⟨_, by omega, j + 1, rfl, by omega, congrArg (Value.int .i64) (wi _ (by omega)), congrArg Value.bool (by rw [any_range]; show _ = (_ || (_ || (X.ks.getD j 0 == o.act))); rw [show (X.ks.getD j 0 == o.act) = false from h65]; simp), (st.sel [0, 1] (by decide))⟩
        ·have hge : j = 8 := by have := of_decide_eq_false h64; omega
         subst hge
         exact ⟨congrArg Value.bool (any_act X.ks o), (st.sel [0, 1] (by decide))⟩
       ·obtain ⟨ht10, st⟩ := hI
        obtain ⟨u, rfl⟩ : ∃ u, t1 = (upd (mix [10, 11, 81, 82, 83, 84, 85, 86, 87, 88, 89, 90, 91, 92, 93] _ u) (some 10) _) := ⟨t1, by rw [← hk, upd_self ht10]⟩
        clear hk ht10
        show AWl _ _ _ _ _
        iterate 2 refine aN rfl rfl (by constructor) ?_
        refine sE ?_
        show AW _ (.cond _ _ _) _ _ _
        refine cC' rfl (fun h66 => ?_) (fun h66 => ?_)
        ·have h66n : ((o.act == 0) || (xr X.ks).any fun r => r.2 == o.act) = false := Eq.mp (Bool.not_eq_true' _) h66
         show AWl _ _ _ _ _
         iterate 3 refine aN rfl rfl (by constructor) ?_
         refine sE ?_
         refine ⟨_, out3 (r_tmp rfl (by constructor)) (r_tmp rfl (by constructor)) (r_tmp rfl (by constructor)) ⟨rfl, rfl, rfl⟩, ?_⟩
         have hc3 : ((xpt X).regs.any fun r => r.2 == o.act) = false ∧ pallB (xpt X) o = false := pre_c3b hp h66n
         have st := st.nil 75
         have hM : preemptM (xpt X) n o = ⟨24, 0, [], xpt X⟩ := by unfold preemptM; rw [if_neg hc1, if_neg hc2, if_pos hc3]
         rw [hM]
         exact ⟨X, none, rfl, hX, rfl, st.sel [2, 0] (by decide)⟩
        ·have h66n : ((o.act == 0) || (xr X.ks).any fun r => r.2 == o.act) = true := Eq.mp (Bool.not_eq_false' _) h66
         show AWl _ _ _ _ _
         have hc3 : ¬ (((xpt X).regs.any fun r => r.2 == o.act) = false ∧ pallB (xpt X) o = false) := pre_c3 hp h66n
         refine aN rfl rfl (by constructor) ?_
         refine sE ?_
         refine AW_cutK (b := .seq (.seq (.list (⟨some 138, _, _⟩ :: _)) _) _) (fun t1 H1 => ∃ (oe : Option Nat), t1 12 = accV oe (goneE (xpt X) n o).length 2 ∧ Stt [b] H H1 [⟨oe, true, ⟨true, 75, (goneE (xpt X) n o).flatMap ev2E⟩⟩, ⟨some b5, true, ⟨true, 72, [.int .i64 o.sv, .int .i64 o.ty, .int .u64 o.key, .int .u64 o.act, .bool o.ap]⟩⟩, ⟨some b, true, ⟨true, 65, k8 (zk X.ks n o 8) [.int .i64 X.kd, .int .i64 X.hd, .int .u32 X.gen, .bool X.ls]⟩⟩]) [12, 13, 96, 97, 98, 99, 100, 101, 102, 103, 104, 105, 106, 107, 108, 109, 110, 111, 112, 113, 114, 115, 116, 117, 118, 119, 120, 121, 122, 123, 124, 125, 126, 127, 128, 129, 130, 131, 132, 133, 134, 135, 136, 137] (by decide) ?_ fun t1 H1 hk hI => ?_
         ·show AWl _ _ _ _ _
          refine aN rfl rfl (by constructor) ?_
          refine sE ?_
          show AW _ (.loop _) _ _ _
          have st := st.nil 75
          refine AW_loopN (fun m t1 H1 => ∃ (j : Nat) (oc : Option Nat), m = 8 - j ∧ (j ≤ 8) ∧ t1 13 = .int .i64 (j : Int) ∧ t1 12 = accV oc (goneTo X n o j).length 2 ∧ Stt [b] H H1 [⟨oc, true, ⟨true, 75, ((goneTo X n o j)).flatMap ev2E⟩⟩, ⟨some b5, true, ⟨true, 72, [.int .i64 o.sv, .int .i64 o.ty, .int .u64 o.key, .int .u64 o.act, .bool o.ap]⟩⟩, ⟨some b, true, ⟨true, 65, k8 (zk X.ks n o j) [.int .i64 X.kd, .int .i64 X.hd, .int .u32 X.gen, .bool X.ls]⟩⟩]) (8 - 0) ⟨0, none, rfl, by omega, rfl, rfl, (st.sel [0, 1, 2] (by decide))⟩ [12, 13, 96, 97, 98, 99, 100, 101, 102, 103, 104, 105, 106, 107, 108, 109, 110, 111, 112, 113, 114, 115, 116, 117, 118, 119, 120, 121, 122, 123, 124, 125, 126, 127, 128, 129, 130, 131, 132, 133, 134, 135, 136, 137] (by decide) ?_
          rintro m t1 H1 hk hI
          obtain ⟨j, oc, rfl, hj, ht13, ht12, st⟩ := hI
          obtain ⟨u, rfl⟩ : ∃ u, t1 = (upd (upd (mix [12, 13, 96, 97, 98, 99, 100, 101, 102, 103, 104, 105, 106, 107, 108, 109, 110, 111, 112, 113, 114, 115, 116, 117, 118, 119, 120, 121, 122, 123, 124, 125, 126, 127, 128, 129, 130, 131, 132, 133, 134, 135, 136, 137] _ u) (some 13) _) (some 12) _) := ⟨t1, by rw [← hk, upd_self ht13, upd_self ht12]⟩
          clear hk ht13 ht12
          show AWl _ _ _ _ _
          iterate 2 refine aN rfl rfl (by constructor) ?_
          refine sE ?_
          show AW _ (.cond _ _ _) _ _ _
          refine cC' rfl (fun h67 => ?_) (fun h67 => ?_)
          ·have hlt : j < 8 := by have := of_decide_eq_true h67; omega
           show AWp _ _ _ _ _
           iterate 4 refine aN rfl rfl (by constructor) ?_
           refine gCase 103 rfl (fun h68 => ?_) (fun h68 => ?_)
           ·refine gT rfl ?_
            refine aN rfl rfl (by constructor) ?_
            refine gT rfl ?_
            refine aN rfl rfl (by constructor) ?_
            refine gT rfl ?_
            refine aN rfl rfl (by constructor) ?_
            refine gT rfl ?_
            refine aN rfl rfl (by constructor) ?_
            refine gT rfl ?_
            refine aIxA rfl rfl (by omega) ?_
            refine gT rfl ?_
            refine aLd st 2 rfl rfl (k8_at (zk X.ks n o j) _ (by omega)) (by constructor) ?_
            rw [show (zk X.ks n o j).getD ((j : Int)).toNat 0 = X.ks.getD j 0 from zk_at n o (by rw [hX.len]; omega)]
            refine gT rfl ?_
            iterate 3 refine aN rfl rfl (by constructor) ?_
            refine gCase 112 rfl (fun h69 => ?_) (fun h69 => ?_)
            ·refine gT rfl ?_
             refine aN rfl rfl (by constructor) ?_
             refine gT rfl ?_
             refine aLd st 1 rfl rfl rfl (by constructor) ?_
             refine gT rfl ?_
             refine aN rfl rfl (by constructor) ?_
             refine gT rfl ?_
             refine aMovV (.bool true) (congrArg Value.bool h60) ?_
             refine gF rfl (by decide) ?_
             refine gF rfl (by decide) ?_
             refine gF rfl (by decide) ?_
             refine gF rfl (by decide) ?_
             refine gF rfl (by decide) ?_
             refine gF rfl (by decide) ?_
             refine gF rfl (by decide) ?_
             refine gF rfl (by decide) ?_
             refine gF rfl (by decide) ?_
             refine gT rfl ?_
             iterate 2 refine aN rfl rfl (by constructor) ?_
             refine pE ?_
             show AW _ (.cond _ _ _) _ _ _
             refine cT rfl ?_
             show AWl _ _ _ _ _
             have hg : goes n o j (X.ks.getD j 0) = true := by unfold goes; simp only [h68, h69, h60, Bool.and_true, Bool.true_and, Bool.false_and, Bool.and_false, Bool.or_true, Bool.true_or, Bool.false_or, Bool.or_false]
             have ho2 : (goneTo X n o (j + 1)) = (goneTo X n o j) ++ [((j : Int), 10757)] := gone_t hp hg
             have hz2 : zk X.ks n o (j + 1) = (zk X.ks n o j).set j 0 := if_pos hg
             iterate 4 refine aN rfl rfl (by constructor) ?_
             refine aIxA rfl rfl (by omega) ?_
             refine aStAt (u := .int .u64 0) (cs := k8 ((zk X.ks n o j).set j 0) [.int .i64 X.kd, .int .i64 X.hd, .int .u32 X.gen, .bool X.ls]) st 2 rfl rfl rfl rfl rfl (by show 0 + ((j : Int)).toNat * 1 < 12; omega) (k8_set (n := (j : Int)) (by rw [zk_len]; exact hX.len) _ (by omega)) fun H70 st => ?_
             refine sE ?_
             show AWl _ _ _ _ _
             refine aMovA rfl ?_
             refine aN rfl rfl (by constructor) ?_
             refine aBld rfl (by repeat constructor) ?_
             refine aLit st rfl (by repeat constructor) fun b136 H71 st => ?_
             refine aApp st 1 (ob := oc) rfl rfl rfl (by decide) (by exact flat_len' ev2E_len _) (st.rowAll 0 rfl (by first | rfl | (simp [beB_len, *]; done) | (simp [beB_len, *]; omega))).src (by first | rfl | simp) (by have := gone_len X n o j; omega) (by have := gone_len X n o j; omega) fun b137 H72 hp137 st => ?_
             have st := st.recell 1 rfl (cs' := (goneTo X n o (j + 1)).flatMap ev2E) (flat_snoc ho2 rfl)
             have hc3 : ¬ (((xpt X).regs.any fun r => r.2 == o.act) = false ∧ pallB (xpt X) o = false) := pre_c3 hp h66n
             refine aMovA rfl ?_
             refine sE ?_
             show AWl _ _ _ _ _
             iterate 3 refine aN rfl rfl (by constructor) ?_
             refine sE ?_
             have st := st.recell 3 rfl (cs' := k8 (zk X.ks n o (j + 1)) [.int .i64 X.kd, .int .i64 X.hd, .int .u32 X.gen, .bool X.ls]) (by rw [hz2])
             exact ⟨_, by omega, j + 1, b137, rfl, by omega, congrArg (Value.int .i64) (wi _ (by omega)), congrArg (fun n => accV _ n 2) (len_snoc ho2), (st.sel [1, 2, 3] (by decide))⟩
            ·refine gF rfl (by decide) ?_
             refine gF rfl (by decide) ?_
             refine gF rfl (by decide) ?_
             refine gF rfl (by decide) ?_
             refine gU rfl ?_
             refine gU rfl ?_
             refine gU rfl ?_
             refine gU rfl ?_
             refine gU rfl ?_
             refine gU rfl ?_
             refine gU rfl ?_
             refine gU rfl ?_
             refine gU rfl ?_
             refine gF rfl (by decide) ?_
             refine aN rfl rfl (by constructor) ?_
             refine pE ?_
             show AW _ (.cond _ _ _) _ _ _
             refine cF' rfl ?_
             show AWl _ _ _ _ _
             iterate 3 refine aN rfl rfl (by constructor) ?_
             refine sE ?_
             have hg : goes n o j (X.ks.getD j 0) = false := by unfold goes; simp only [h68, h69, h60, Bool.and_true, Bool.true_and, Bool.false_and, Bool.and_false, Bool.or_true, Bool.true_or, Bool.false_or, Bool.or_false]
             have ho2 : (goneTo X n o (j + 1)) = (goneTo X n o j) := gone_f hp hg
             have hz2 : zk X.ks n o (j + 1) = zk X.ks n o j := if_neg (by rw [hg]; decide)
             have st := st.recell 0 rfl (cs' := (goneTo X n o (j + 1)).flatMap ev2E) (by rw [ho2])
             have st := st.recell 2 rfl (cs' := k8 (zk X.ks n o (j + 1)) [.int .i64 X.kd, .int .i64 X.hd, .int .u32 X.gen, .bool X.ls]) (by rw [hz2])
             exact ⟨_, by omega, j + 1, oc, rfl, by omega, congrArg (Value.int .i64) (wi _ (by omega)), congrArg (fun n => accV _ n 2) (congrArg List.length ho2.symm), (st.sel [0, 1, 2] (by decide))⟩
           ·refine gF rfl (by decide) ?_
            refine gF rfl (by decide) ?_
            refine gF rfl (by decide) ?_
            refine gF rfl (by decide) ?_
            refine gF rfl (by decide) ?_
            refine gF rfl (by decide) ?_
            refine gF rfl (by decide) ?_
            iterate 2 refine aN rfl rfl (by constructor) ?_
            refine gF rfl (by decide) ?_
            refine gF rfl (by decide) ?_
            refine gF rfl (by decide) ?_
            refine gF rfl (by decide) ?_
            refine gU rfl ?_
            refine gU rfl ?_
            refine gU rfl ?_
            refine gU rfl ?_
            refine gU rfl ?_
            refine gU rfl ?_
            refine gU rfl ?_
            refine gU rfl ?_
            refine gU rfl ?_
            refine gF rfl (by decide) ?_
            refine aN rfl rfl (by constructor) ?_
            refine pE ?_
            show AW _ (.cond _ _ _) _ _ _
            refine cF' rfl ?_
            show AWl _ _ _ _ _
            iterate 3 refine aN rfl rfl (by constructor) ?_
            refine sE ?_
            have hg : goes n o j (X.ks.getD j 0) = false := by unfold goes; simp only [h68, h60, Bool.and_true, Bool.true_and, Bool.false_and, Bool.and_false, Bool.or_true, Bool.true_or, Bool.false_or, Bool.or_false]
            have ho2 : (goneTo X n o (j + 1)) = (goneTo X n o j) := gone_f hp hg
            have hz2 : zk X.ks n o (j + 1) = zk X.ks n o j := if_neg (by rw [hg]; decide)
            have st := st.recell 0 rfl (cs' := (goneTo X n o (j + 1)).flatMap ev2E) (by rw [ho2])
            have st := st.recell 2 rfl (cs' := k8 (zk X.ks n o (j + 1)) [.int .i64 X.kd, .int .i64 X.hd, .int .u32 X.gen, .bool X.ls]) (by rw [hz2])
            exact ⟨_, by omega, j + 1, oc, rfl, by omega, congrArg (Value.int .i64) (wi _ (by omega)), congrArg (fun n => accV _ n 2) (congrArg List.length ho2.symm), (st.sel [0, 1, 2] (by decide))⟩
          ·have hge : j = 8 := by have := of_decide_eq_false h67; omega
           subst hge
           exact ⟨oc, rfl, (st.sel [0, 1, 2] (by decide))⟩
         ·obtain ⟨oe, ht12, st⟩ := hI
          obtain ⟨u, rfl⟩ : ∃ u, t1 = (upd (mix [12, 13, 96, 97, 98, 99, 100, 101, 102, 103, 104, 105, 106, 107, 108, 109, 110, 111, 112, 113, 114, 115, 116, 117, 118, 119, 120, 121, 122, 123, 124, 125, 126, 127, 128, 129, 130, 131, 132, 133, 134, 135, 136, 137] _ u) (some 12) _) := ⟨t1, by rw [← hk, upd_self ht12]⟩
          clear hk ht12
          refine AW_cutK (b := .seq (.list (⟨some 165, _, _⟩ :: _)) _) (fun t1 H1 => ∃ (oe : Option Nat), t1 12 = accV oe (goneE (xpt X) n o ++ relE (xpt X) n o).length 2 ∧ Stt [b] H H1 [⟨oe, true, ⟨true, 75, (goneE (xpt X) n o ++ relE (xpt X) n o).flatMap ev2E⟩⟩, ⟨some b, true, ⟨true, 65, k8 (zk X.ks n o 8) [.int .i64 (if (heldB (xpt X) o || pallB (xpt X) o) = true then o.ty else X.kd), .int .i64 (if (heldB (xpt X) o || pallB (xpt X) o) = true then n else X.hd), .int .u32 X.gen, .bool X.ls]⟩⟩]) [12, 14, 138, 139, 140, 141, 142, 143, 144, 145, 146, 147, 148, 149, 150, 151, 152, 153, 154, 155, 156, 157, 158, 159, 160, 161, 162, 163, 164] (by decide) ?_ fun t1 H1 hk hI => ?_
          ·show AWl _ _ _ _ _
           refine aMovV (.bool true) (congrArg Value.bool h61n) ?_
           refine sE ?_
           show AW _ (.cond _ _ _) _ _ _
           refine cT rfl ?_
           show AWl _ _ _ _ _
           iterate 3 refine aN rfl rfl (by constructor) ?_
           refine aLd st 2 rfl rfl rfl (by constructor) ?_
           refine aN rfl rfl (by constructor) ?_
           refine sE ?_
           show AWl _ _ _ _ _
           iterate 2 refine aN rfl rfl (by constructor) ?_
           refine aLd st 1 rfl rfl rfl (by constructor) ?_
           iterate 2 refine aN rfl rfl (by constructor) ?_
           refine aSt st 2 rfl rfl rfl rfl (by first | rfl | simp [cellsOf, *]) (by first | decide | (simp [*]; done) | (simp [k8]; done)) (by repeat constructor) fun H73 st => ?_
           refine sE ?_
           show AWl _ _ _ _ _
           iterate 4 refine aN rfl rfl (by constructor) ?_
           refine aSt st 2 rfl rfl rfl rfl (by first | rfl | simp [cellsOf, *]) (by first | decide | (simp [*]; done) | (simp [k8]; done)) (by repeat constructor) fun H74 st => ?_
           refine sE ?_
           show AWl _ _ _ _ _
           iterate 3 refine aN rfl rfl (by constructor) ?_
           refine gCase 154 rfl (fun h75 => ?_) (fun h75 => ?_)
           ·refine gT rfl ?_
            refine aN rfl rfl (by constructor) ?_
            refine gT rfl ?_
            refine aN rfl rfl (by constructor) ?_
            refine gT rfl ?_
            refine aLd st 1 rfl rfl rfl (by constructor) ?_
            refine gT rfl ?_
            iterate 2 refine aN rfl rfl (by constructor) ?_
            refine sE ?_
            show AW _ (.cond _ _ _) _ _ _
            refine cC' rfl (fun h76 => ?_) (fun h76 => ?_)
            ·show AWl _ _ _ _ _
             have hb1 : (goneE (xpt X) n o).length ≤ 8 := gone_len X n o 8
             have hb2 : (othersM (zk X.ks n o 8) n 10756).length ≤ 8 := oth_len (zk X.ks n o 8) n 10756 8
             refine aMovA rfl ?_
             iterate 2 refine aN rfl rfl (by constructor) ?_
             refine aC (others_call (X := ({ ks := (zk X.ks n o 8), kd := o.ty, hd := n, gen := X.gen, ls := X.ls } : XT)) (but := n) (code := 10756) (st.get (j := 2) rfl)) fun v163 H77 ⟨oe163, hv, st1⟩ => ?_
             subst hv
             replace st := st.call st1 rfl
             clear st1
             rw [show othersM ({ ks := (zk X.ks n o 8), kd := o.ty, hd := n, gen := X.gen, ls := X.ls } : XT).ks n 10756 = othersM (zk X.ks n o 8) n 10756 from rfl] at st ⊢
             refine aApp st 1 (ob := oe) rfl rfl rfl (by decide) (by exact flat_len' ev2E_len _) (st.rowAcc 0 rfl (by decide) (by exact flat_len' ev2E_len _)).src (by exact flat_len' ev2E_len _) (by omega) (by omega) fun b164 H78 hp164 st => ?_
             have hc3 : ¬ (((xpt X).regs.any fun r => r.2 == o.act) = false ∧ pallB (xpt X) o = false) := pre_c3 hp h66n
             refine aMovA rfl ?_
             refine sE ?_
             have hK : (if (heldB (xpt X) o || pallB (xpt X) o) = true then o.ty else X.kd) = o.ty := if_pos h61n
             have hD : (if (heldB (xpt X) o || pallB (xpt X) o) = true then n else X.hd) = n := if_pos h61n
             have hR : relE (xpt X) n o = othersM (zk X.ks n o 8) n 10756 := by unfold relE othersM; rw [if_pos ⟨h61n, by simp_all [xpt], by simp_all [xpt]⟩, xr_zk hX.len hp]
             have st2 := st.sel [1, 3] (by decide)
             exact ⟨b164, (by rw [hR, List.length_append] <;> rfl), by rw [hR, hK, hD, List.flatMap_append]; exact st2⟩
            ·have hK : (if (heldB (xpt X) o || pallB (xpt X) o) = true then o.ty else X.kd) = o.ty := if_pos h61n
             have hD : (if (heldB (xpt X) o || pallB (xpt X) o) = true then n else X.hd) = n := if_pos h61n
             have hR : relE (xpt X) n o = [] := if_neg (fun hc => by have h1 := hc.2.1; have h2 := hc.2.2; simp_all [xpt] <;> omega)
             have st2 := st.sel [0, 2] (by decide)
             exact ⟨oe, (by rw [hR, List.append_nil] <;> rfl), by rw [hR, hK, hD, List.append_nil]; exact st2⟩
           ·refine gF rfl (by decide) ?_
            refine gF rfl (by decide) ?_
            refine gF rfl (by decide) ?_
            refine gF rfl (by decide) ?_
            refine aN rfl rfl (by constructor) ?_
            refine sE ?_
            show AW _ (.cond _ _ _) _ _ _
            refine cF' rfl ?_
            have hK : (if (heldB (xpt X) o || pallB (xpt X) o) = true then o.ty else X.kd) = o.ty := if_pos h61n
            have hD : (if (heldB (xpt X) o || pallB (xpt X) o) = true then n else X.hd) = n := if_pos h61n
            have hR : relE (xpt X) n o = [] := if_neg (fun hc => by have h1 := hc.2.1; have h2 := hc.2.2; simp_all [xpt] <;> omega)
            have st2 := st.sel [0, 2] (by decide)
            exact ⟨oe, (by rw [hR, List.append_nil] <;> rfl), by rw [hR, hK, hD, List.append_nil]; exact st2⟩
          ·obtain ⟨oe, ht12, st⟩ := hI
           obtain ⟨u, rfl⟩ : ∃ u, t1 = (upd (mix [12, 14, 138, 139, 140, 141, 142, 143, 144, 145, 146, 147, 148, 149, 150, 151, 152, 153, 154, 155, 156, 157, 158, 159, 160, 161, 162, 163, 164] _ u) (some 12) _) := ⟨t1, by rw [← hk, upd_self ht12]⟩
           clear hk ht12
           show AWl _ _ _ _ _
           iterate 3 refine aN rfl rfl (by constructor) ?_
           refine aLd st 1 rfl rfl rfl (by constructor) ?_
           iterate 3 refine aN rfl rfl (by constructor) ?_
           refine aSt st 1 rfl rfl rfl rfl (by first | rfl | simp [cellsOf, *]) (by first | decide | (simp [*]; done) | (simp [k8]; done)) (by repeat constructor) fun H79 st => ?_
           refine sE ?_
           show AWl _ _ _ _ _
           refine aMovA rfl ?_
           iterate 2 refine aN rfl rfl (by constructor) ?_
           refine aMovA rfl ?_
           refine sE ?_
           refine ⟨_, out3 (r_tmp rfl (by constructor)) (r_tmp rfl (by constructor)) (r_acc rfl) ⟨rfl, rfl, notTup_acc⟩, ?_⟩
           have hM : preemptM (xpt X) n o = ⟨0, 0, goneE (xpt X) n o ++ relE (xpt X) n o, { xpt X with regs := leftM (xpt X) n o, kind := (if (heldB (xpt X) o || pallB (xpt X) o) = true then o.ty else X.kd), holder := if (heldB (xpt X) o || pallB (xpt X) o) = true then n else (xpt X).holder, gen := inc32 X.gen }⟩ := by unfold preemptM; rw [if_neg hc1, if_neg hc2, if_neg hc3]; rfl
           rw [hM]
           exact ⟨({ ks := (zk X.ks n o 8), kd := (if (heldB (xpt X) o || pallB (xpt X) o) = true then o.ty else X.kd), hd := (if (heldB (xpt X) o || pallB (xpt X) o) = true then n else X.hd), gen := inc32 X.gen, ls := X.ls } : XT), oe, rfl, zk_ok hX (ite_bd hty hX.kd) (ite_bd hn hX.hd), pre_tab hX hp hc2, st.sel [1, 0] (by decide)⟩
    ·refine gF rfl (by decide) ?_
     refine gF rfl (by decide) ?_
     refine aN rfl rfl (by constructor) ?_
     refine sE ?_
     show AW _ (.cond _ _ _) _ _ _
     refine cF' rfl ?_
     show AWl _ _ _ _ _
     have hc1 : ¬ (o.act = 0 ∧ pallB (xpt X) o = false) := pre_c1 (X := X) (o := o) (fun h0 => by simp_all)
     have hp := pall_eq hc1
     iterate 2 refine aN rfl rfl (by constructor) ?_
     refine gCase 72 rfl (fun h80 => ?_) (fun h80 => ?_)
     ·refine gT rfl ?_
      refine aN rfl rfl (by constructor) ?_
      refine gT rfl ?_
      refine aLd st 0 rfl rfl rfl (by constructor) ?_
      refine gT rfl ?_
      refine aC (xtype_call) fun v75 H81 ⟨hv, st1⟩ => ?_
      subst hv
      replace st := st.call st1 rfl
      clear st1
      refine gT rfl ?_
      iterate 2 refine aN rfl rfl (by constructor) ?_
      refine sE ?_
      show AW _ (.cond _ _ _) _ _ _
      refine cC' rfl (fun h82 => ?_) (fun h82 => ?_)
      ·have h82n : typeB o.ty = false := Eq.mp (Bool.not_eq_true' _) h82
       show AWl _ _ _ _ _
       iterate 3 refine aN rfl rfl (by constructor) ?_
       refine sE ?_
       refine ⟨_, out3 (r_tmp rfl (by constructor)) (r_tmp rfl (by constructor)) (r_tmp rfl (by constructor)) ⟨rfl, rfl, rfl⟩, ?_⟩
       have hc2 : (heldB (xpt X) o || pallB (xpt X) o) = true ∧ typeB o.ty = false := by simp_all
       have st := st.nil 75
       have hM : preemptM (xpt X) n o = ⟨2, 9216, [], xpt X⟩ := by unfold preemptM; rw [if_neg hc1, if_pos hc2]
       rw [hM]
       exact ⟨X, none, rfl, hX, rfl, st.sel [2, 0] (by decide)⟩
      ·have h82n : typeB o.ty = true := Eq.mp (Bool.not_eq_false' _) h82
       show AWl _ _ _ _ _
       have hc2 : ¬ ((heldB (xpt X) o || pallB (xpt X) o) = true ∧ typeB o.ty = false) := by simp_all
       refine aN rfl rfl (by constructor) ?_
       refine aLd st 0 rfl rfl rfl (by constructor) ?_
       refine aN rfl rfl (by constructor) ?_
       refine aMovV (.bool false) (congrArg Value.bool h60) ?_
       refine sE ?_
       refine AW_cutK (b := .seq (.seq (.list (⟨some 94, _, _⟩ :: _)) _) _) (fun t1 H1 => t1 10 = .bool ((o.act == 0) || (xr X.ks).any fun r => r.2 == o.act) ∧ Stt [b] H H1 [⟨some b5, true, ⟨true, 72, [.int .i64 o.sv, .int .i64 o.ty, .int .u64 o.key, .int .u64 o.act, .bool o.ap]⟩⟩, ⟨some b, true, ⟨true, 65, k8 X.ks [.int .i64 X.kd, .int .i64 X.hd, .int .u32 X.gen, .bool X.ls]⟩⟩]) [10, 11, 81, 82, 83, 84, 85, 86, 87, 88, 89, 90, 91, 92, 93] (by decide) ?_ fun t1 H1 hk hI => ?_
       ·show AWl _ _ _ _ _
        refine aN rfl rfl (by constructor) ?_
        refine sE ?_
        show AW _ (.loop _) _ _ _
        refine AW_loopN (fun m t1 H1 => ∃ (j : Nat), m = 8 - j ∧ (j ≤ 8) ∧ t1 11 = .int .i64 (j : Int) ∧ t1 10 = .bool ((o.act == 0) || (List.range j).any (fun i => X.ks.getD i 0 == o.act)) ∧ Stt [b] H H1 [⟨some b5, true, ⟨true, 72, [.int .i64 o.sv, .int .i64 o.ty, .int .u64 o.key, .int .u64 o.act, .bool o.ap]⟩⟩, ⟨some b, true, ⟨true, 65, k8 X.ks [.int .i64 X.kd, .int .i64 X.hd, .int .u32 X.gen, .bool X.ls]⟩⟩]) (8 - 0) ⟨0, rfl, by omega, rfl, congrArg Value.bool (by first | (simp; done) | simp_all), (st.sel [0, 1] (by decide))⟩ [10, 11, 81, 82, 83, 84, 85, 86, 87, 88, 89, 90, 91, 92, 93] (by decide) ?_
        rintro m t1 H1 hk hI
        obtain ⟨j, rfl, hj, ht11, ht10, st⟩ := hI
        obtain ⟨u, rfl⟩ : ∃ u, t1 = (upd (upd (mix [10, 11, 81, 82, 83, 84, 85, 86, 87, 88, 89, 90, 91, 92, 93] _ u) (some 11) _) (some 10) _) := ⟨t1, by rw [← hk, upd_self ht11, upd_self ht10]⟩
        clear hk ht11 ht10
        show AWl _ _ _ _ _
        iterate 2 refine aN rfl rfl (by constructor) ?_
        refine sE ?_
        show AW _ (.cond _ _ _) _ _ _
        refine cC' rfl (fun h83 => ?_) (fun h83 => ?_)
        ·have hlt : j < 8 := by have := of_decide_eq_true h83; omega
         show AWp _ _ _ _ _
         iterate 4 refine aN rfl rfl (by constructor) ?_
         refine aIxA rfl rfl (by omega) ?_
         refine aLd st 1 rfl rfl (k8_at X.ks _ (by omega)) (by constructor) ?_
         refine aN rfl rfl (by constructor) ?_
         refine aLd st 0 rfl rfl rfl (by constructor) ?_
         refine aN rfl rfl (by constructor) ?_
         refine pE ?_
         show AW _ (.cond _ _ _) _ _ _
         refine cC' rfl (fun h84 => ?_) (fun h84 => ?_)
         ·show AWl _ _ _ _ _
          refine aN rfl rfl (by constructor) ?_
          refine sE ?_
          show AWl _ _ _ _ _
          iterate 3 refine aN rfl rfl (by constructor) ?_
          refine sE ?_
          exact ⟨_, by omega, j + 1, rfl, by omega, congrArg (Value.int .i64) (wi _ (by omega)), congrArg Value.bool (by rw [any_range]; show _ = (_ || (_ || (X.ks.getD j 0 == o.act))); rw [show (X.ks.getD j 0 == o.act) = true from h84]; simp), (st.sel [0, 1] (by decide))⟩
         ·show AWl _ _ _ _ _
          iterate 3 refine aN rfl rfl (by constructor) ?_
          refine sE ?_
          exact ⟨_, by omega, j + 1, rfl, by omega, congrArg (Value.int .i64) (wi _ (by omega)), congrArg Value.bool (by rw [any_range]; show _ = (_ || (_ || (X.ks.getD j 0 == o.act))); rw [show (X.ks.getD j 0 == o.act) = false from h84]; simp), (st.sel [0, 1] (by decide))⟩
        ·have hge : j = 8 := by have := of_decide_eq_false h83; omega
         subst hge
         exact ⟨congrArg Value.bool (any_act X.ks o), (st.sel [0, 1] (by decide))⟩
       ·obtain ⟨ht10, st⟩ := hI
        obtain ⟨u, rfl⟩ : ∃ u, t1 = (upd (mix [10, 11, 81, 82, 83, 84, 85, 86, 87, 88, 89, 90, 91, 92, 93] _ u) (some 10) _) := ⟨t1, by rw [← hk, upd_self ht10]⟩
        clear hk ht10
        show AWl _ _ _ _ _
        iterate 2 refine aN rfl rfl (by constructor) ?_
        refine sE ?_
        show AW _ (.cond _ _ _) _ _ _
        refine cC' rfl (fun h85 => ?_) (fun h85 => ?_)
        ·have h85n : ((o.act == 0) || (xr X.ks).any fun r => r.2 == o.act) = false := Eq.mp (Bool.not_eq_true' _) h85
         show AWl _ _ _ _ _
         iterate 3 refine aN rfl rfl (by constructor) ?_
         refine sE ?_
         refine ⟨_, out3 (r_tmp rfl (by constructor)) (r_tmp rfl (by constructor)) (r_tmp rfl (by constructor)) ⟨rfl, rfl, rfl⟩, ?_⟩
         have hc3 : ((xpt X).regs.any fun r => r.2 == o.act) = false ∧ pallB (xpt X) o = false := pre_c3b hp h85n
         have st := st.nil 75
         have hM : preemptM (xpt X) n o = ⟨24, 0, [], xpt X⟩ := by unfold preemptM; rw [if_neg hc1, if_neg hc2, if_pos hc3]
         rw [hM]
         exact ⟨X, none, rfl, hX, rfl, st.sel [2, 0] (by decide)⟩
        ·have h85n : ((o.act == 0) || (xr X.ks).any fun r => r.2 == o.act) = true := Eq.mp (Bool.not_eq_false' _) h85
         show AWl _ _ _ _ _
         have hc3 : ¬ (((xpt X).regs.any fun r => r.2 == o.act) = false ∧ pallB (xpt X) o = false) := pre_c3 hp h85n
         refine aN rfl rfl (by constructor) ?_
         refine sE ?_
         refine AW_cutK (b := .seq (.seq (.list (⟨some 138, _, _⟩ :: _)) _) _) (fun t1 H1 => ∃ (oe : Option Nat), t1 12 = accV oe (goneE (xpt X) n o).length 2 ∧ Stt [b] H H1 [⟨oe, true, ⟨true, 75, (goneE (xpt X) n o).flatMap ev2E⟩⟩, ⟨some b5, true, ⟨true, 72, [.int .i64 o.sv, .int .i64 o.ty, .int .u64 o.key, .int .u64 o.act, .bool o.ap]⟩⟩, ⟨some b, true, ⟨true, 65, k8 (zk X.ks n o 8) [.int .i64 X.kd, .int .i64 X.hd, .int .u32 X.gen, .bool X.ls]⟩⟩]) [12, 13, 96, 97, 98, 99, 100, 101, 102, 103, 104, 105, 106, 107, 108, 109, 110, 111, 112, 113, 114, 115, 116, 117, 118, 119, 120, 121, 122, 123, 124, 125, 126, 127, 128, 129, 130, 131, 132, 133, 134, 135, 136, 137] (by decide) ?_ fun t1 H1 hk hI => ?_
         ·show AWl _ _ _ _ _
          refine aN rfl rfl (by constructor) ?_
          refine sE ?_
          show AW _ (.loop _) _ _ _
          have st := st.nil 75
          refine AW_loopN (fun m t1 H1 => ∃ (j : Nat) (oc : Option Nat), m = 8 - j ∧ (j ≤ 8) ∧ t1 13 = .int .i64 (j : Int) ∧ t1 12 = accV oc (goneTo X n o j).length 2 ∧ Stt [b] H H1 [⟨oc, true, ⟨true, 75, ((goneTo X n o j)).flatMap ev2E⟩⟩, ⟨some b5, true, ⟨true, 72, [.int .i64 o.sv, .int .i64 o.ty, .int .u64 o.key, .int .u64 o.act, .bool o.ap]⟩⟩, ⟨some b, true, ⟨true, 65, k8 (zk X.ks n o j) [.int .i64 X.kd, .int .i64 X.hd, .int .u32 X.gen, .bool X.ls]⟩⟩]) (8 - 0) ⟨0, none, rfl, by omega, rfl, rfl, (st.sel [0, 1, 2] (by decide))⟩ [12, 13, 96, 97, 98, 99, 100, 101, 102, 103, 104, 105, 106, 107, 108, 109, 110, 111, 112, 113, 114, 115, 116, 117, 118, 119, 120, 121, 122, 123, 124, 125, 126, 127, 128, 129, 130, 131, 132, 133, 134, 135, 136, 137] (by decide) ?_
          rintro m t1 H1 hk hI
          obtain ⟨j, oc, rfl, hj, ht13, ht12, st⟩ := hI
          obtain ⟨u, rfl⟩ : ∃ u, t1 = (upd (upd (mix [12, 13, 96, 97, 98, 99, 100, 101, 102, 103, 104, 105, 106, 107, 108, 109, 110, 111, 112, 113, 114, 115, 116, 117, 118, 119, 120, 121, 122, 123, 124, 125, 126, 127, 128, 129, 130, 131, 132, 133, 134, 135, 136, 137] _ u) (some 13) _) (some 12) _) := ⟨t1, by rw [← hk, upd_self ht13, upd_self ht12]⟩
          clear hk ht13 ht12
          show AWl _ _ _ _ _
          iterate 2 refine aN rfl rfl (by constructor) ?_
          refine sE ?_
          show AW _ (.cond _ _ _) _ _ _
          refine cC' rfl (fun h86 => ?_) (fun h86 => ?_)
          ·have hlt : j < 8 := by have := of_decide_eq_true h86; omega
           show AWp _ _ _ _ _
           iterate 4 refine aN rfl rfl (by constructor) ?_
           refine gCase 103 rfl (fun h87 => ?_) (fun h87 => ?_)
           ·refine gT rfl ?_
            refine aN rfl rfl (by constructor) ?_
            refine gT rfl ?_
            refine aN rfl rfl (by constructor) ?_
            refine gT rfl ?_
            refine aN rfl rfl (by constructor) ?_
            refine gT rfl ?_
            refine aN rfl rfl (by constructor) ?_
            refine gT rfl ?_
            refine aIxA rfl rfl (by omega) ?_
            refine gT rfl ?_
            refine aLd st 2 rfl rfl (k8_at (zk X.ks n o j) _ (by omega)) (by constructor) ?_
            rw [show (zk X.ks n o j).getD ((j : Int)).toNat 0 = X.ks.getD j 0 from zk_at n o (by rw [hX.len]; omega)]
            refine gT rfl ?_
            iterate 3 refine aN rfl rfl (by constructor) ?_
            refine gCase 112 rfl (fun h88 => ?_) (fun h88 => ?_)
            ·refine gT rfl ?_
             refine aN rfl rfl (by constructor) ?_
             refine gT rfl ?_
             refine aLd st 1 rfl rfl rfl (by constructor) ?_
             refine gT rfl ?_
             refine aN rfl rfl (by constructor) ?_
             refine gT rfl ?_
             refine aMovV (.bool false) (congrArg Value.bool h60) ?_
             refine gT rfl ?_
             refine aN rfl rfl (by constructor) ?_
             refine gT rfl ?_
             refine aN rfl rfl (by constructor) ?_
             refine gT rfl ?_
             refine aN rfl rfl (by constructor) ?_
             refine gT rfl ?_
             refine aN rfl rfl (by constructor) ?_
             refine gT rfl ?_
             refine aIxA rfl rfl (by omega) ?_
             refine gT rfl ?_
             refine aLd st 2 rfl rfl (k8_at (zk X.ks n o j) _ (by omega)) (by constructor) ?_
             rw [show (zk X.ks n o j).getD ((j : Int)).toNat 0 = X.ks.getD j 0 from zk_at n o (by rw [hX.len]; omega)]
             refine gT rfl ?_
             refine aN rfl rfl (by constructor) ?_
             refine gT rfl ?_
             refine aLd st 1 rfl rfl rfl (by constructor) ?_
             refine gT rfl ?_
             refine aN rfl rfl (by constructor) ?_
             refine gT rfl ?_
             iterate 2 refine aN rfl rfl (by constructor) ?_
             refine pE ?_
             show AW _ (.cond _ _ _) _ _ _
             refine cC' rfl (fun h89 => ?_) (fun h89 => ?_)
             ·show AWl _ _ _ _ _
              have hg : goes n o j (X.ks.getD j 0) = true := by unfold goes; simp only [h87, h88, h60, h89, Bool.and_true, Bool.true_and, Bool.false_and, Bool.and_false, Bool.or_true, Bool.true_or, Bool.false_or, Bool.or_false]
              have ho2 : (goneTo X n o (j + 1)) = (goneTo X n o j) ++ [((j : Int), 10757)] := gone_t hp hg
              have hz2 : zk X.ks n o (j + 1) = (zk X.ks n o j).set j 0 := if_pos hg
              iterate 4 refine aN rfl rfl (by constructor) ?_
              refine aIxA rfl rfl (by omega) ?_
              refine aStAt (u := .int .u64 0) (cs := k8 ((zk X.ks n o j).set j 0) [.int .i64 X.kd, .int .i64 X.hd, .int .u32 X.gen, .bool X.ls]) st 2 rfl rfl rfl rfl rfl (by show 0 + ((j : Int)).toNat * 1 < 12; omega) (k8_set (n := (j : Int)) (by rw [zk_len]; exact hX.len) _ (by omega)) fun H90 st => ?_
              refine sE ?_
              show AWl _ _ _ _ _
              refine aMovA rfl ?_
              refine aN rfl rfl (by constructor) ?_
              refine aBld rfl (by repeat constructor) ?_
              refine aLit st rfl (by repeat constructor) fun b136 H91 st => ?_
              refine aApp st 1 (ob := oc) rfl rfl rfl (by decide) (by exact flat_len' ev2E_len _) (st.rowAll 0 rfl (by first | rfl | (simp [beB_len, *]; done) | (simp [beB_len, *]; omega))).src (by first | rfl | simp) (by have := gone_len X n o j; omega) (by have := gone_len X n o j; omega) fun b137 H92 hp137 st => ?_
              have st := st.recell 1 rfl (cs' := (goneTo X n o (j + 1)).flatMap ev2E) (flat_snoc ho2 rfl)
              have hc3 : ¬ (((xpt X).regs.any fun r => r.2 == o.act) = false ∧ pallB (xpt X) o = false) := pre_c3 hp h85n
              refine aMovA rfl ?_
              refine sE ?_
              show AWl _ _ _ _ _
              iterate 3 refine aN rfl rfl (by constructor) ?_
              refine sE ?_
              have st := st.recell 3 rfl (cs' := k8 (zk X.ks n o (j + 1)) [.int .i64 X.kd, .int .i64 X.hd, .int .u32 X.gen, .bool X.ls]) (by rw [hz2])
              exact ⟨_, by omega, j + 1, b137, rfl, by omega, congrArg (Value.int .i64) (wi _ (by omega)), congrArg (fun n => accV _ n 2) (len_snoc ho2), (st.sel [1, 2, 3] (by decide))⟩
             ·show AWl _ _ _ _ _
              iterate 3 refine aN rfl rfl (by constructor) ?_
              refine sE ?_
              have hg : goes n o j (X.ks.getD j 0) = false := by unfold goes; simp only [h87, h88, h60, h89, Bool.and_true, Bool.true_and, Bool.false_and, Bool.and_false, Bool.or_true, Bool.true_or, Bool.false_or, Bool.or_false]
              have ho2 : (goneTo X n o (j + 1)) = (goneTo X n o j) := gone_f hp hg
              have hz2 : zk X.ks n o (j + 1) = zk X.ks n o j := if_neg (by rw [hg]; decide)
              have st := st.recell 0 rfl (cs' := (goneTo X n o (j + 1)).flatMap ev2E) (by rw [ho2])
              have st := st.recell 2 rfl (cs' := k8 (zk X.ks n o (j + 1)) [.int .i64 X.kd, .int .i64 X.hd, .int .u32 X.gen, .bool X.ls]) (by rw [hz2])
              exact ⟨_, by omega, j + 1, oc, rfl, by omega, congrArg (Value.int .i64) (wi _ (by omega)), congrArg (fun n => accV _ n 2) (congrArg List.length ho2.symm), (st.sel [0, 1, 2] (by decide))⟩
            ·refine gF rfl (by decide) ?_
             refine gF rfl (by decide) ?_
             refine gF rfl (by decide) ?_
             refine gF rfl (by decide) ?_
             refine gU rfl ?_
             refine gU rfl ?_
             refine gU rfl ?_
             refine gU rfl ?_
             refine gU rfl ?_
             refine gU rfl ?_
             refine gU rfl ?_
             refine gU rfl ?_
             refine gU rfl ?_
             refine gF rfl (by decide) ?_
             refine aN rfl rfl (by constructor) ?_
             refine pE ?_
             show AW _ (.cond _ _ _) _ _ _
             refine cF' rfl ?_
             show AWl _ _ _ _ _
             iterate 3 refine aN rfl rfl (by constructor) ?_
             refine sE ?_
             have hg : goes n o j (X.ks.getD j 0) = false := by unfold goes; simp only [h87, h88, h60, Bool.and_true, Bool.true_and, Bool.false_and, Bool.and_false, Bool.or_true, Bool.true_or, Bool.false_or, Bool.or_false]
             have ho2 : (goneTo X n o (j + 1)) = (goneTo X n o j) := gone_f hp hg
             have hz2 : zk X.ks n o (j + 1) = zk X.ks n o j := if_neg (by rw [hg]; decide)
             have st := st.recell 0 rfl (cs' := (goneTo X n o (j + 1)).flatMap ev2E) (by rw [ho2])
             have st := st.recell 2 rfl (cs' := k8 (zk X.ks n o (j + 1)) [.int .i64 X.kd, .int .i64 X.hd, .int .u32 X.gen, .bool X.ls]) (by rw [hz2])
             exact ⟨_, by omega, j + 1, oc, rfl, by omega, congrArg (Value.int .i64) (wi _ (by omega)), congrArg (fun n => accV _ n 2) (congrArg List.length ho2.symm), (st.sel [0, 1, 2] (by decide))⟩
           ·refine gF rfl (by decide) ?_
            refine gF rfl (by decide) ?_
            refine gF rfl (by decide) ?_
            refine gF rfl (by decide) ?_
            refine gF rfl (by decide) ?_
            refine gF rfl (by decide) ?_
            refine gF rfl (by decide) ?_
            iterate 2 refine aN rfl rfl (by constructor) ?_
            refine gF rfl (by decide) ?_
            refine gF rfl (by decide) ?_
            refine gF rfl (by decide) ?_
            refine gF rfl (by decide) ?_
            refine gU rfl ?_
            refine gU rfl ?_
            refine gU rfl ?_
            refine gU rfl ?_
            refine gU rfl ?_
            refine gU rfl ?_
            refine gU rfl ?_
            refine gU rfl ?_
            refine gU rfl ?_
            refine gF rfl (by decide) ?_
            refine aN rfl rfl (by constructor) ?_
            refine pE ?_
            show AW _ (.cond _ _ _) _ _ _
            refine cF' rfl ?_
            show AWl _ _ _ _ _
            iterate 3 refine aN rfl rfl (by constructor) ?_
            refine sE ?_
            have hg : goes n o j (X.ks.getD j 0) = false := by unfold goes; simp only [h87, h60, Bool.and_true, Bool.true_and, Bool.false_and, Bool.and_false, Bool.or_true, Bool.true_or, Bool.false_or, Bool.or_false]
            have ho2 : (goneTo X n o (j + 1)) = (goneTo X n o j) := gone_f hp hg
            have hz2 : zk X.ks n o (j + 1) = zk X.ks n o j := if_neg (by rw [hg]; decide)
            have st := st.recell 0 rfl (cs' := (goneTo X n o (j + 1)).flatMap ev2E) (by rw [ho2])
            have st := st.recell 2 rfl (cs' := k8 (zk X.ks n o (j + 1)) [.int .i64 X.kd, .int .i64 X.hd, .int .u32 X.gen, .bool X.ls]) (by rw [hz2])
            exact ⟨_, by omega, j + 1, oc, rfl, by omega, congrArg (Value.int .i64) (wi _ (by omega)), congrArg (fun n => accV _ n 2) (congrArg List.length ho2.symm), (st.sel [0, 1, 2] (by decide))⟩
          ·have hge : j = 8 := by have := of_decide_eq_false h86; omega
           subst hge
           exact ⟨oc, rfl, (st.sel [0, 1, 2] (by decide))⟩
         ·obtain ⟨oe, ht12, st⟩ := hI
          obtain ⟨u, rfl⟩ : ∃ u, t1 = (upd (mix [12, 13, 96, 97, 98, 99, 100, 101, 102, 103, 104, 105, 106, 107, 108, 109, 110, 111, 112, 113, 114, 115, 116, 117, 118, 119, 120, 121, 122, 123, 124, 125, 126, 127, 128, 129, 130, 131, 132, 133, 134, 135, 136, 137] _ u) (some 12) _) := ⟨t1, by rw [← hk, upd_self ht12]⟩
          clear hk ht12
          refine AW_cutK (b := .seq (.list (⟨some 165, _, _⟩ :: _)) _) (fun t1 H1 => ∃ (oe : Option Nat), t1 12 = accV oe (goneE (xpt X) n o ++ relE (xpt X) n o).length 2 ∧ Stt [b] H H1 [⟨oe, true, ⟨true, 75, (goneE (xpt X) n o ++ relE (xpt X) n o).flatMap ev2E⟩⟩, ⟨some b, true, ⟨true, 65, k8 (zk X.ks n o 8) [.int .i64 (if (heldB (xpt X) o || pallB (xpt X) o) = true then o.ty else X.kd), .int .i64 (if (heldB (xpt X) o || pallB (xpt X) o) = true then n else X.hd), .int .u32 X.gen, .bool X.ls]⟩⟩]) [12, 14, 138, 139, 140, 141, 142, 143, 144, 145, 146, 147, 148, 149, 150, 151, 152, 153, 154, 155, 156, 157, 158, 159, 160, 161, 162, 163, 164] (by decide) ?_ fun t1 H1 hk hI => ?_
          ·show AWl _ _ _ _ _
           refine aMovV (.bool true) (congrArg Value.bool h80) ?_
           refine sE ?_
           show AW _ (.cond _ _ _) _ _ _
           refine cT rfl ?_
           show AWl _ _ _ _ _
           iterate 3 refine aN rfl rfl (by constructor) ?_
           refine aLd st 2 rfl rfl rfl (by constructor) ?_
           refine aN rfl rfl (by constructor) ?_
           refine sE ?_
           show AWl _ _ _ _ _
           iterate 2 refine aN rfl rfl (by constructor) ?_
           refine aLd st 1 rfl rfl rfl (by constructor) ?_
           iterate 2 refine aN rfl rfl (by constructor) ?_
           refine aSt st 2 rfl rfl rfl rfl (by first | rfl | simp [cellsOf, *]) (by first | decide | (simp [*]; done) | (simp [k8]; done)) (by repeat constructor) fun H93 st => ?_
           refine sE ?_
           show AWl _ _ _ _ _
           iterate 4 refine aN rfl rfl (by constructor) ?_
           refine aSt st 2 rfl rfl rfl rfl (by first | rfl | simp [cellsOf, *]) (by first | decide | (simp [*]; done) | (simp [k8]; done)) (by repeat constructor) fun H94 st => ?_
           refine sE ?_
           show AWl _ _ _ _ _
           iterate 3 refine aN rfl rfl (by constructor) ?_
           refine gCase 154 rfl (fun h95 => ?_) (fun h95 => ?_)
           ·refine gT rfl ?_
            refine aN rfl rfl (by constructor) ?_
            refine gT rfl ?_
            refine aN rfl rfl (by constructor) ?_
            refine gT rfl ?_
            refine aLd st 1 rfl rfl rfl (by constructor) ?_
            refine gT rfl ?_
            iterate 2 refine aN rfl rfl (by constructor) ?_
            refine sE ?_
            show AW _ (.cond _ _ _) _ _ _
            refine cC' rfl (fun h96 => ?_) (fun h96 => ?_)
            ·show AWl _ _ _ _ _
             have hb1 : (goneE (xpt X) n o).length ≤ 8 := gone_len X n o 8
             have hb2 : (othersM (zk X.ks n o 8) n 10756).length ≤ 8 := oth_len (zk X.ks n o 8) n 10756 8
             refine aMovA rfl ?_
             iterate 2 refine aN rfl rfl (by constructor) ?_
             refine aC (others_call (X := ({ ks := (zk X.ks n o 8), kd := o.ty, hd := n, gen := X.gen, ls := X.ls } : XT)) (but := n) (code := 10756) (st.get (j := 2) rfl)) fun v163 H97 ⟨oe163, hv, st1⟩ => ?_
             subst hv
             replace st := st.call st1 rfl
             clear st1
             rw [show othersM ({ ks := (zk X.ks n o 8), kd := o.ty, hd := n, gen := X.gen, ls := X.ls } : XT).ks n 10756 = othersM (zk X.ks n o 8) n 10756 from rfl] at st ⊢
             refine aApp st 1 (ob := oe) rfl rfl rfl (by decide) (by exact flat_len' ev2E_len _) (st.rowAcc 0 rfl (by decide) (by exact flat_len' ev2E_len _)).src (by exact flat_len' ev2E_len _) (by omega) (by omega) fun b164 H98 hp164 st => ?_
             have hc3 : ¬ (((xpt X).regs.any fun r => r.2 == o.act) = false ∧ pallB (xpt X) o = false) := pre_c3 hp h85n
             refine aMovA rfl ?_
             refine sE ?_
             have hK : (if (heldB (xpt X) o || pallB (xpt X) o) = true then o.ty else X.kd) = o.ty := if_pos h80
             have hD : (if (heldB (xpt X) o || pallB (xpt X) o) = true then n else X.hd) = n := if_pos h80
             have hR : relE (xpt X) n o = othersM (zk X.ks n o 8) n 10756 := by unfold relE othersM; rw [if_pos ⟨h80, by simp_all [xpt], by simp_all [xpt]⟩, xr_zk hX.len hp]
             have st2 := st.sel [1, 3] (by decide)
             exact ⟨b164, (by rw [hR, List.length_append] <;> rfl), by rw [hR, hK, hD, List.flatMap_append]; exact st2⟩
            ·have hK : (if (heldB (xpt X) o || pallB (xpt X) o) = true then o.ty else X.kd) = o.ty := if_pos h80
             have hD : (if (heldB (xpt X) o || pallB (xpt X) o) = true then n else X.hd) = n := if_pos h80
             have hR : relE (xpt X) n o = [] := if_neg (fun hc => by have h1 := hc.2.1; have h2 := hc.2.2; simp_all [xpt] <;> omega)
             have st2 := st.sel [0, 2] (by decide)
             exact ⟨oe, (by rw [hR, List.append_nil] <;> rfl), by rw [hR, hK, hD, List.append_nil]; exact st2⟩
           ·refine gF rfl (by decide) ?_
            refine gF rfl (by decide) ?_
            refine gF rfl (by decide) ?_
            refine gF rfl (by decide) ?_
            refine aN rfl rfl (by constructor) ?_
            refine sE ?_
            show AW _ (.cond _ _ _) _ _ _
            refine cF' rfl ?_
            have hK : (if (heldB (xpt X) o || pallB (xpt X) o) = true then o.ty else X.kd) = o.ty := if_pos h80
            have hD : (if (heldB (xpt X) o || pallB (xpt X) o) = true then n else X.hd) = n := if_pos h80
            have hR : relE (xpt X) n o = [] := if_neg (fun hc => by have h1 := hc.2.1; have h2 := hc.2.2; simp_all [xpt] <;> omega)
            have st2 := st.sel [0, 2] (by decide)
            exact ⟨oe, (by rw [hR, List.append_nil] <;> rfl), by rw [hR, hK, hD, List.append_nil]; exact st2⟩
          ·obtain ⟨oe, ht12, st⟩ := hI
           obtain ⟨u, rfl⟩ : ∃ u, t1 = (upd (mix [12, 14, 138, 139, 140, 141, 142, 143, 144, 145, 146, 147, 148, 149, 150, 151, 152, 153, 154, 155, 156, 157, 158, 159, 160, 161, 162, 163, 164] _ u) (some 12) _) := ⟨t1, by rw [← hk, upd_self ht12]⟩
           clear hk ht12
           show AWl _ _ _ _ _
           iterate 3 refine aN rfl rfl (by constructor) ?_
           refine aLd st 1 rfl rfl rfl (by constructor) ?_
           iterate 3 refine aN rfl rfl (by constructor) ?_
           refine aSt st 1 rfl rfl rfl rfl (by first | rfl | simp [cellsOf, *]) (by first | decide | (simp [*]; done) | (simp [k8]; done)) (by repeat constructor) fun H99 st => ?_
           refine sE ?_
           show AWl _ _ _ _ _
           refine aMovA rfl ?_
           iterate 2 refine aN rfl rfl (by constructor) ?_
           refine aMovA rfl ?_
           refine sE ?_
           refine ⟨_, out3 (r_tmp rfl (by constructor)) (r_tmp rfl (by constructor)) (r_acc rfl) ⟨rfl, rfl, notTup_acc⟩, ?_⟩
           have hM : preemptM (xpt X) n o = ⟨0, 0, goneE (xpt X) n o ++ relE (xpt X) n o, { xpt X with regs := leftM (xpt X) n o, kind := (if (heldB (xpt X) o || pallB (xpt X) o) = true then o.ty else X.kd), holder := if (heldB (xpt X) o || pallB (xpt X) o) = true then n else (xpt X).holder, gen := inc32 X.gen }⟩ := by unfold preemptM; rw [if_neg hc1, if_neg hc2, if_neg hc3]; rfl
           rw [hM]
           exact ⟨({ ks := (zk X.ks n o 8), kd := (if (heldB (xpt X) o || pallB (xpt X) o) = true then o.ty else X.kd), hd := (if (heldB (xpt X) o || pallB (xpt X) o) = true then n else X.hd), gen := inc32 X.gen, ls := X.ls } : XT), oe, rfl, zk_ok hX (ite_bd hty hX.kd) (ite_bd hn hX.hd), pre_tab hX hp hc2, st.sel [1, 0] (by decide)⟩
     ·refine gF rfl (by decide) ?_
      refine gF rfl (by decide) ?_
      refine gF rfl (by decide) ?_
      refine gF rfl (by decide) ?_
      refine aN rfl rfl (by constructor) ?_
      refine sE ?_
      show AW _ (.cond _ _ _) _ _ _
      refine cF' rfl ?_
      show AWl _ _ _ _ _
      have hc2 : ¬ ((heldB (xpt X) o || pallB (xpt X) o) = true ∧ typeB o.ty = false) := by simp_all
      refine aN rfl rfl (by constructor) ?_
      refine aLd st 0 rfl rfl rfl (by constructor) ?_
      refine aN rfl rfl (by constructor) ?_
      refine aMovV (.bool false) (congrArg Value.bool h60) ?_
      refine sE ?_
      refine AW_cutK (b := .seq (.seq (.list (⟨some 94, _, _⟩ :: _)) _) _) (fun t1 H1 => t1 10 = .bool ((o.act == 0) || (xr X.ks).any fun r => r.2 == o.act) ∧ Stt [b] H H1 [⟨some b5, true, ⟨true, 72, [.int .i64 o.sv, .int .i64 o.ty, .int .u64 o.key, .int .u64 o.act, .bool o.ap]⟩⟩, ⟨some b, true, ⟨true, 65, k8 X.ks [.int .i64 X.kd, .int .i64 X.hd, .int .u32 X.gen, .bool X.ls]⟩⟩]) [10, 11, 81, 82, 83, 84, 85, 86, 87, 88, 89, 90, 91, 92, 93] (by decide) ?_ fun t1 H1 hk hI => ?_
      ·show AWl _ _ _ _ _
       refine aN rfl rfl (by constructor) ?_
       refine sE ?_
       show AW _ (.loop _) _ _ _
       refine AW_loopN (fun m t1 H1 => ∃ (j : Nat), m = 8 - j ∧ (j ≤ 8) ∧ t1 11 = .int .i64 (j : Int) ∧ t1 10 = .bool ((o.act == 0) || (List.range j).any (fun i => X.ks.getD i 0 == o.act)) ∧ Stt [b] H H1 [⟨some b5, true, ⟨true, 72, [.int .i64 o.sv, .int .i64 o.ty, .int .u64 o.key, .int .u64 o.act, .bool o.ap]⟩⟩, ⟨some b, true, ⟨true, 65, k8 X.ks [.int .i64 X.kd, .int .i64 X.hd, .int .u32 X.gen, .bool X.ls]⟩⟩]) (8 - 0) ⟨0, rfl, by omega, rfl, congrArg Value.bool (by first | (simp; done) | simp_all), (st.sel [0, 1] (by decide))⟩ [10, 11, 81, 82, 83, 84, 85, 86, 87, 88, 89, 90, 91, 92, 93] (by decide) ?_
       rintro m t1 H1 hk hI
       obtain ⟨j, rfl, hj, ht11, ht10, st⟩ := hI
       obtain ⟨u, rfl⟩ : ∃ u, t1 = (upd (upd (mix [10, 11, 81, 82, 83, 84, 85, 86, 87, 88, 89, 90, 91, 92, 93] _ u) (some 11) _) (some 10) _) := ⟨t1, by rw [← hk, upd_self ht11, upd_self ht10]⟩
       clear hk ht11 ht10
       show AWl _ _ _ _ _
       iterate 2 refine aN rfl rfl (by constructor) ?_
       refine sE ?_
       show AW _ (.cond _ _ _) _ _ _
       refine cC' rfl (fun h100 => ?_) (fun h100 => ?_)
       ·have hlt : j < 8 := by have := of_decide_eq_true h100; omega
        show AWp _ _ _ _ _
        iterate 4 refine aN rfl rfl (by constructor) ?_
        refine aIxA rfl rfl (by omega) ?_
        refine aLd st 1 rfl rfl (k8_at X.ks _ (by omega)) (by constructor) ?_
        refine aN rfl rfl (by constructor) ?_
        refine aLd st 0 rfl rfl rfl (by constructor) ?_
        refine aN rfl rfl (by constructor) ?_
        refine pE ?_
        show AW _ (.cond _ _ _) _ _ _
        refine cC' rfl (fun h101 => ?_) (fun h101 => ?_)
        ·show AWl _ _ _ _ _
         refine aN rfl rfl (by constructor) ?_
         refine sE ?_
         show AWl _ _ _ _ _
         iterate 3 refine aN rfl rfl (by constructor) ?_
         refine sE ?_
         exact ⟨_, by omega, j + 1, rfl, by omega, congrArg (Value.int .i64) (wi _ (by omega)), congrArg Value.bool (by rw [any_range]; show _ = (_ || (_ || (X.ks.getD j 0 == o.act))); rw [show (X.ks.getD j 0 == o.act) = true from h101]; simp), (st.sel [0, 1] (by decide))⟩
        ·show AWl _ _ _ _ _
         iterate 3 refine aN rfl rfl (by constructor) ?_
         refine sE ?_
         exact ⟨_, by omega, j + 1, rfl, by omega, congrArg (Value.int .i64) (wi _ (by omega)), congrArg Value.bool (by rw [any_range]; show _ = (_ || (_ || (X.ks.getD j 0 == o.act))); rw [show (X.ks.getD j 0 == o.act) = false from h101]; simp), (st.sel [0, 1] (by decide))⟩
       ·have hge : j = 8 := by have := of_decide_eq_false h100; omega
        subst hge
        exact ⟨congrArg Value.bool (any_act X.ks o), (st.sel [0, 1] (by decide))⟩
      ·obtain ⟨ht10, st⟩ := hI
       obtain ⟨u, rfl⟩ : ∃ u, t1 = (upd (mix [10, 11, 81, 82, 83, 84, 85, 86, 87, 88, 89, 90, 91, 92, 93] _ u) (some 10) _) := ⟨t1, by rw [← hk, upd_self ht10]⟩
       clear hk ht10
       show AWl _ _ _ _ _
       iterate 2 refine aN rfl rfl (by constructor) ?_
       refine sE ?_
       show AW _ (.cond _ _ _) _ _ _
       refine cC' rfl (fun h102 => ?_) (fun h102 => ?_)
       ·have h102n : ((o.act == 0) || (xr X.ks).any fun r => r.2 == o.act) = false := Eq.mp (Bool.not_eq_true' _) h102
        show AWl _ _ _ _ _
        iterate 3 refine aN rfl rfl (by constructor) ?_
        refine sE ?_
        refine ⟨_, out3 (r_tmp rfl (by constructor)) (r_tmp rfl (by constructor)) (r_tmp rfl (by constructor)) ⟨rfl, rfl, rfl⟩, ?_⟩
        have hc3 : ((xpt X).regs.any fun r => r.2 == o.act) = false ∧ pallB (xpt X) o = false := pre_c3b hp h102n
        have st := st.nil 75
        have hM : preemptM (xpt X) n o = ⟨24, 0, [], xpt X⟩ := by unfold preemptM; rw [if_neg hc1, if_neg hc2, if_pos hc3]
        rw [hM]
        exact ⟨X, none, rfl, hX, rfl, st.sel [2, 0] (by decide)⟩
       ·have h102n : ((o.act == 0) || (xr X.ks).any fun r => r.2 == o.act) = true := Eq.mp (Bool.not_eq_false' _) h102
        show AWl _ _ _ _ _
        have hc3 : ¬ (((xpt X).regs.any fun r => r.2 == o.act) = false ∧ pallB (xpt X) o = false) := pre_c3 hp h102n
        refine aN rfl rfl (by constructor) ?_
        refine sE ?_
        refine AW_cutK (b := .seq (.seq (.list (⟨some 138, _, _⟩ :: _)) _) _) (fun t1 H1 => ∃ (oe : Option Nat), t1 12 = accV oe (goneE (xpt X) n o).length 2 ∧ Stt [b] H H1 [⟨oe, true, ⟨true, 75, (goneE (xpt X) n o).flatMap ev2E⟩⟩, ⟨some b5, true, ⟨true, 72, [.int .i64 o.sv, .int .i64 o.ty, .int .u64 o.key, .int .u64 o.act, .bool o.ap]⟩⟩, ⟨some b, true, ⟨true, 65, k8 (zk X.ks n o 8) [.int .i64 X.kd, .int .i64 X.hd, .int .u32 X.gen, .bool X.ls]⟩⟩]) [12, 13, 96, 97, 98, 99, 100, 101, 102, 103, 104, 105, 106, 107, 108, 109, 110, 111, 112, 113, 114, 115, 116, 117, 118, 119, 120, 121, 122, 123, 124, 125, 126, 127, 128, 129, 130, 131, 132, 133, 134, 135, 136, 137] (by decide) ?_ fun t1 H1 hk hI => ?_
        ·show AWl _ _ _ _ _
         refine aN rfl rfl (by constructor) ?_
         refine sE ?_
         show AW _ (.loop _) _ _ _
         have st := st.nil 75
         refine AW_loopN (fun m t1 H1 => ∃ (j : Nat) (oc : Option Nat), m = 8 - j ∧ (j ≤ 8) ∧ t1 13 = .int .i64 (j : Int) ∧ t1 12 = accV oc (goneTo X n o j).length 2 ∧ Stt [b] H H1 [⟨oc, true, ⟨true, 75, ((goneTo X n o j)).flatMap ev2E⟩⟩, ⟨some b5, true, ⟨true, 72, [.int .i64 o.sv, .int .i64 o.ty, .int .u64 o.key, .int .u64 o.act, .bool o.ap]⟩⟩, ⟨some b, true, ⟨true, 65, k8 (zk X.ks n o j) [.int .i64 X.kd, .int .i64 X.hd, .int .u32 X.gen, .bool X.ls]⟩⟩]) (8 - 0) ⟨0, none, rfl, by omega, rfl, rfl, (st.sel [0, 1, 2] (by decide))⟩ [12, 13, 96, 97, 98, 99, 100, 101, 102, 103, 104, 105, 106, 107, 108, 109, 110, 111, 112, 113, 114, 115, 116, 117, 118, 119, 120, 121, 122, 123, 124, 125, 126, 127, 128, 129, 130, 131, 132, 133, 134, 135, 136, 137] (by decide) ?_
         rintro m t1 H1 hk hI
         obtain ⟨j, oc, rfl, hj, ht13, ht12, st⟩ := hI
         obtain ⟨u, rfl⟩ : ∃ u, t1 = (upd (upd (mix [12, 13, 96, 97, 98, 99, 100, 101, 102, 103, 104, 105, 106, 107, 108, 109, 110, 111, 112, 113, 114, 115, 116, 117, 118, 119, 120, 121, 122, 123, 124, 125, 126, 127, 128, 129, 130, 131, 132, 133, 134, 135, 136, 137] _ u) (some 13) _) (some 12) _) := ⟨t1, by rw [← hk, upd_self ht13, upd_self ht12]⟩
         clear hk ht13 ht12
         show AWl _ _ _ _ _
         iterate 2 refine aN rfl rfl (by constructor) ?_
         refine sE ?_
         show AW _ (.cond _ _ _) _ _ _
         refine cC' rfl (fun h103 => ?_) (fun h103 => ?_)
         ·have hlt : j < 8 := by have := of_decide_eq_true h103; omega
          show AWp _ _ _ _ _
          iterate 4 refine aN rfl rfl (by constructor) ?_
          refine gCase 103 rfl (fun h104 => ?_) (fun h104 => ?_)
          ·refine gT rfl ?_
           refine aN rfl rfl (by constructor) ?_
           refine gT rfl ?_
           refine aN rfl rfl (by constructor) ?_
           refine gT rfl ?_
           refine aN rfl rfl (by constructor) ?_
           refine gT rfl ?_
           refine aN rfl rfl (by constructor) ?_
           refine gT rfl ?_
           refine aIxA rfl rfl (by omega) ?_
           refine gT rfl ?_
           refine aLd st 2 rfl rfl (k8_at (zk X.ks n o j) _ (by omega)) (by constructor) ?_
           rw [show (zk X.ks n o j).getD ((j : Int)).toNat 0 = X.ks.getD j 0 from zk_at n o (by rw [hX.len]; omega)]
           refine gT rfl ?_
           iterate 3 refine aN rfl rfl (by constructor) ?_
           refine gCase 112 rfl (fun h105 => ?_) (fun h105 => ?_)
           ·refine gT rfl ?_
            refine aN rfl rfl (by constructor) ?_
            refine gT rfl ?_
            refine aLd st 1 rfl rfl rfl (by constructor) ?_
            refine gT rfl ?_
            refine aN rfl rfl (by constructor) ?_
            refine gT rfl ?_
            refine aMovV (.bool false) (congrArg Value.bool h60) ?_
            refine gT rfl ?_
            refine aN rfl rfl (by constructor) ?_
            refine gT rfl ?_
            refine aN rfl rfl (by constructor) ?_
            refine gT rfl ?_
            refine aN rfl rfl (by constructor) ?_
            refine gT rfl ?_
            refine aN rfl rfl (by constructor) ?_
            refine gT rfl ?_
            refine aIxA rfl rfl (by omega) ?_
            refine gT rfl ?_
            refine aLd st 2 rfl rfl (k8_at (zk X.ks n o j) _ (by omega)) (by constructor) ?_
            rw [show (zk X.ks n o j).getD ((j : Int)).toNat 0 = X.ks.getD j 0 from zk_at n o (by rw [hX.len]; omega)]
            refine gT rfl ?_
            refine aN rfl rfl (by constructor) ?_
            refine gT rfl ?_
            refine aLd st 1 rfl rfl rfl (by constructor) ?_
            refine gT rfl ?_
            refine aN rfl rfl (by constructor) ?_
            refine gT rfl ?_
            iterate 2 refine aN rfl rfl (by constructor) ?_
            refine pE ?_
            show AW _ (.cond _ _ _) _ _ _
            refine cC' rfl (fun h106 => ?_) (fun h106 => ?_)
            ·show AWl _ _ _ _ _
             have hg : goes n o j (X.ks.getD j 0) = true := by unfold goes; simp only [h104, h105, h60, h106, Bool.and_true, Bool.true_and, Bool.false_and, Bool.and_false, Bool.or_true, Bool.true_or, Bool.false_or, Bool.or_false]
             have ho2 : (goneTo X n o (j + 1)) = (goneTo X n o j) ++ [((j : Int), 10757)] := gone_t hp hg
             have hz2 : zk X.ks n o (j + 1) = (zk X.ks n o j).set j 0 := if_pos hg
             iterate 4 refine aN rfl rfl (by constructor) ?_
             refine aIxA rfl rfl (by omega) ?_
             refine aStAt (u := .int .u64 0) (cs := k8 ((zk X.ks n o j).set j 0) [.int .i64 X.kd, .int .i64 X.hd, .int .u32 X.gen, .bool X.ls]) st 2 rfl rfl rfl rfl rfl (by show 0 + ((j : Int)).toNat * 1 < 12; omega) (k8_set (n := (j : Int)) (by rw [zk_len]; exact hX.len) _ (by omega)) fun H107 st => ?_
             refine sE ?_
             show AWl _ _ _ _ _
             refine aMovA rfl ?_
             refine aN rfl rfl (by constructor) ?_
             refine aBld rfl (by repeat constructor) ?_
             refine aLit st rfl (by repeat constructor) fun b136 H108 st => ?_
             refine aApp st 1 (ob := oc) rfl rfl rfl (by decide) (by exact flat_len' ev2E_len _) (st.rowAll 0 rfl (by first | rfl | (simp [beB_len, *]; done) | (simp [beB_len, *]; omega))).src (by first | rfl | simp) (by have := gone_len X n o j; omega) (by have := gone_len X n o j; omega) fun b137 H109 hp137 st => ?_
             have st := st.recell 1 rfl (cs' := (goneTo X n o (j + 1)).flatMap ev2E) (flat_snoc ho2 rfl)
             have hc3 : ¬ (((xpt X).regs.any fun r => r.2 == o.act) = false ∧ pallB (xpt X) o = false) := pre_c3 hp h102n
             refine aMovA rfl ?_
             refine sE ?_
             show AWl _ _ _ _ _
             iterate 3 refine aN rfl rfl (by constructor) ?_
             refine sE ?_
             have st := st.recell 3 rfl (cs' := k8 (zk X.ks n o (j + 1)) [.int .i64 X.kd, .int .i64 X.hd, .int .u32 X.gen, .bool X.ls]) (by rw [hz2])
             exact ⟨_, by omega, j + 1, b137, rfl, by omega, congrArg (Value.int .i64) (wi _ (by omega)), congrArg (fun n => accV _ n 2) (len_snoc ho2), (st.sel [1, 2, 3] (by decide))⟩
            ·show AWl _ _ _ _ _
             iterate 3 refine aN rfl rfl (by constructor) ?_
             refine sE ?_
             have hg : goes n o j (X.ks.getD j 0) = false := by unfold goes; simp only [h104, h105, h60, h106, Bool.and_true, Bool.true_and, Bool.false_and, Bool.and_false, Bool.or_true, Bool.true_or, Bool.false_or, Bool.or_false]
             have ho2 : (goneTo X n o (j + 1)) = (goneTo X n o j) := gone_f hp hg
             have hz2 : zk X.ks n o (j + 1) = zk X.ks n o j := if_neg (by rw [hg]; decide)
             have st := st.recell 0 rfl (cs' := (goneTo X n o (j + 1)).flatMap ev2E) (by rw [ho2])
             have st := st.recell 2 rfl (cs' := k8 (zk X.ks n o (j + 1)) [.int .i64 X.kd, .int .i64 X.hd, .int .u32 X.gen, .bool X.ls]) (by rw [hz2])
             exact ⟨_, by omega, j + 1, oc, rfl, by omega, congrArg (Value.int .i64) (wi _ (by omega)), congrArg (fun n => accV _ n 2) (congrArg List.length ho2.symm), (st.sel [0, 1, 2] (by decide))⟩
           ·refine gF rfl (by decide) ?_
            refine gF rfl (by decide) ?_
            refine gF rfl (by decide) ?_
            refine gF rfl (by decide) ?_
            refine gU rfl ?_
            refine gU rfl ?_
            refine gU rfl ?_
            refine gU rfl ?_
            refine gU rfl ?_
            refine gU rfl ?_
            refine gU rfl ?_
            refine gU rfl ?_
            refine gU rfl ?_
            refine gF rfl (by decide) ?_
            refine aN rfl rfl (by constructor) ?_
            refine pE ?_
            show AW _ (.cond _ _ _) _ _ _
            refine cF' rfl ?_
            show AWl _ _ _ _ _
            iterate 3 refine aN rfl rfl (by constructor) ?_
            refine sE ?_
            have hg : goes n o j (X.ks.getD j 0) = false := by unfold goes; simp only [h104, h105, h60, Bool.and_true, Bool.true_and, Bool.false_and, Bool.and_false, Bool.or_true, Bool.true_or, Bool.false_or, Bool.or_false]
            have ho2 : (goneTo X n o (j + 1)) = (goneTo X n o j) := gone_f hp hg
            have hz2 : zk X.ks n o (j + 1) = zk X.ks n o j := if_neg (by rw [hg]; decide)
            have st := st.recell 0 rfl (cs' := (goneTo X n o (j + 1)).flatMap ev2E) (by rw [ho2])
            have st := st.recell 2 rfl (cs' := k8 (zk X.ks n o (j + 1)) [.int .i64 X.kd, .int .i64 X.hd, .int .u32 X.gen, .bool X.ls]) (by rw [hz2])
            exact ⟨_, by omega, j + 1, oc, rfl, by omega, congrArg (Value.int .i64) (wi _ (by omega)), congrArg (fun n => accV _ n 2) (congrArg List.length ho2.symm), (st.sel [0, 1, 2] (by decide))⟩
          ·refine gF rfl (by decide) ?_
           refine gF rfl (by decide) ?_
           refine gF rfl (by decide) ?_
           refine gF rfl (by decide) ?_
           refine gF rfl (by decide) ?_
           refine gF rfl (by decide) ?_
           refine gF rfl (by decide) ?_
           iterate 2 refine aN rfl rfl (by constructor) ?_
           refine gF rfl (by decide) ?_
           refine gF rfl (by decide) ?_
           refine gF rfl (by decide) ?_
           refine gF rfl (by decide) ?_
           refine gU rfl ?_
           refine gU rfl ?_
           refine gU rfl ?_
           refine gU rfl ?_
           refine gU rfl ?_
           refine gU rfl ?_
           refine gU rfl ?_
           refine gU rfl ?_
           refine gU rfl ?_
           refine gF rfl (by decide) ?_
           refine aN rfl rfl (by constructor) ?_
           refine pE ?_
           show AW _ (.cond _ _ _) _ _ _
           refine cF' rfl ?_
           show AWl _ _ _ _ _
           iterate 3 refine aN rfl rfl (by constructor) ?_
           refine sE ?_
           have hg : goes n o j (X.ks.getD j 0) = false := by unfold goes; simp only [h104, h60, Bool.and_true, Bool.true_and, Bool.false_and, Bool.and_false, Bool.or_true, Bool.true_or, Bool.false_or, Bool.or_false]
           have ho2 : (goneTo X n o (j + 1)) = (goneTo X n o j) := gone_f hp hg
           have hz2 : zk X.ks n o (j + 1) = zk X.ks n o j := if_neg (by rw [hg]; decide)
           have st := st.recell 0 rfl (cs' := (goneTo X n o (j + 1)).flatMap ev2E) (by rw [ho2])
           have st := st.recell 2 rfl (cs' := k8 (zk X.ks n o (j + 1)) [.int .i64 X.kd, .int .i64 X.hd, .int .u32 X.gen, .bool X.ls]) (by rw [hz2])
           exact ⟨_, by omega, j + 1, oc, rfl, by omega, congrArg (Value.int .i64) (wi _ (by omega)), congrArg (fun n => accV _ n 2) (congrArg List.length ho2.symm), (st.sel [0, 1, 2] (by decide))⟩
         ·have hge : j = 8 := by have := of_decide_eq_false h103; omega
          subst hge
          exact ⟨oc, rfl, (st.sel [0, 1, 2] (by decide))⟩
        ·obtain ⟨oe, ht12, st⟩ := hI
         obtain ⟨u, rfl⟩ : ∃ u, t1 = (upd (mix [12, 13, 96, 97, 98, 99, 100, 101, 102, 103, 104, 105, 106, 107, 108, 109, 110, 111, 112, 113, 114, 115, 116, 117, 118, 119, 120, 121, 122, 123, 124, 125, 126, 127, 128, 129, 130, 131, 132, 133, 134, 135, 136, 137] _ u) (some 12) _) := ⟨t1, by rw [← hk, upd_self ht12]⟩
         clear hk ht12
         refine AW_cutK (b := .seq (.list (⟨some 165, _, _⟩ :: _)) _) (fun t1 H1 => ∃ (oe : Option Nat), t1 12 = accV oe (goneE (xpt X) n o ++ relE (xpt X) n o).length 2 ∧ Stt [b] H H1 [⟨oe, true, ⟨true, 75, (goneE (xpt X) n o ++ relE (xpt X) n o).flatMap ev2E⟩⟩, ⟨some b, true, ⟨true, 65, k8 (zk X.ks n o 8) [.int .i64 (if (heldB (xpt X) o || pallB (xpt X) o) = true then o.ty else X.kd), .int .i64 (if (heldB (xpt X) o || pallB (xpt X) o) = true then n else X.hd), .int .u32 X.gen, .bool X.ls]⟩⟩]) [12, 14, 138, 139, 140, 141, 142, 143, 144, 145, 146, 147, 148, 149, 150, 151, 152, 153, 154, 155, 156, 157, 158, 159, 160, 161, 162, 163, 164] (by decide) ?_ fun t1 H1 hk hI => ?_
         ·show AWl _ _ _ _ _
          refine aMovV (.bool false) (congrArg Value.bool h80) ?_
          refine sE ?_
          show AW _ (.cond _ _ _) _ _ _
          refine cF' rfl ?_
          have hK : (if (heldB (xpt X) o || pallB (xpt X) o) = true then o.ty else X.kd) = X.kd := if_neg (by rw [h80]; decide)
          have hD : (if (heldB (xpt X) o || pallB (xpt X) o) = true then n else X.hd) = X.hd := if_neg (by rw [h80]; decide)
          have hR : relE (xpt X) n o = [] := if_neg (fun hc => by have h1 := hc.1.symm.trans h80; cases h1)
          have st2 := st.sel [0, 2] (by decide)
          exact ⟨oe, (by rw [hR, List.append_nil] <;> rfl), by rw [hR, hK, hD, List.append_nil]; exact st2⟩
         ·obtain ⟨oe, ht12, st⟩ := hI
          obtain ⟨u, rfl⟩ : ∃ u, t1 = (upd (mix [12, 14, 138, 139, 140, 141, 142, 143, 144, 145, 146, 147, 148, 149, 150, 151, 152, 153, 154, 155, 156, 157, 158, 159, 160, 161, 162, 163, 164] _ u) (some 12) _) := ⟨t1, by rw [← hk, upd_self ht12]⟩
          clear hk ht12
          show AWl _ _ _ _ _
          iterate 3 refine aN rfl rfl (by constructor) ?_
          refine aLd st 1 rfl rfl rfl (by constructor) ?_
          iterate 3 refine aN rfl rfl (by constructor) ?_
          refine aSt st 1 rfl rfl rfl rfl (by first | rfl | simp [cellsOf, *]) (by first | decide | (simp [*]; done) | (simp [k8]; done)) (by repeat constructor) fun H110 st => ?_
          refine sE ?_
          show AWl _ _ _ _ _
          refine aMovA rfl ?_
          iterate 2 refine aN rfl rfl (by constructor) ?_
          refine aMovA rfl ?_
          refine sE ?_
          refine ⟨_, out3 (r_tmp rfl (by constructor)) (r_tmp rfl (by constructor)) (r_acc rfl) ⟨rfl, rfl, notTup_acc⟩, ?_⟩
          have hM : preemptM (xpt X) n o = ⟨0, 0, goneE (xpt X) n o ++ relE (xpt X) n o, { xpt X with regs := leftM (xpt X) n o, kind := (if (heldB (xpt X) o || pallB (xpt X) o) = true then o.ty else X.kd), holder := if (heldB (xpt X) o || pallB (xpt X) o) = true then n else (xpt X).holder, gen := inc32 X.gen }⟩ := by unfold preemptM; rw [if_neg hc1, if_neg hc2, if_neg hc3]; rfl
          rw [hM]
          exact ⟨({ ks := (zk X.ks n o 8), kd := (if (heldB (xpt X) o || pallB (xpt X) o) = true then o.ty else X.kd), hd := (if (heldB (xpt X) o || pallB (xpt X) o) = true then n else X.hd), gen := inc32 X.gen, ls := X.ls } : XT), oe, rfl, zk_ok hX (ite_bd hty hX.kd) (ite_bd hn hX.hd), pre_tab hX hp hc2, st.sel [1, 0] (by decide)⟩
 ·refine gF rfl (by decide) ?_
  refine gF rfl (by decide) ?_
  refine gF rfl (by decide) ?_
  refine gF rfl (by decide) ?_
  refine gF rfl (by decide) ?_
  iterate 2 refine aN rfl rfl (by constructor) ?_
  refine gF rfl (by decide) ?_
  refine gF rfl (by decide) ?_
  refine gF rfl (by decide) ?_
  iterate 2 refine aN rfl rfl (by constructor) ?_
  refine sE ?_
  refine AW_cutK (b := .seq (.seq (.list (⟨some 64, _, _⟩ :: _)) _) _) (fun t1 H1 => t1 9 = .bool (heldB (xpt X) o || pallB (xpt X) o) ∧ Stt [b] H H1 [⟨some b5, true, ⟨true, 72, [.int .i64 o.sv, .int .i64 o.ty, .int .u64 o.key, .int .u64 o.act, .bool o.ap]⟩⟩, ⟨some b, true, ⟨true, 65, k8 X.ks [.int .i64 X.kd, .int .i64 X.hd, .int .u32 X.gen, .bool X.ls]⟩⟩]) [9, 32, 33, 34, 35, 36, 37, 38, 39, 40, 41, 42, 43, 44, 45, 46, 47, 48, 49, 50, 51, 52, 53, 54, 55, 56, 57, 58, 59, 60, 61, 62, 63] (by decide) ?_ fun t1 H1 hk hI => ?_
  ·show AWp _ _ _ _ _
   iterate 3 refine aN rfl rfl (by constructor) ?_
   refine aLd st 1 rfl rfl rfl (by constructor) ?_
   refine aN rfl rfl (by constructor) ?_
   refine aMovV (.bool false) (congrArg Value.bool h2) ?_
   refine gF rfl (by decide) ?_
   refine gF rfl (by decide) ?_
   refine gF rfl (by decide) ?_
   refine gF rfl (by decide) ?_
   refine ⟨gF rfl (by decide) ?_, trivial⟩
   refine ⟨⟨(h_Ld st 1 rfl rfl rfl (by constructor)), trivial⟩, ?_⟩
   refine gF rfl (by decide) ?_
   iterate 2 refine aN rfl rfl (by constructor) ?_
   refine gF rfl (by decide) ?_
   refine gF rfl (by decide) ?_
   refine gF rfl (by decide) ?_
   refine gF rfl (by decide) ?_
   refine gF rfl (by decide) ?_
   refine gF rfl (by decide) ?_
   refine gF rfl (by decide) ?_
   refine gF rfl (by decide) ?_
   refine gF rfl (by decide) ?_
   refine gF rfl (by decide) ?_
   refine gF rfl (by decide) ?_
   refine gF rfl (by decide) ?_
   iterate 2 refine aN rfl rfl (by constructor) ?_
   refine gF rfl (by decide) ?_
   refine gF rfl (by decide) ?_
   refine gF rfl (by decide) ?_
   refine aN rfl rfl (by constructor) ?_
   refine pE ?_
   show AW _ (.cond _ _ _) _ _ _
   refine cF' rfl ?_
   have hT : (heldB (xpt X) o || pallB (xpt X) o) = false := by rw [xheld hX]; unfold pallB; show ((X.kd != 0 && !allB X.kd && (X.ks.getD X.hd.toNat 0 == o.act) && o.act != 0) || (allB X.kd && o.act == 0)) = _; simp_all <;> simp [allB]
   exact ⟨congrArg Value.bool hT.symm, st.sel [0, 1] (by decide)⟩
  ·obtain ⟨ht9, st⟩ := hI
   obtain ⟨u, rfl⟩ : ∃ u, t1 = (upd (mix [9, 32, 33, 34, 35, 36, 37, 38, 39, 40, 41, 42, 43, 44, 45, 46, 47, 48, 49, 50, 51, 52, 53, 54, 55, 56, 57, 58, 59, 60, 61, 62, 63] _ u) (some 9) _) := ⟨t1, by rw [← hk, upd_self ht9]⟩
   clear hk ht9
   show AWl _ _ _ _ _
   refine aN rfl rfl (by constructor) ?_
   refine aLd st 0 rfl rfl rfl (by constructor) ?_
   iterate 2 refine aN rfl rfl (by constructor) ?_
   refine gCase 67 rfl (fun h111 => ?_) (fun h111 => ?_)
   ·refine gT rfl ?_
    refine aN rfl rfl (by constructor) ?_
    refine gT rfl ?_
    iterate 2 refine aN rfl rfl (by constructor) ?_
    refine sE ?_
    show AW _ (.cond _ _ _) _ _ _
    refine cC' rfl (fun h112 => ?_) (fun h112 => ?_)
    ·have h112n : (heldB (xpt X) o || pallB (xpt X) o) = false := Eq.mp (Bool.not_eq_true' _) h112
     show AWl _ _ _ _ _
     iterate 3 refine aN rfl rfl (by constructor) ?_
     refine sE ?_
     refine ⟨_, out3 (r_tmp rfl (by constructor)) (r_tmp rfl (by constructor)) (r_tmp rfl (by constructor)) ⟨rfl, rfl, rfl⟩, ?_⟩
     have hc1 : o.act = 0 ∧ pallB (xpt X) o = false := by simp_all
     have st := st.nil 75
     have hM : preemptM (xpt X) n o = ⟨2, 9728, [], xpt X⟩ := by unfold preemptM; rw [if_pos hc1]
     rw [hM]
     exact ⟨X, none, rfl, hX, rfl, st.sel [2, 0] (by decide)⟩
    ·have h112n : (heldB (xpt X) o || pallB (xpt X) o) = true := Eq.mp (Bool.not_eq_false' _) h112
     show AWl _ _ _ _ _
     have hc1 : ¬ (o.act = 0 ∧ pallB (xpt X) o = false) := pre_c1 (X := X) (o := o) (fun h0 => by simp_all)
     have hp := pall_eq hc1
     refine aMovV (.bool true) (congrArg Value.bool h112n) ?_
     refine aN rfl rfl (by constructor) ?_
     refine gT rfl ?_
     refine aN rfl rfl (by constructor) ?_
     refine gT rfl ?_
     refine aLd st 0 rfl rfl rfl (by constructor) ?_
     refine gT rfl ?_
     refine aC (xtype_call) fun v75 H113 ⟨hv, st1⟩ => ?_
     subst hv
     replace st := st.call st1 rfl
     clear st1
     refine gT rfl ?_
     iterate 2 refine aN rfl rfl (by constructor) ?_
     refine sE ?_
     show AW _ (.cond _ _ _) _ _ _
     refine cC' rfl (fun h114 => ?_) (fun h114 => ?_)
     ·have h114n : typeB o.ty = false := Eq.mp (Bool.not_eq_true' _) h114
      show AWl _ _ _ _ _
      iterate 3 refine aN rfl rfl (by constructor) ?_
      refine sE ?_
      refine ⟨_, out3 (r_tmp rfl (by constructor)) (r_tmp rfl (by constructor)) (r_tmp rfl (by constructor)) ⟨rfl, rfl, rfl⟩, ?_⟩
      have hc2 : (heldB (xpt X) o || pallB (xpt X) o) = true ∧ typeB o.ty = false := by simp_all
      have st := st.nil 75
      have hM : preemptM (xpt X) n o = ⟨2, 9216, [], xpt X⟩ := by unfold preemptM; rw [if_neg hc1, if_pos hc2]
      rw [hM]
      exact ⟨X, none, rfl, hX, rfl, st.sel [2, 0] (by decide)⟩
     ·have h114n : typeB o.ty = true := Eq.mp (Bool.not_eq_false' _) h114
      show AWl _ _ _ _ _
      have hc2 : ¬ ((heldB (xpt X) o || pallB (xpt X) o) = true ∧ typeB o.ty = false) := by simp_all
      refine aN rfl rfl (by constructor) ?_
      refine aLd st 0 rfl rfl rfl (by constructor) ?_
      refine aN rfl rfl (by constructor) ?_
      refine aMovV (.bool true) (congrArg Value.bool h111) ?_
      refine sE ?_
      refine AW_cutK (b := .seq (.seq (.list (⟨some 94, _, _⟩ :: _)) _) _) (fun t1 H1 => t1 10 = .bool ((o.act == 0) || (xr X.ks).any fun r => r.2 == o.act) ∧ Stt [b] H H1 [⟨some b5, true, ⟨true, 72, [.int .i64 o.sv, .int .i64 o.ty, .int .u64 o.key, .int .u64 o.act, .bool o.ap]⟩⟩, ⟨some b, true, ⟨true, 65, k8 X.ks [.int .i64 X.kd, .int .i64 X.hd, .int .u32 X.gen, .bool X.ls]⟩⟩]) [10, 11, 81, 82, 83, 84, 85, 86, 87, 88, 89, 90, 91, 92, 93] (by decide) ?_ fun t1 H1 hk hI => ?_
      ·show AWl _ _ _ _ _
       refine aN rfl rfl (by constructor) ?_
       refine sE ?_
       show AW _ (.loop _) _ _ _
       refine AW_loopN (fun m t1 H1 => ∃ (j : Nat), m = 8 - j ∧ (j ≤ 8) ∧ t1 11 = .int .i64 (j : Int) ∧ t1 10 = .bool ((o.act == 0) || (List.range j).any (fun i => X.ks.getD i 0 == o.act)) ∧ Stt [b] H H1 [⟨some b5, true, ⟨true, 72, [.int .i64 o.sv, .int .i64 o.ty, .int .u64 o.key, .int .u64 o.act, .bool o.ap]⟩⟩, ⟨some b, true, ⟨true, 65, k8 X.ks [.int .i64 X.kd, .int .i64 X.hd, .int .u32 X.gen, .bool X.ls]⟩⟩]) (8 - 0) ⟨0, rfl, by omega, rfl, congrArg Value.bool (by first | (simp; done) | simp_all), (st.sel [0, 1] (by decide))⟩ [10, 11, 81, 82, 83, 84, 85, 86, 87, 88, 89, 90, 91, 92, 93] (by decide) ?_
       rintro m t1 H1 hk hI
       obtain ⟨j, rfl, hj, ht11, ht10, st⟩ := hI
       obtain ⟨u, rfl⟩ : ∃ u, t1 = (upd (upd (mix [10, 11, 81, 82, 83, 84, 85, 86, 87, 88, 89, 90, 91, 92, 93] _ u) (some 11) _) (some 10) _) := ⟨t1, by rw [← hk, upd_self ht11, upd_self ht10]⟩
       clear hk ht11 ht10
       show AWl _ _ _ _ _
       iterate 2 refine aN rfl rfl (by constructor) ?_
       refine sE ?_
       show AW _ (.cond _ _ _) _ _ _
       refine cC' rfl (fun h115 => ?_) (fun h115 => ?_)
       ·have hlt : j < 8 := by have := of_decide_eq_true h115; omega
        show AWp _ _ _ _ _
        iterate 4 refine aN rfl rfl (by constructor) ?_
        refine aIxA rfl rfl (by omega) ?_
        refine aLd st 1 rfl rfl (k8_at X.ks _ (by omega)) (by constructor) ?_
        refine aN rfl rfl (by constructor) ?_
        refine aLd st 0 rfl rfl rfl (by constructor) ?_
        refine aN rfl rfl (by constructor) ?_
        refine pE ?_
        show AW _ (.cond _ _ _) _ _ _
        refine cC' rfl (fun h116 => ?_) (fun h116 => ?_)
        ·show AWl _ _ _ _ _
         refine aN rfl rfl (by constructor) ?_
         refine sE ?_
         show AWl _ _ _ _ _
         iterate 3 refine aN rfl rfl (by constructor) ?_
         refine sE ?_
         exact ⟨_, by omega, j + 1, rfl, by omega, congrArg (Value.int .i64) (wi _ (by omega)), congrArg Value.bool (by rw [any_range]; show _ = (_ || (_ || (X.ks.getD j 0 == o.act))); rw [show (X.ks.getD j 0 == o.act) = true from h116]; simp), (st.sel [0, 1] (by decide))⟩
        ·show AWl _ _ _ _ _
         iterate 3 refine aN rfl rfl (by constructor) ?_
         refine sE ?_
         exact ⟨_, by omega, j + 1, rfl, by omega, congrArg (Value.int .i64) (wi _ (by omega)), congrArg Value.bool (by rw [any_range]; show _ = (_ || (_ || (X.ks.getD j 0 == o.act))); rw [show (X.ks.getD j 0 == o.act) = false from h116]; simp), (st.sel [0, 1] (by decide))⟩
       ·have hge : j = 8 := by have := of_decide_eq_false h115; omega
        subst hge
        exact ⟨congrArg Value.bool (any_act X.ks o), (st.sel [0, 1] (by decide))⟩
      ·obtain ⟨ht10, st⟩ := hI
       obtain ⟨u, rfl⟩ : ∃ u, t1 = (upd (mix [10, 11, 81, 82, 83, 84, 85, 86, 87, 88, 89, 90, 91, 92, 93] _ u) (some 10) _) := ⟨t1, by rw [← hk, upd_self ht10]⟩
       clear hk ht10
       show AWl _ _ _ _ _
       iterate 2 refine aN rfl rfl (by constructor) ?_
       refine sE ?_
       show AW _ (.cond _ _ _) _ _ _
       refine cC' rfl (fun h117 => ?_) (fun h117 => ?_)
       ·have h117n : ((o.act == 0) || (xr X.ks).any fun r => r.2 == o.act) = false := Eq.mp (Bool.not_eq_true' _) h117
        show AWl _ _ _ _ _
        iterate 3 refine aN rfl rfl (by constructor) ?_
        refine sE ?_
        refine ⟨_, out3 (r_tmp rfl (by constructor)) (r_tmp rfl (by constructor)) (r_tmp rfl (by constructor)) ⟨rfl, rfl, rfl⟩, ?_⟩
        have hc3 : ((xpt X).regs.any fun r => r.2 == o.act) = false ∧ pallB (xpt X) o = false := pre_c3b hp h117n
        have st := st.nil 75
        have hM : preemptM (xpt X) n o = ⟨24, 0, [], xpt X⟩ := by unfold preemptM; rw [if_neg hc1, if_neg hc2, if_pos hc3]
        rw [hM]
        exact ⟨X, none, rfl, hX, rfl, st.sel [2, 0] (by decide)⟩
       ·have h117n : ((o.act == 0) || (xr X.ks).any fun r => r.2 == o.act) = true := Eq.mp (Bool.not_eq_false' _) h117
        show AWl _ _ _ _ _
        have hc3 : ¬ (((xpt X).regs.any fun r => r.2 == o.act) = false ∧ pallB (xpt X) o = false) := pre_c3 hp h117n
        refine aN rfl rfl (by constructor) ?_
        refine sE ?_
        refine AW_cutK (b := .seq (.seq (.list (⟨some 138, _, _⟩ :: _)) _) _) (fun t1 H1 => ∃ (oe : Option Nat), t1 12 = accV oe (goneE (xpt X) n o).length 2 ∧ Stt [b] H H1 [⟨oe, true, ⟨true, 75, (goneE (xpt X) n o).flatMap ev2E⟩⟩, ⟨some b5, true, ⟨true, 72, [.int .i64 o.sv, .int .i64 o.ty, .int .u64 o.key, .int .u64 o.act, .bool o.ap]⟩⟩, ⟨some b, true, ⟨true, 65, k8 (zk X.ks n o 8) [.int .i64 X.kd, .int .i64 X.hd, .int .u32 X.gen, .bool X.ls]⟩⟩]) [12, 13, 96, 97, 98, 99, 100, 101, 102, 103, 104, 105, 106, 107, 108, 109, 110, 111, 112, 113, 114, 115, 116, 117, 118, 119, 120, 121, 122, 123, 124, 125, 126, 127, 128, 129, 130, 131, 132, 133, 134, 135, 136, 137] (by decide) ?_ fun t1 H1 hk hI => ?_
        ·show AWl _ _ _ _ _
         refine aN rfl rfl (by constructor) ?_
         refine sE ?_
         show AW _ (.loop _) _ _ _
         have st := st.nil 75
         refine AW_loopN (fun m t1 H1 => ∃ (j : Nat) (oc : Option Nat), m = 8 - j ∧ (j ≤ 8) ∧ t1 13 = .int .i64 (j : Int) ∧ t1 12 = accV oc (goneTo X n o j).length 2 ∧ Stt [b] H H1 [⟨oc, true, ⟨true, 75, ((goneTo X n o j)).flatMap ev2E⟩⟩, ⟨some b5, true, ⟨true, 72, [.int .i64 o.sv, .int .i64 o.ty, .int .u64 o.key, .int .u64 o.act, .bool o.ap]⟩⟩, ⟨some b, true, ⟨true, 65, k8 (zk X.ks n o j) [.int .i64 X.kd, .int .i64 X.hd, .int .u32 X.gen, .bool X.ls]⟩⟩]) (8 - 0) ⟨0, none, rfl, by omega, rfl, rfl, (st.sel [0, 1, 2] (by decide))⟩ [12, 13, 96, 97, 98, 99, 100, 101, 102, 103, 104, 105, 106, 107, 108, 109, 110, 111, 112, 113, 114, 115, 116, 117, 118, 119, 120, 121, 122, 123, 124, 125, 126, 127, 128, 129, 130, 131, 132, 133, 134, 135, 136, 137] (by decide) ?_
         rintro m t1 H1 hk hI
         obtain ⟨j, oc, rfl, hj, ht13, ht12, st⟩ := hI
         obtain ⟨u, rfl⟩ : ∃ u, t1 = (upd (upd (mix [12, 13, 96, 97, 98, 99, 100, 101, 102, 103, 104, 105, 106, 107, 108, 109, 110, 111, 112, 113, 114, 115, 116, 117, 118, 119, 120, 121, 122, 123, 124, 125, 126, 127, 128, 129, 130, 131, 132, 133, 134, 135, 136, 137] _ u) (some 13) _) (some 12) _) := ⟨t1, by rw [← hk, upd_self ht13, upd_self ht12]⟩
         clear hk ht13 ht12
         show AWl _ _ _ _ _
         iterate 2 refine aN rfl rfl (by constructor) ?_
         refine sE ?_
         show AW _ (.cond _ _ _) _ _ _
         refine cC' rfl (fun h118 => ?_) (fun h118 => ?_)
         ·have hlt : j < 8 := by have := of_decide_eq_true h118; omega
          show AWp _ _ _ _ _
          iterate 4 refine aN rfl rfl (by constructor) ?_
          refine gCase 103 rfl (fun h119 => ?_) (fun h119 => ?_)
          ·refine gT rfl ?_
           refine aN rfl rfl (by constructor) ?_
           refine gT rfl ?_
           refine aN rfl rfl (by constructor) ?_
           refine gT rfl ?_
           refine aN rfl rfl (by constructor) ?_
           refine gT rfl ?_
           refine aN rfl rfl (by constructor) ?_
           refine gT rfl ?_
           refine aIxA rfl rfl (by omega) ?_
           refine gT rfl ?_
           refine aLd st 2 rfl rfl (k8_at (zk X.ks n o j) _ (by omega)) (by constructor) ?_
           rw [show (zk X.ks n o j).getD ((j : Int)).toNat 0 = X.ks.getD j 0 from zk_at n o (by rw [hX.len]; omega)]
           refine gT rfl ?_
           iterate 3 refine aN rfl rfl (by constructor) ?_
           refine gCase 112 rfl (fun h120 => ?_) (fun h120 => ?_)
           ·refine gT rfl ?_
            refine aN rfl rfl (by constructor) ?_
            refine gT rfl ?_
            refine aLd st 1 rfl rfl rfl (by constructor) ?_
            refine gT rfl ?_
            refine aN rfl rfl (by constructor) ?_
            refine gT rfl ?_
            refine aMovV (.bool true) (congrArg Value.bool h111) ?_
            refine gF rfl (by decide) ?_
            refine gF rfl (by decide) ?_
            refine gF rfl (by decide) ?_
            refine gF rfl (by decide) ?_
            refine gF rfl (by decide) ?_
            refine gF rfl (by decide) ?_
            refine gF rfl (by decide) ?_
            refine gF rfl (by decide) ?_
            refine gF rfl (by decide) ?_
            refine gT rfl ?_
            iterate 2 refine aN rfl rfl (by constructor) ?_
            refine pE ?_
            show AW _ (.cond _ _ _) _ _ _
            refine cT rfl ?_
            show AWl _ _ _ _ _
            have hg : goes n o j (X.ks.getD j 0) = true := by unfold goes; simp only [h119, h120, h111, Bool.and_true, Bool.true_and, Bool.false_and, Bool.and_false, Bool.or_true, Bool.true_or, Bool.false_or, Bool.or_false]
            have ho2 : (goneTo X n o (j + 1)) = (goneTo X n o j) ++ [((j : Int), 10757)] := gone_t hp hg
            have hz2 : zk X.ks n o (j + 1) = (zk X.ks n o j).set j 0 := if_pos hg
            iterate 4 refine aN rfl rfl (by constructor) ?_
            refine aIxA rfl rfl (by omega) ?_
            refine aStAt (u := .int .u64 0) (cs := k8 ((zk X.ks n o j).set j 0) [.int .i64 X.kd, .int .i64 X.hd, .int .u32 X.gen, .bool X.ls]) st 2 rfl rfl rfl rfl rfl (by show 0 + ((j : Int)).toNat * 1 < 12; omega) (k8_set (n := (j : Int)) (by rw [zk_len]; exact hX.len) _ (by omega)) fun H121 st => ?_
            refine sE ?_
            show AWl _ _ _ _ _
            refine aMovA rfl ?_
            refine aN rfl rfl (by constructor) ?_
            refine aBld rfl (by repeat constructor) ?_
            refine aLit st rfl (by repeat constructor) fun b136 H122 st => ?_
            refine aApp st 1 (ob := oc) rfl rfl rfl (by decide) (by exact flat_len' ev2E_len _) (st.rowAll 0 rfl (by first | rfl | (simp [beB_len, *]; done) | (simp [beB_len, *]; omega))).src (by first | rfl | simp) (by have := gone_len X n o j; omega) (by have := gone_len X n o j; omega) fun b137 H123 hp137 st => ?_
            have st := st.recell 1 rfl (cs' := (goneTo X n o (j + 1)).flatMap ev2E) (flat_snoc ho2 rfl)
            have hc3 : ¬ (((xpt X).regs.any fun r => r.2 == o.act) = false ∧ pallB (xpt X) o = false) := pre_c3 hp h117n
            refine aMovA rfl ?_
            refine sE ?_
            show AWl _ _ _ _ _
            iterate 3 refine aN rfl rfl (by constructor) ?_
            refine sE ?_
            have st := st.recell 3 rfl (cs' := k8 (zk X.ks n o (j + 1)) [.int .i64 X.kd, .int .i64 X.hd, .int .u32 X.gen, .bool X.ls]) (by rw [hz2])
            exact ⟨_, by omega, j + 1, b137, rfl, by omega, congrArg (Value.int .i64) (wi _ (by omega)), congrArg (fun n => accV _ n 2) (len_snoc ho2), (st.sel [1, 2, 3] (by decide))⟩
           ·refine gF rfl (by decide) ?_
            refine gF rfl (by decide) ?_
            refine gF rfl (by decide) ?_
            refine gF rfl (by decide) ?_
            refine gU rfl ?_
            refine gU rfl ?_
            refine gU rfl ?_
            refine gU rfl ?_
            refine gU rfl ?_
            refine gU rfl ?_
            refine gU rfl ?_
            refine gU rfl ?_
            refine gU rfl ?_
            refine gF rfl (by decide) ?_
            refine aN rfl rfl (by constructor) ?_
            refine pE ?_
            show AW _ (.cond _ _ _) _ _ _
            refine cF' rfl ?_
            show AWl _ _ _ _ _
            iterate 3 refine aN rfl rfl (by constructor) ?_
            refine sE ?_
            have hg : goes n o j (X.ks.getD j 0) = false := by unfold goes; simp only [h119, h120, h111, Bool.and_true, Bool.true_and, Bool.false_and, Bool.and_false, Bool.or_true, Bool.true_or, Bool.false_or, Bool.or_false]
            have ho2 : (goneTo X n o (j + 1)) = (goneTo X n o j) := gone_f hp hg
            have hz2 : zk X.ks n o (j + 1) = zk X.ks n o j := if_neg (by rw [hg]; decide)
            have st := st.recell 0 rfl (cs' := (goneTo X n o (j + 1)).flatMap ev2E) (by rw [ho2])
            have st := st.recell 2 rfl (cs' := k8 (zk X.ks n o (j + 1)) [.int .i64 X.kd, .int .i64 X.hd, .int .u32 X.gen, .bool X.ls]) (by rw [hz2])
            exact ⟨_, by omega, j + 1, oc, rfl, by omega, congrArg (Value.int .i64) (wi _ (by omega)), congrArg (fun n => accV _ n 2) (congrArg List.length ho2.symm), (st.sel [0, 1, 2] (by decide))⟩
          ·refine gF rfl (by decide) ?_
           refine gF rfl (by decide) ?_
           refine gF rfl (by decide) ?_
           refine gF rfl (by decide) ?_
           refine gF rfl (by decide) ?_
           refine gF rfl (by decide) ?_
           refine gF rfl (by decide) ?_
           iterate 2 refine aN rfl rfl (by constructor) ?_
           refine gF rfl (by decide) ?_
           refine gF rfl (by decide) ?_
           refine gF rfl (by decide) ?_
           refine gF rfl (by decide) ?_
           refine gU rfl ?_
           refine gU rfl ?_
           refine gU rfl ?_
           refine gU rfl ?_
           refine gU rfl ?_
           refine gU rfl ?_
           refine gU rfl ?_
           refine gU rfl ?_
           refine gU rfl ?_
           refine gF rfl (by decide) ?_
           refine aN rfl rfl (by constructor) ?_
           refine pE ?_
           show AW _ (.cond _ _ _) _ _ _
           refine cF' rfl ?_
           show AWl _ _ _ _ _
           iterate 3 refine aN rfl rfl (by constructor) ?_
           refine sE ?_
           have hg : goes n o j (X.ks.getD j 0) = false := by unfold goes; simp only [h119, h111, Bool.and_true, Bool.true_and, Bool.false_and, Bool.and_false, Bool.or_true, Bool.true_or, Bool.false_or, Bool.or_false]
           have ho2 : (goneTo X n o (j + 1)) = (goneTo X n o j) := gone_f hp hg
           have hz2 : zk X.ks n o (j + 1) = zk X.ks n o j := if_neg (by rw [hg]; decide)
           have st := st.recell 0 rfl (cs' := (goneTo X n o (j + 1)).flatMap ev2E) (by rw [ho2])
           have st := st.recell 2 rfl (cs' := k8 (zk X.ks n o (j + 1)) [.int .i64 X.kd, .int .i64 X.hd, .int .u32 X.gen, .bool X.ls]) (by rw [hz2])
           exact ⟨_, by omega, j + 1, oc, rfl, by omega, congrArg (Value.int .i64) (wi _ (by omega)), congrArg (fun n => accV _ n 2) (congrArg List.length ho2.symm), (st.sel [0, 1, 2] (by decide))⟩
         ·have hge : j = 8 := by have := of_decide_eq_false h118; omega
          subst hge
          exact ⟨oc, rfl, (st.sel [0, 1, 2] (by decide))⟩
        ·obtain ⟨oe, ht12, st⟩ := hI
         obtain ⟨u, rfl⟩ : ∃ u, t1 = (upd (mix [12, 13, 96, 97, 98, 99, 100, 101, 102, 103, 104, 105, 106, 107, 108, 109, 110, 111, 112, 113, 114, 115, 116, 117, 118, 119, 120, 121, 122, 123, 124, 125, 126, 127, 128, 129, 130, 131, 132, 133, 134, 135, 136, 137] _ u) (some 12) _) := ⟨t1, by rw [← hk, upd_self ht12]⟩
         clear hk ht12
         refine AW_cutK (b := .seq (.list (⟨some 165, _, _⟩ :: _)) _) (fun t1 H1 => ∃ (oe : Option Nat), t1 12 = accV oe (goneE (xpt X) n o ++ relE (xpt X) n o).length 2 ∧ Stt [b] H H1 [⟨oe, true, ⟨true, 75, (goneE (xpt X) n o ++ relE (xpt X) n o).flatMap ev2E⟩⟩, ⟨some b, true, ⟨true, 65, k8 (zk X.ks n o 8) [.int .i64 (if (heldB (xpt X) o || pallB (xpt X) o) = true then o.ty else X.kd), .int .i64 (if (heldB (xpt X) o || pallB (xpt X) o) = true then n else X.hd), .int .u32 X.gen, .bool X.ls]⟩⟩]) [12, 14, 138, 139, 140, 141, 142, 143, 144, 145, 146, 147, 148, 149, 150, 151, 152, 153, 154, 155, 156, 157, 158, 159, 160, 161, 162, 163, 164] (by decide) ?_ fun t1 H1 hk hI => ?_
         ·show AWl _ _ _ _ _
          refine aMovV (.bool true) (congrArg Value.bool h112n) ?_
          refine sE ?_
          show AW _ (.cond _ _ _) _ _ _
          refine cT rfl ?_
          show AWl _ _ _ _ _
          iterate 3 refine aN rfl rfl (by constructor) ?_
          refine aLd st 2 rfl rfl rfl (by constructor) ?_
          refine aN rfl rfl (by constructor) ?_
          refine sE ?_
          show AWl _ _ _ _ _
          iterate 2 refine aN rfl rfl (by constructor) ?_
          refine aLd st 1 rfl rfl rfl (by constructor) ?_
          iterate 2 refine aN rfl rfl (by constructor) ?_
          refine aSt st 2 rfl rfl rfl rfl (by first | rfl | simp [cellsOf, *]) (by first | decide | (simp [*]; done) | (simp [k8]; done)) (by repeat constructor) fun H124 st => ?_
          refine sE ?_
          show AWl _ _ _ _ _
          iterate 4 refine aN rfl rfl (by constructor) ?_
          refine aSt st 2 rfl rfl rfl rfl (by first | rfl | simp [cellsOf, *]) (by first | decide | (simp [*]; done) | (simp [k8]; done)) (by repeat constructor) fun H125 st => ?_
          refine sE ?_
          show AWl _ _ _ _ _
          iterate 3 refine aN rfl rfl (by constructor) ?_
          refine gCase 154 rfl (fun h126 => ?_) (fun h126 => ?_)
          ·refine gT rfl ?_
           refine aN rfl rfl (by constructor) ?_
           refine gT rfl ?_
           refine aN rfl rfl (by constructor) ?_
           refine gT rfl ?_
           refine aLd st 1 rfl rfl rfl (by constructor) ?_
           refine gT rfl ?_
           iterate 2 refine aN rfl rfl (by constructor) ?_
           refine sE ?_
           show AW _ (.cond _ _ _) _ _ _
           refine cC' rfl (fun h127 => ?_) (fun h127 => ?_)
           ·show AWl _ _ _ _ _
            have hb1 : (goneE (xpt X) n o).length ≤ 8 := gone_len X n o 8
            have hb2 : (othersM (zk X.ks n o 8) n 10756).length ≤ 8 := oth_len (zk X.ks n o 8) n 10756 8
            refine aMovA rfl ?_
            iterate 2 refine aN rfl rfl (by constructor) ?_
            refine aC (others_call (X := ({ ks := (zk X.ks n o 8), kd := o.ty, hd := n, gen := X.gen, ls := X.ls } : XT)) (but := n) (code := 10756) (st.get (j := 2) rfl)) fun v163 H128 ⟨oe163, hv, st1⟩ => ?_
            subst hv
            replace st := st.call st1 rfl
            clear st1
            rw [show othersM ({ ks := (zk X.ks n o 8), kd := o.ty, hd := n, gen := X.gen, ls := X.ls } : XT).ks n 10756 = othersM (zk X.ks n o 8) n 10756 from rfl] at st ⊢
            refine aApp st 1 (ob := oe) rfl rfl rfl (by decide) (by exact flat_len' ev2E_len _) (st.rowAcc 0 rfl (by decide) (by exact flat_len' ev2E_len _)).src (by exact flat_len' ev2E_len _) (by omega) (by omega) fun b164 H129 hp164 st => ?_
            have hc3 : ¬ (((xpt X).regs.any fun r => r.2 == o.act) = false ∧ pallB (xpt X) o = false) := pre_c3 hp h117n
            refine aMovA rfl ?_
            refine sE ?_
            have hK : (if (heldB (xpt X) o || pallB (xpt X) o) = true then o.ty else X.kd) = o.ty := if_pos h112n
            have hD : (if (heldB (xpt X) o || pallB (xpt X) o) = true then n else X.hd) = n := if_pos h112n
            have hR : relE (xpt X) n o = othersM (zk X.ks n o 8) n 10756 := by unfold relE othersM; rw [if_pos ⟨h112n, by simp_all [xpt], by simp_all [xpt]⟩, xr_zk hX.len hp]
            have st2 := st.sel [1, 3] (by decide)
            exact ⟨b164, (by rw [hR, List.length_append] <;> rfl), by rw [hR, hK, hD, List.flatMap_append]; exact st2⟩
           ·have hK : (if (heldB (xpt X) o || pallB (xpt X) o) = true then o.ty else X.kd) = o.ty := if_pos h112n
            have hD : (if (heldB (xpt X) o || pallB (xpt X) o) = true then n else X.hd) = n := if_pos h112n
            have hR : relE (xpt X) n o = [] := if_neg (fun hc => by have h1 := hc.2.1; have h2 := hc.2.2; simp_all [xpt] <;> omega)
            have st2 := st.sel [0, 2] (by decide)
            exact ⟨oe, (by rw [hR, List.append_nil] <;> rfl), by rw [hR, hK, hD, List.append_nil]; exact st2⟩
          ·refine gF rfl (by decide) ?_
           refine gF rfl (by decide) ?_
           refine gF rfl (by decide) ?_
           refine gF rfl (by decide) ?_
           refine aN rfl rfl (by constructor) ?_
           refine sE ?_
           show AW _ (.cond _ _ _) _ _ _
           refine cF' rfl ?_
           have hK : (if (heldB (xpt X) o || pallB (xpt X) o) = true then o.ty else X.kd) = o.ty := if_pos h112n
           have hD : (if (heldB (xpt X) o || pallB (xpt X) o) = true then n else X.hd) = n := if_pos h112n
           have hR : relE (xpt X) n o = [] := if_neg (fun hc => by have h1 := hc.2.1; have h2 := hc.2.2; simp_all [xpt] <;> omega)
           have st2 := st.sel [0, 2] (by decide)
           exact ⟨oe, (by rw [hR, List.append_nil] <;> rfl), by rw [hR, hK, hD, List.append_nil]; exact st2⟩
         ·obtain ⟨oe, ht12, st⟩ := hI
          obtain ⟨u, rfl⟩ : ∃ u, t1 = (upd (mix [12, 14, 138, 139, 140, 141, 142, 143, 144, 145, 146, 147, 148, 149, 150, 151, 152, 153, 154, 155, 156, 157, 158, 159, 160, 161, 162, 163, 164] _ u) (some 12) _) := ⟨t1, by rw [← hk, upd_self ht12]⟩
          clear hk ht12
          show AWl _ _ _ _ _
          iterate 3 refine aN rfl rfl (by constructor) ?_
          refine aLd st 1 rfl rfl rfl (by constructor) ?_
          iterate 3 refine aN rfl rfl (by constructor) ?_
          refine aSt st 1 rfl rfl rfl rfl (by first | rfl | simp [cellsOf, *]) (by first | decide | (simp [*]; done) | (simp [k8]; done)) (by repeat constructor) fun H130 st => ?_
          refine sE ?_
          show AWl _ _ _ _ _
          refine aMovA rfl ?_
          iterate 2 refine aN rfl rfl (by constructor) ?_
          refine aMovA rfl ?_
          refine sE ?_
          refine ⟨_, out3 (r_tmp rfl (by constructor)) (r_tmp rfl (by constructor)) (r_acc rfl) ⟨rfl, rfl, notTup_acc⟩, ?_⟩
          have hM : preemptM (xpt X) n o = ⟨0, 0, goneE (xpt X) n o ++ relE (xpt X) n o, { xpt X with regs := leftM (xpt X) n o, kind := (if (heldB (xpt X) o || pallB (xpt X) o) = true then o.ty else X.kd), holder := if (heldB (xpt X) o || pallB (xpt X) o) = true then n else (xpt X).holder, gen := inc32 X.gen }⟩ := by unfold preemptM; rw [if_neg hc1, if_neg hc2, if_neg hc3]; rfl
          rw [hM]
          exact ⟨({ ks := (zk X.ks n o 8), kd := (if (heldB (xpt X) o || pallB (xpt X) o) = true then o.ty else X.kd), hd := (if (heldB (xpt X) o || pallB (xpt X) o) = true then n else X.hd), gen := inc32 X.gen, ls := X.ls } : XT), oe, rfl, zk_ok hX (ite_bd hty hX.kd) (ite_bd hn hX.hd), pre_tab hX hp hc2, st.sel [1, 0] (by decide)⟩
   ·refine gF rfl (by decide) ?_
    refine gF rfl (by decide) ?_
    refine aN rfl rfl (by constructor) ?_
    refine sE ?_
    show AW _ (.cond _ _ _) _ _ _
    refine cF' rfl ?_
    show AWl _ _ _ _ _
    have hc1 : ¬ (o.act = 0 ∧ pallB (xpt X) o = false) := pre_c1 (X := X) (o := o) (fun h0 => by simp_all)
    have hp := pall_eq hc1
    iterate 2 refine aN rfl rfl (by constructor) ?_
    refine gCase 72 rfl (fun h131 => ?_) (fun h131 => ?_)
    ·refine gT rfl ?_
     refine aN rfl rfl (by constructor) ?_
     refine gT rfl ?_
     refine aLd st 0 rfl rfl rfl (by constructor) ?_
     refine gT rfl ?_
     refine aC (xtype_call) fun v75 H132 ⟨hv, st1⟩ => ?_
     subst hv
     replace st := st.call st1 rfl
     clear st1
     refine gT rfl ?_
     iterate 2 refine aN rfl rfl (by constructor) ?_
     refine sE ?_
     show AW _ (.cond _ _ _) _ _ _
     refine cC' rfl (fun h133 => ?_) (fun h133 => ?_)
     ·have h133n : typeB o.ty = false := Eq.mp (Bool.not_eq_true' _) h133
      show AWl _ _ _ _ _
      iterate 3 refine aN rfl rfl (by constructor) ?_
      refine sE ?_
      refine ⟨_, out3 (r_tmp rfl (by constructor)) (r_tmp rfl (by constructor)) (r_tmp rfl (by constructor)) ⟨rfl, rfl, rfl⟩, ?_⟩
      have hc2 : (heldB (xpt X) o || pallB (xpt X) o) = true ∧ typeB o.ty = false := by simp_all
      have st := st.nil 75
      have hM : preemptM (xpt X) n o = ⟨2, 9216, [], xpt X⟩ := by unfold preemptM; rw [if_neg hc1, if_pos hc2]
      rw [hM]
      exact ⟨X, none, rfl, hX, rfl, st.sel [2, 0] (by decide)⟩
     ·have h133n : typeB o.ty = true := Eq.mp (Bool.not_eq_false' _) h133
      show AWl _ _ _ _ _
      have hc2 : ¬ ((heldB (xpt X) o || pallB (xpt X) o) = true ∧ typeB o.ty = false) := by simp_all
      refine aN rfl rfl (by constructor) ?_
      refine aLd st 0 rfl rfl rfl (by constructor) ?_
      refine aN rfl rfl (by constructor) ?_
      refine aMovV (.bool false) (congrArg Value.bool h111) ?_
      refine sE ?_
      refine AW_cutK (b := .seq (.seq (.list (⟨some 94, _, _⟩ :: _)) _) _) (fun t1 H1 => t1 10 = .bool ((o.act == 0) || (xr X.ks).any fun r => r.2 == o.act) ∧ Stt [b] H H1 [⟨some b5, true, ⟨true, 72, [.int .i64 o.sv, .int .i64 o.ty, .int .u64 o.key, .int .u64 o.act, .bool o.ap]⟩⟩, ⟨some b, true, ⟨true, 65, k8 X.ks [.int .i64 X.kd, .int .i64 X.hd, .int .u32 X.gen, .bool X.ls]⟩⟩]) [10, 11, 81, 82, 83, 84, 85, 86, 87, 88, 89, 90, 91, 92, 93] (by decide) ?_ fun t1 H1 hk hI => ?_
      ·show AWl _ _ _ _ _
       refine aN rfl rfl (by constructor) ?_
       refine sE ?_
       show AW _ (.loop _) _ _ _
       refine AW_loopN (fun m t1 H1 => ∃ (j : Nat), m = 8 - j ∧ (j ≤ 8) ∧ t1 11 = .int .i64 (j : Int) ∧ t1 10 = .bool ((o.act == 0) || (List.range j).any (fun i => X.ks.getD i 0 == o.act)) ∧ Stt [b] H H1 [⟨some b5, true, ⟨true, 72, [.int .i64 o.sv, .int .i64 o.ty, .int .u64 o.key, .int .u64 o.act, .bool o.ap]⟩⟩, ⟨some b, true, ⟨true, 65, k8 X.ks [.int .i64 X.kd, .int .i64 X.hd, .int .u32 X.gen, .bool X.ls]⟩⟩]) (8 - 0) ⟨0, rfl, by omega, rfl, congrArg Value.bool (by first | (simp; done) | simp_all), (st.sel [0, 1] (by decide))⟩ [10, 11, 81, 82, 83, 84, 85, 86, 87, 88, 89, 90, 91, 92, 93] (by decide) ?_
       rintro m t1 H1 hk hI
       obtain ⟨j, rfl, hj, ht11, ht10, st⟩ := hI
       obtain ⟨u, rfl⟩ : ∃ u, t1 = (upd (upd (mix [10, 11, 81, 82, 83, 84, 85, 86, 87, 88, 89, 90, 91, 92, 93] _ u) (some 11) _) (some 10) _) := ⟨t1, by rw [← hk, upd_self ht11, upd_self ht10]⟩
       clear hk ht11 ht10
       show AWl _ _ _ _ _
       iterate 2 refine aN rfl rfl (by constructor) ?_
       refine sE ?_
       show AW _ (.cond _ _ _) _ _ _
       refine cC' rfl (fun h134 => ?_) (fun h134 => ?_)
       ·have hlt : j < 8 := by have := of_decide_eq_true h134; omega
        show AWp _ _ _ _ _
        iterate 4 refine aN rfl rfl (by constructor) ?_
        refine aIxA rfl rfl (by omega) ?_
        refine aLd st 1 rfl rfl (k8_at X.ks _ (by omega)) (by constructor) ?_
        refine aN rfl rfl (by constructor) ?_
        refine aLd st 0 rfl rfl rfl (by constructor) ?_
        refine aN rfl rfl (by constructor) ?_
        refine pE ?_
        show AW _ (.cond _ _ _) _ _ _
        refine cC' rfl (fun h135 => ?_) (fun h135 => ?_)
        ·show AWl _ _ _ _ _
         refine aN rfl rfl (by constructor) ?_
         refine sE ?_
         show AWl _ _ _ _ _
         iterate 3 refine aN rfl rfl (by constructor) ?_
         refine sE ?_
         exact ⟨_, by omega, j + 1, rfl, by omega, congrArg (Value.int .i64) (wi _ (by omega)), congrArg Value.bool (by rw [any_range]; show _ = (_ || (_ || (X.ks.getD j 0 == o.act))); rw [show (X.ks.getD j 0 == o.act) = true from h135]; simp), (st.sel [0, 1] (by decide))⟩
        ·show AWl _ _ _ _ _
         iterate 3 refine aN rfl rfl (by constructor) ?_
         refine sE ?_
         exact ⟨_, by omega, j + 1, rfl, by omega, congrArg (Value.int .i64) (wi _ (by omega)), congrArg Value.bool (by rw [any_range]; show _ = (_ || (_ || (X.ks.getD j 0 == o.act))); rw [show (X.ks.getD j 0 == o.act) = false from h135]; simp), (st.sel [0, 1] (by decide))⟩
       ·have hge : j = 8 := by have := of_decide_eq_false h134; omega
        subst hge
        exact ⟨congrArg Value.bool (any_act X.ks o), (st.sel [0, 1] (by decide))⟩
      ·obtain ⟨ht10, st⟩ := hI
       obtain ⟨u, rfl⟩ : ∃ u, t1 = (upd (mix [10, 11, 81, 82, 83, 84, 85, 86, 87, 88, 89, 90, 91, 92, 93] _ u) (some 10) _) := ⟨t1, by rw [← hk, upd_self ht10]⟩
       clear hk ht10
       show AWl _ _ _ _ _
       iterate 2 refine aN rfl rfl (by constructor) ?_
       refine sE ?_
       show AW _ (.cond _ _ _) _ _ _
       refine cC' rfl (fun h136 => ?_) (fun h136 => ?_)
       ·have h136n : ((o.act == 0) || (xr X.ks).any fun r => r.2 == o.act) = false := Eq.mp (Bool.not_eq_true' _) h136
        show AWl _ _ _ _ _
        iterate 3 refine aN rfl rfl (by constructor) ?_
        refine sE ?_
        refine ⟨_, out3 (r_tmp rfl (by constructor)) (r_tmp rfl (by constructor)) (r_tmp rfl (by constructor)) ⟨rfl, rfl, rfl⟩, ?_⟩
        have hc3 : ((xpt X).regs.any fun r => r.2 == o.act) = false ∧ pallB (xpt X) o = false := pre_c3b hp h136n
        have st := st.nil 75
        have hM : preemptM (xpt X) n o = ⟨24, 0, [], xpt X⟩ := by unfold preemptM; rw [if_neg hc1, if_neg hc2, if_pos hc3]
        rw [hM]
        exact ⟨X, none, rfl, hX, rfl, st.sel [2, 0] (by decide)⟩
       ·have h136n : ((o.act == 0) || (xr X.ks).any fun r => r.2 == o.act) = true := Eq.mp (Bool.not_eq_false' _) h136
        show AWl _ _ _ _ _
        have hc3 : ¬ (((xpt X).regs.any fun r => r.2 == o.act) = false ∧ pallB (xpt X) o = false) := pre_c3 hp h136n
        refine aN rfl rfl (by constructor) ?_
        refine sE ?_
        refine AW_cutK (b := .seq (.seq (.list (⟨some 138, _, _⟩ :: _)) _) _) (fun t1 H1 => ∃ (oe : Option Nat), t1 12 = accV oe (goneE (xpt X) n o).length 2 ∧ Stt [b] H H1 [⟨oe, true, ⟨true, 75, (goneE (xpt X) n o).flatMap ev2E⟩⟩, ⟨some b5, true, ⟨true, 72, [.int .i64 o.sv, .int .i64 o.ty, .int .u64 o.key, .int .u64 o.act, .bool o.ap]⟩⟩, ⟨some b, true, ⟨true, 65, k8 (zk X.ks n o 8) [.int .i64 X.kd, .int .i64 X.hd, .int .u32 X.gen, .bool X.ls]⟩⟩]) [12, 13, 96, 97, 98, 99, 100, 101, 102, 103, 104, 105, 106, 107, 108, 109, 110, 111, 112, 113, 114, 115, 116, 117, 118, 119, 120, 121, 122, 123, 124, 125, 126, 127, 128, 129, 130, 131, 132, 133, 134, 135, 136, 137] (by decide) ?_ fun t1 H1 hk hI => ?_
        ·show AWl _ _ _ _ _
         refine aN rfl rfl (by constructor) ?_
         refine sE ?_
         show AW _ (.loop _) _ _ _
         have st := st.nil 75
         refine AW_loopN (fun m t1 H1 => ∃ (j : Nat) (oc : Option Nat), m = 8 - j ∧ (j ≤ 8) ∧ t1 13 = .int .i64 (j : Int) ∧ t1 12 = accV oc (goneTo X n o j).length 2 ∧ Stt [b] H H1 [⟨oc, true, ⟨true, 75, ((goneTo X n o j)).flatMap ev2E⟩⟩, ⟨some b5, true, ⟨true, 72, [.int .i64 o.sv, .int .i64 o.ty, .int .u64 o.key, .int .u64 o.act, .bool o.ap]⟩⟩, ⟨some b, true, ⟨true, 65, k8 (zk X.ks n o j) [.int .i64 X.kd, .int .i64 X.hd, .int .u32 X.gen, .bool X.ls]⟩⟩]) (8 - 0) ⟨0, none, rfl, by omega, rfl, rfl, (st.sel [0, 1, 2] (by decide))⟩ [12, 13, 96, 97, 98, 99, 100, 101, 102, 103, 104, 105, 106, 107, 108, 109, 110, 111, 112, 113, 114, 115, 116, 117, 118, 119, 120, 121, 122, 123, 124, 125, 126, 127, 128, 129, 130, 131, 132, 133, 134, 135, 136, 137] (by decide) ?_
         rintro m t1 H1 hk hI
         obtain ⟨j, oc, rfl, hj, ht13, ht12, st⟩ := hI
         obtain ⟨u, rfl⟩ : ∃ u, t1 = (upd (upd (mix [12, 13, 96, 97, 98, 99, 100, 101, 102, 103, 104, 105, 106, 107, 108, 109, 110, 111, 112, 113, 114, 115, 116, 117, 118, 119, 120, 121, 122, 123, 124, 125, 126, 127, 128, 129, 130, 131, 132, 133, 134, 135, 136, 137] _ u) (some 13) _) (some 12) _) := ⟨t1, by rw [← hk, upd_self ht13, upd_self ht12]⟩
         clear hk ht13 ht12
         show AWl _ _ _ _ _
         iterate 2 refine aN rfl rfl (by constructor) ?_
         refine sE ?_
         show AW _ (.cond _ _ _) _ _ _
         refine cC' rfl (fun h137 => ?_) (fun h137 => ?_)
         ·have hlt : j < 8 := by have := of_decide_eq_true h137; omega
          show AWp _ _ _ _ _
          iterate 4 refine aN rfl rfl (by constructor) ?_
          refine gCase 103 rfl (fun h138 => ?_) (fun h138 => ?_)
          ·refine gT rfl ?_
           refine aN rfl rfl (by constructor) ?_
           refine gT rfl ?_
           refine aN rfl rfl (by constructor) ?_
           refine gT rfl ?_
           refine aN rfl rfl (by constructor) ?_
           refine gT rfl ?_
           refine aN rfl rfl (by constructor) ?_
           refine gT rfl ?_
           refine aIxA rfl rfl (by omega) ?_
           refine gT rfl ?_
           refine aLd st 2 rfl rfl (k8_at (zk X.ks n o j) _ (by omega)) (by constructor) ?_
           rw [show (zk X.ks n o j).getD ((j : Int)).toNat 0 = X.ks.getD j 0 from zk_at n o (by rw [hX.len]; omega)]
           refine gT rfl ?_
           iterate 3 refine aN rfl rfl (by constructor) ?_
           refine gCase 112 rfl (fun h139 => ?_) (fun h139 => ?_)
           ·refine gT rfl ?_
            refine aN rfl rfl (by constructor) ?_
            refine gT rfl ?_
            refine aLd st 1 rfl rfl rfl (by constructor) ?_
            refine gT rfl ?_
            refine aN rfl rfl (by constructor) ?_
            refine gT rfl ?_
            refine aMovV (.bool false) (congrArg Value.bool h111) ?_
            refine gT rfl ?_
            refine aN rfl rfl (by constructor) ?_
            refine gT rfl ?_
            refine aN rfl rfl (by constructor) ?_
            refine gT rfl ?_
            refine aN rfl rfl (by constructor) ?_
            refine gT rfl ?_
            refine aN rfl rfl (by constructor) ?_
            refine gT rfl ?_
            refine aIxA rfl rfl (by omega) ?_
            refine gT rfl ?_
            refine aLd st 2 rfl rfl (k8_at (zk X.ks n o j) _ (by omega)) (by constructor) ?_
            rw [show (zk X.ks n o j).getD ((j : Int)).toNat 0 = X.ks.getD j 0 from zk_at n o (by rw [hX.len]; omega)]
            refine gT rfl ?_
            refine aN rfl rfl (by constructor) ?_
            refine gT rfl ?_
            refine aLd st 1 rfl rfl rfl (by constructor) ?_
            refine gT rfl ?_
            refine aN rfl rfl (by constructor) ?_
            refine gT rfl ?_
            iterate 2 refine aN rfl rfl (by constructor) ?_
            refine pE ?_
            show AW _ (.cond _ _ _) _ _ _
            refine cC' rfl (fun h140 => ?_) (fun h140 => ?_)
            ·show AWl _ _ _ _ _
             have hg : goes n o j (X.ks.getD j 0) = true := by unfold goes; simp only [h138, h139, h111, h140, Bool.and_true, Bool.true_and, Bool.false_and, Bool.and_false, Bool.or_true, Bool.true_or, Bool.false_or, Bool.or_false]
             have ho2 : (goneTo X n o (j + 1)) = (goneTo X n o j) ++ [((j : Int), 10757)] := gone_t hp hg
             have hz2 : zk X.ks n o (j + 1) = (zk X.ks n o j).set j 0 := if_pos hg
             iterate 4 refine aN rfl rfl (by constructor) ?_
             refine aIxA rfl rfl (by omega) ?_
             refine aStAt (u := .int .u64 0) (cs := k8 ((zk X.ks n o j).set j 0) [.int .i64 X.kd, .int .i64 X.hd, .int .u32 X.gen, .bool X.ls]) st 2 rfl rfl rfl rfl rfl (by show 0 + ((j : Int)).toNat * 1 < 12; omega) (k8_set (n := (j : Int)) (by rw [zk_len]; exact hX.len) _ (by omega)) fun H141 st => ?_
             refine sE ?_
             show AWl _ _ _ _ _
             refine aMovA rfl ?_
             refine aN rfl rfl (by constructor) ?_
             refine aBld rfl (by repeat constructor) ?_
             refine aLit st rfl (by repeat constructor) fun b136 H142 st => ?_
             refine aApp st 1 (ob := oc) rfl rfl rfl (by decide) (by exact flat_len' ev2E_len _) (st.rowAll 0 rfl (by first | rfl | (simp [beB_len, *]; done) | (simp [beB_len, *]; omega))).src (by first | rfl | simp) (by have := gone_len X n o j; omega) (by have := gone_len X n o j; omega) fun b137 H143 hp137 st => ?_
             have st := st.recell 1 rfl (cs' := (goneTo X n o (j + 1)).flatMap ev2E) (flat_snoc ho2 rfl)
             have hc3 : ¬ (((xpt X).regs.any fun r => r.2 == o.act) = false ∧ pallB (xpt X) o = false) := pre_c3 hp h136n
             refine aMovA rfl ?_
             refine sE ?_
             show AWl _ _ _ _ _
             iterate 3 refine aN rfl rfl (by constructor) ?_
             refine sE ?_
             have st := st.recell 3 rfl (cs' := k8 (zk X.ks n o (j + 1)) [.int .i64 X.kd, .int .i64 X.hd, .int .u32 X.gen, .bool X.ls]) (by rw [hz2])
             exact ⟨_, by omega, j + 1, b137, rfl, by omega, congrArg (Value.int .i64) (wi _ (by omega)), congrArg (fun n => accV _ n 2) (len_snoc ho2), (st.sel [1, 2, 3] (by decide))⟩
            ·show AWl _ _ _ _ _
             iterate 3 refine aN rfl rfl (by constructor) ?_
             refine sE ?_
             have hg : goes n o j (X.ks.getD j 0) = false := by unfold goes; simp only [h138, h139, h111, h140, Bool.and_true, Bool.true_and, Bool.false_and, Bool.and_false, Bool.or_true, Bool.true_or, Bool.false_or, Bool.or_false]
             have ho2 : (goneTo X n o (j + 1)) = (goneTo X n o j) := gone_f hp hg
             have hz2 : zk X.ks n o (j + 1) = zk X.ks n o j := if_neg (by rw [hg]; decide)
             have st := st.recell 0 rfl (cs' := (goneTo X n o (j + 1)).flatMap ev2E) (by rw [ho2])
             have st := st.recell 2 rfl (cs' := k8 (zk X.ks n o (j + 1)) [.int .i64 X.kd, .int .i64 X.hd, .int .u32 X.gen, .bool X.ls]) (by rw [hz2])
             exact ⟨_, by omega, j + 1, oc, rfl, by omega, congrArg (Value.int .i64) (wi _ (by omega)), congrArg (fun n => accV _ n 2) (congrArg List.length ho2.symm), (st.sel [0, 1, 2] (by decide))⟩
           ·refine gF rfl (by decide) ?_
            refine gF rfl (by decide) ?_
            refine gF rfl (by decide) ?_
            refine gF rfl (by decide) ?_
            refine gU rfl ?_
            refine gU rfl ?_
            refine gU rfl ?_
            refine gU rfl ?_
            refine gU rfl ?_
            refine gU rfl ?_
            refine gU rfl ?_
            refine gU rfl ?_
            refine gU rfl ?_
            refine gF rfl (by decide) ?_
            refine aN rfl rfl (by constructor) ?_
            refine pE ?_
            show AW _ (.cond _ _ _) _ _ _
            refine cF' rfl ?_
            show AWl _ _ _ _ _
            iterate 3 refine aN rfl rfl (by constructor) ?_
            refine sE ?_
            have hg : goes n o j (X.ks.getD j 0) = false := by unfold goes; simp only [h138, h139, h111, Bool.and_true, Bool.true_and, Bool.false_and, Bool.and_false, Bool.or_true, Bool.true_or, Bool.false_or, Bool.or_false]
            have ho2 : (goneTo X n o (j + 1)) = (goneTo X n o j) := gone_f hp hg
            have hz2 : zk X.ks n o (j + 1) = zk X.ks n o j := if_neg (by rw [hg]; decide)
            have st := st.recell 0 rfl (cs' := (goneTo X n o (j + 1)).flatMap ev2E) (by rw [ho2])
            have st := st.recell 2 rfl (cs' := k8 (zk X.ks n o (j + 1)) [.int .i64 X.kd, .int .i64 X.hd, .int .u32 X.gen, .bool X.ls]) (by rw [hz2])
            exact ⟨_, by omega, j + 1, oc, rfl, by omega, congrArg (Value.int .i64) (wi _ (by omega)), congrArg (fun n => accV _ n 2) (congrArg List.length ho2.symm), (st.sel [0, 1, 2] (by decide))⟩
          ·refine gF rfl (by decide) ?_
           refine gF rfl (by decide) ?_
           refine gF rfl (by decide) ?_
           refine gF rfl (by decide) ?_
           refine gF rfl (by decide) ?_
           refine gF rfl (by decide) ?_
           refine gF rfl (by decide) ?_
           iterate 2 refine aN rfl rfl (by constructor) ?_
           refine gF rfl (by decide) ?_
           refine gF rfl (by decide) ?_
           refine gF rfl (by decide) ?_
           refine gF rfl (by decide) ?_
           refine gU rfl ?_
           refine gU rfl ?_
           refine gU rfl ?_
           refine gU rfl ?_
           refine gU rfl ?_
           refine gU rfl ?_
           refine gU rfl ?_
           refine gU rfl ?_
           refine gU rfl ?_
           refine gF rfl (by decide) ?_
           refine aN rfl rfl (by constructor) ?_
           refine pE ?_
           show AW _ (.cond _ _ _) _ _ _
           refine cF' rfl ?_
           show AWl _ _ _ _ _
           iterate 3 refine aN rfl rfl (by constructor) ?_
           refine sE ?_
           have hg : goes n o j (X.ks.getD j 0) = false := by unfold goes; simp only [h138, h111, Bool.and_true, Bool.true_and, Bool.false_and, Bool.and_false, Bool.or_true, Bool.true_or, Bool.false_or, Bool.or_false]
           have ho2 : (goneTo X n o (j + 1)) = (goneTo X n o j) := gone_f hp hg
           have hz2 : zk X.ks n o (j + 1) = zk X.ks n o j := if_neg (by rw [hg]; decide)
           have st := st.recell 0 rfl (cs' := (goneTo X n o (j + 1)).flatMap ev2E) (by rw [ho2])
           have st := st.recell 2 rfl (cs' := k8 (zk X.ks n o (j + 1)) [.int .i64 X.kd, .int .i64 X.hd, .int .u32 X.gen, .bool X.ls]) (by rw [hz2])
           exact ⟨_, by omega, j + 1, oc, rfl, by omega, congrArg (Value.int .i64) (wi _ (by omega)), congrArg (fun n => accV _ n 2) (congrArg List.length ho2.symm), (st.sel [0, 1, 2] (by decide))⟩
         ·have hge : j = 8 := by have := of_decide_eq_false h137; omega
          subst hge
          exact ⟨oc, rfl, (st.sel [0, 1, 2] (by decide))⟩
        ·obtain ⟨oe, ht12, st⟩ := hI
         obtain ⟨u, rfl⟩ : ∃ u, t1 = (upd (mix [12, 13, 96, 97, 98, 99, 100, 101, 102, 103, 104, 105, 106, 107, 108, 109, 110, 111, 112, 113, 114, 115, 116, 117, 118, 119, 120, 121, 122, 123, 124, 125, 126, 127, 128, 129, 130, 131, 132, 133, 134, 135, 136, 137] _ u) (some 12) _) := ⟨t1, by rw [← hk, upd_self ht12]⟩
         clear hk ht12
         refine AW_cutK (b := .seq (.list (⟨some 165, _, _⟩ :: _)) _) (fun t1 H1 => ∃ (oe : Option Nat), t1 12 = accV oe (goneE (xpt X) n o ++ relE (xpt X) n o).length 2 ∧ Stt [b] H H1 [⟨oe, true, ⟨true, 75, (goneE (xpt X) n o ++ relE (xpt X) n o).flatMap ev2E⟩⟩, ⟨some b, true, ⟨true, 65, k8 (zk X.ks n o 8) [.int .i64 (if (heldB (xpt X) o || pallB (xpt X) o) = true then o.ty else X.kd), .int .i64 (if (heldB (xpt X) o || pallB (xpt X) o) = true then n else X.hd), .int .u32 X.gen, .bool X.ls]⟩⟩]) [12, 14, 138, 139, 140, 141, 142, 143, 144, 145, 146, 147, 148, 149, 150, 151, 152, 153, 154, 155, 156, 157, 158, 159, 160, 161, 162, 163, 164] (by decide) ?_ fun t1 H1 hk hI => ?_
         ·show AWl _ _ _ _ _
          refine aMovV (.bool true) (congrArg Value.bool h131) ?_
          refine sE ?_
          show AW _ (.cond _ _ _) _ _ _
          refine cT rfl ?_
          show AWl _ _ _ _ _
          iterate 3 refine aN rfl rfl (by constructor) ?_
          refine aLd st 2 rfl rfl rfl (by constructor) ?_
          refine aN rfl rfl (by constructor) ?_
          refine sE ?_
          show AWl _ _ _ _ _
          iterate 2 refine aN rfl rfl (by constructor) ?_
          refine aLd st 1 rfl rfl rfl (by constructor) ?_
          iterate 2 refine aN rfl rfl (by constructor) ?_
          refine aSt st 2 rfl rfl rfl rfl (by first | rfl | simp [cellsOf, *]) (by first | decide | (simp [*]; done) | (simp [k8]; done)) (by repeat constructor) fun H144 st => ?_
          refine sE ?_
          show AWl _ _ _ _ _
          iterate 4 refine aN rfl rfl (by constructor) ?_
          refine aSt st 2 rfl rfl rfl rfl (by first | rfl | simp [cellsOf, *]) (by first | decide | (simp [*]; done) | (simp [k8]; done)) (by repeat constructor) fun H145 st => ?_
          refine sE ?_
          show AWl _ _ _ _ _
          iterate 3 refine aN rfl rfl (by constructor) ?_
          refine gCase 154 rfl (fun h146 => ?_) (fun h146 => ?_)
          ·refine gT rfl ?_
           refine aN rfl rfl (by constructor) ?_
           refine gT rfl ?_
           refine aN rfl rfl (by constructor) ?_
           refine gT rfl ?_
           refine aLd st 1 rfl rfl rfl (by constructor) ?_
           refine gT rfl ?_
           iterate 2 refine aN rfl rfl (by constructor) ?_
           refine sE ?_
           show AW _ (.cond _ _ _) _ _ _
           refine cC' rfl (fun h147 => ?_) (fun h147 => ?_)
           ·show AWl _ _ _ _ _
            have hb1 : (goneE (xpt X) n o).length ≤ 8 := gone_len X n o 8
            have hb2 : (othersM (zk X.ks n o 8) n 10756).length ≤ 8 := oth_len (zk X.ks n o 8) n 10756 8
            refine aMovA rfl ?_
            iterate 2 refine aN rfl rfl (by constructor) ?_
            refine aC (others_call (X := ({ ks := (zk X.ks n o 8), kd := o.ty, hd := n, gen := X.gen, ls := X.ls } : XT)) (but := n) (code := 10756) (st.get (j := 2) rfl)) fun v163 H148 ⟨oe163, hv, st1⟩ => ?_
            subst hv
            replace st := st.call st1 rfl
            clear st1
            rw [show othersM ({ ks := (zk X.ks n o 8), kd := o.ty, hd := n, gen := X.gen, ls := X.ls } : XT).ks n 10756 = othersM (zk X.ks n o 8) n 10756 from rfl] at st ⊢
            refine aApp st 1 (ob := oe) rfl rfl rfl (by decide) (by exact flat_len' ev2E_len _) (st.rowAcc 0 rfl (by decide) (by exact flat_len' ev2E_len _)).src (by exact flat_len' ev2E_len _) (by omega) (by omega) fun b164 H149 hp164 st => ?_
            have hc3 : ¬ (((xpt X).regs.any fun r => r.2 == o.act) = false ∧ pallB (xpt X) o = false) := pre_c3 hp h136n
            refine aMovA rfl ?_
            refine sE ?_
            have hK : (if (heldB (xpt X) o || pallB (xpt X) o) = true then o.ty else X.kd) = o.ty := if_pos h131
            have hD : (if (heldB (xpt X) o || pallB (xpt X) o) = true then n else X.hd) = n := if_pos h131
            have hR : relE (xpt X) n o = othersM (zk X.ks n o 8) n 10756 := by unfold relE othersM; rw [if_pos ⟨h131, by simp_all [xpt], by simp_all [xpt]⟩, xr_zk hX.len hp]
            have st2 := st.sel [1, 3] (by decide)
            exact ⟨b164, (by rw [hR, List.length_append] <;> rfl), by rw [hR, hK, hD, List.flatMap_append]; exact st2⟩
           ·have hK : (if (heldB (xpt X) o || pallB (xpt X) o) = true then o.ty else X.kd) = o.ty := if_pos h131
            have hD : (if (heldB (xpt X) o || pallB (xpt X) o) = true then n else X.hd) = n := if_pos h131
            have hR : relE (xpt X) n o = [] := if_neg (fun hc => by have h1 := hc.2.1; have h2 := hc.2.2; simp_all [xpt] <;> omega)
            have st2 := st.sel [0, 2] (by decide)
            exact ⟨oe, (by rw [hR, List.append_nil] <;> rfl), by rw [hR, hK, hD, List.append_nil]; exact st2⟩
          ·refine gF rfl (by decide) ?_
           refine gF rfl (by decide) ?_
           refine gF rfl (by decide) ?_
           refine gF rfl (by decide) ?_
           refine aN rfl rfl (by constructor) ?_
           refine sE ?_
           show AW _ (.cond _ _ _) _ _ _
           refine cF' rfl ?_
           have hK : (if (heldB (xpt X) o || pallB (xpt X) o) = true then o.ty else X.kd) = o.ty := if_pos h131
           have hD : (if (heldB (xpt X) o || pallB (xpt X) o) = true then n else X.hd) = n := if_pos h131
           have hR : relE (xpt X) n o = [] := if_neg (fun hc => by have h1 := hc.2.1; have h2 := hc.2.2; simp_all [xpt] <;> omega)
           have st2 := st.sel [0, 2] (by decide)
           exact ⟨oe, (by rw [hR, List.append_nil] <;> rfl), by rw [hR, hK, hD, List.append_nil]; exact st2⟩
         ·obtain ⟨oe, ht12, st⟩ := hI
          obtain ⟨u, rfl⟩ : ∃ u, t1 = (upd (mix [12, 14, 138, 139, 140, 141, 142, 143, 144, 145, 146, 147, 148, 149, 150, 151, 152, 153, 154, 155, 156, 157, 158, 159, 160, 161, 162, 163, 164] _ u) (some 12) _) := ⟨t1, by rw [← hk, upd_self ht12]⟩
          clear hk ht12
          show AWl _ _ _ _ _
          iterate 3 refine aN rfl rfl (by constructor) ?_
          refine aLd st 1 rfl rfl rfl (by constructor) ?_
          iterate 3 refine aN rfl rfl (by constructor) ?_
          refine aSt st 1 rfl rfl rfl rfl (by first | rfl | simp [cellsOf, *]) (by first | decide | (simp [*]; done) | (simp [k8]; done)) (by repeat constructor) fun H150 st => ?_
          refine sE ?_
          show AWl _ _ _ _ _
          refine aMovA rfl ?_
          iterate 2 refine aN rfl rfl (by constructor) ?_
          refine aMovA rfl ?_
          refine sE ?_
          refine ⟨_, out3 (r_tmp rfl (by constructor)) (r_tmp rfl (by constructor)) (r_acc rfl) ⟨rfl, rfl, notTup_acc⟩, ?_⟩
          have hM : preemptM (xpt X) n o = ⟨0, 0, goneE (xpt X) n o ++ relE (xpt X) n o, { xpt X with regs := leftM (xpt X) n o, kind := (if (heldB (xpt X) o || pallB (xpt X) o) = true then o.ty else X.kd), holder := if (heldB (xpt X) o || pallB (xpt X) o) = true then n else (xpt X).holder, gen := inc32 X.gen }⟩ := by unfold preemptM; rw [if_neg hc1, if_neg hc2, if_neg hc3]; rfl
          rw [hM]
          exact ⟨({ ks := (zk X.ks n o 8), kd := (if (heldB (xpt X) o || pallB (xpt X) o) = true then o.ty else X.kd), hd := (if (heldB (xpt X) o || pallB (xpt X) o) = true then n else X.hd), gen := inc32 X.gen, ls := X.ls } : XT), oe, rfl, zk_ok hX (ite_bd hty hX.kd) (ite_bd hn hX.hd), pre_tab hX hp hc2, st.sel [1, 0] (by decide)⟩
    ·refine gF rfl (by decide) ?_
     refine gF rfl (by decide) ?_
     refine gF rfl (by decide) ?_
     refine gF rfl (by decide) ?_
     refine aN rfl rfl (by constructor) ?_
     refine sE ?_
     show AW _ (.cond _ _ _) _ _ _
     refine cF' rfl ?_
     show AWl _ _ _ _ _
     have hc2 : ¬ ((heldB (xpt X) o || pallB (xpt X) o) = true ∧ typeB o.ty = false) := by simp_all
     refine aN rfl rfl (by constructor) ?_
     refine aLd st 0 rfl rfl rfl (by constructor) ?_
     refine aN rfl rfl (by constructor) ?_
     refine aMovV (.bool false) (congrArg Value.bool h111) ?_
     refine sE ?_
     refine AW_cutK (b := .seq (.seq (.list (⟨some 94, _, _⟩ :: _)) _) _) (fun t1 H1 => t1 10 = .bool ((o.act == 0) || (xr X.ks).any fun r => r.2 == o.act) ∧ Stt [b] H H1 [⟨some b5, true, ⟨true, 72, [.int .i64 o.sv, .int .i64 o.ty, .int .u64 o.key, .int .u64 o.act, .bool o.ap]⟩⟩, ⟨some b, true, ⟨true, 65, k8 X.ks [.int .i64 X.kd, .int .i64 X.hd, .int .u32 X.gen, .bool X.ls]⟩⟩]) [10, 11, 81, 82, 83, 84, 85, 86, 87, 88, 89, 90, 91, 92, 93] (by decide) ?_ fun t1 H1 hk hI => ?_
     ·show AWl _ _ _ _ _
      refine aN rfl rfl (by constructor) ?_
      refine sE ?_
      show AW _ (.loop _) _ _ _
      refine AW_loopN (fun m t1 H1 => ∃ (j : Nat), m = 8 - j ∧ (j ≤ 8) ∧ t1 11 = .int .i64 (j : Int) ∧ t1 10 = .bool ((o.act == 0) || (List.range j).any (fun i => X.ks.getD i 0 == o.act)) ∧ Stt [b] H H1 [⟨some b5, true, ⟨true, 72, [.int .i64 o.sv, .int .i64 o.ty, .int .u64 o.key, .int .u64 o.act, .bool o.ap]⟩⟩, ⟨some b, true, ⟨true, 65, k8 X.ks [.int .i64 X.kd, .int .i64 X.hd, .int .u32 X.gen, .bool X.ls]⟩⟩]) (8 - 0) ⟨0, rfl, by omega, rfl, congrArg Value.bool (by first | (simp; done) | simp_all), (st.sel [0, 1] (by decide))⟩ [10, 11, 81, 82, 83, 84, 85, 86, 87, 88, 89, 90, 91, 92, 93] (by decide) ?_
      rintro m t1 H1 hk hI
      obtain ⟨j, rfl, hj, ht11, ht10, st⟩ := hI
      obtain ⟨u, rfl⟩ : ∃ u, t1 = (upd (upd (mix [10, 11, 81, 82, 83, 84, 85, 86, 87, 88, 89, 90, 91, 92, 93] _ u) (some 11) _) (some 10) _) := ⟨t1, by rw [← hk, upd_self ht11, upd_self ht10]⟩
      clear hk ht11 ht10
      show AWl _ _ _ _ _
      iterate 2 refine aN rfl rfl (by constructor) ?_
      refine sE ?_
      show AW _ (.cond _ _ _) _ _ _
      refine cC' rfl (fun h151 => ?_) (fun h151 => ?_)
      ·have hlt : j < 8 := by have := of_decide_eq_true h151; omega
       show AWp _ _ _ _ _
       iterate 4 refine aN rfl rfl (by constructor) ?_
       refine aIxA rfl rfl (by omega) ?_
       refine aLd st 1 rfl rfl (k8_at X.ks _ (by omega)) (by constructor) ?_
       refine aN rfl rfl (by constructor) ?_
       refine aLd st 0 rfl rfl rfl (by constructor) ?_
       refine aN rfl rfl (by constructor) ?_
       refine pE ?_
       show AW _ (.cond _ _ _) _ _ _
       refine cC' rfl (fun h152 => ?_) (fun h152 => ?_)
       ·show AWl _ _ _ _ _
        refine aN rfl rfl (by constructor) ?_
        refine sE ?_
        show AWl _ _ _ _ _
        iterate 3 refine aN rfl rfl (by constructor) ?_
        refine sE ?_
        exact ⟨_, by omega, j + 1, rfl, by omega, congrArg (Value.int .i64) (wi _ (by omega)), congrArg Value.bool (by rw [any_range]; show _ = (_ || (_ || (X.ks.getD j 0 == o.act))); rw [show (X.ks.getD j 0 == o.act) = true from h152]; simp), (st.sel [0, 1] (by decide))⟩
       ·show AWl _ _ _ _ _
        iterate 3 refine aN rfl rfl (by constructor) ?_
        refine sE ?_
        exact ⟨_, by omega, j + 1, rfl, by omega, congrArg (Value.int .i64) (wi _ (by omega)), congrArg Value.bool (by rw [any_range]; show _ = (_ || (_ || (X.ks.getD j 0 == o.act))); rw [show (X.ks.getD j 0 == o.act) = false from h152]; simp), (st.sel [0, 1] (by decide))⟩
      ·have hge : j = 8 := by have := of_decide_eq_false h151; omega
       subst hge
       exact ⟨congrArg Value.bool (any_act X.ks o), (st.sel [0, 1] (by decide))⟩
     ·obtain ⟨ht10, st⟩ := hI
      obtain ⟨u, rfl⟩ : ∃ u, t1 = (upd (mix [10, 11, 81, 82, 83, 84, 85, 86, 87, 88, 89, 90, 91, 92, 93] _ u) (some 10) _) := ⟨t1, by rw [← hk, upd_self ht10]⟩
      clear hk ht10
      show AWl _ _ _ _ _
      iterate 2 refine aN rfl rfl (by constructor) ?_
      refine sE ?_
      show AW _ (.cond _ _ _) _ _ _
      refine cC' rfl (fun h153 => ?_) (fun h153 => ?_)
      ·have h153n : ((o.act == 0) || (xr X.ks).any fun r => r.2 == o.act) = false := Eq.mp (Bool.not_eq_true' _) h153
       show AWl _ _ _ _ _
       iterate 3 refine aN rfl rfl (by constructor) ?_
       refine sE ?_
       refine ⟨_, out3 (r_tmp rfl (by constructor)) (r_tmp rfl (by constructor)) (r_tmp rfl (by constructor)) ⟨rfl, rfl, rfl⟩, ?_⟩
       have hc3 : ((xpt X).regs.any fun r => r.2 == o.act) = false ∧ pallB (xpt X) o = false := pre_c3b hp h153n
       have st := st.nil 75
       have hM : preemptM (xpt X) n o = ⟨24, 0, [], xpt X⟩ := by unfold preemptM; rw [if_neg hc1, if_neg hc2, if_pos hc3]
       rw [hM]
       exact ⟨X, none, rfl, hX, rfl, st.sel [2, 0] (by decide)⟩
      ·have h153n : ((o.act == 0) || (xr X.ks).any fun r => r.2 == o.act) = true := Eq.mp (Bool.not_eq_false' _) h153
       show AWl _ _ _ _ _
       have hc3 : ¬ (((xpt X).regs.any fun r => r.2 == o.act) = false ∧ pallB (xpt X) o = false) := pre_c3 hp h153n
       refine aN rfl rfl (by constructor) ?_
       refine sE ?_
       refine AW_cutK (b := .seq (.seq (.list (⟨some 138, _, _⟩ :: _)) _) _) (fun t1 H1 => ∃ (oe : Option Nat), t1 12 = accV oe (goneE (xpt X) n o).length 2 ∧ Stt [b] H H1 [⟨oe, true, ⟨true, 75, (goneE (xpt X) n o).flatMap ev2E⟩⟩, ⟨some b5, true, ⟨true, 72, [.int .i64 o.sv, .int .i64 o.ty, .int .u64 o.key, .int .u64 o.act, .bool o.ap]⟩⟩, ⟨some b, true, ⟨true, 65, k8 (zk X.ks n o 8) [.int .i64 X.kd, .int .i64 X.hd, .int .u32 X.gen, .bool X.ls]⟩⟩]) [12, 13, 96, 97, 98, 99, 100, 101, 102, 103, 104, 105, 106, 107, 108, 109, 110, 111, 112, 113, 114, 115, 116, 117, 118, 119, 120, 121, 122, 123, 124, 125, 126, 127, 128, 129, 130, 131, 132, 133, 134, 135, 136, 137] (by decide) ?_ fun t1 H1 hk hI => ?_
       ·show AWl _ _ _ _ _
        refine aN rfl rfl (by constructor) ?_
        refine sE ?_
        show AW _ (.loop _) _ _ _
        have st := st.nil 75
        refine AW_loopN (fun m t1 H1 => ∃ (j : Nat) (oc : Option Nat), m = 8 - j ∧ (j ≤ 8) ∧ t1 13 = .int .i64 (j : Int) ∧ t1 12 = accV oc (goneTo X n o j).length 2 ∧ Stt [b] H H1 [⟨oc, true, ⟨true, 75, ((goneTo X n o j)).flatMap ev2E⟩⟩, ⟨some b5, true, ⟨true, 72, [.int .i64 o.sv, .int .i64 o.ty, .int .u64 o.key, .int .u64 o.act, .bool o.ap]⟩⟩, ⟨some b, true, ⟨true, 65, k8 (zk X.ks n o j) [.int .i64 X.kd, .int .i64 X.hd, .int .u32 X.gen, .bool X.ls]⟩⟩]) (8 - 0) ⟨0, none, rfl, by omega, rfl, rfl, (st.sel [0, 1, 2] (by decide))⟩ [12, 13, 96, 97, 98, 99, 100, 101, 102, 103, 104, 105, 106, 107, 108, 109, 110, 111, 112, 113, 114, 115, 116, 117, 118, 119, 120, 121, 122, 123, 124, 125, 126, 127, 128, 129, 130, 131, 132, 133, 134, 135, 136, 137] (by decide) ?_
        rintro m t1 H1 hk hI
        obtain ⟨j, oc, rfl, hj, ht13, ht12, st⟩ := hI
        obtain ⟨u, rfl⟩ : ∃ u, t1 = (upd (upd (mix [12, 13, 96, 97, 98, 99, 100, 101, 102, 103, 104, 105, 106, 107, 108, 109, 110, 111, 112, 113, 114, 115, 116, 117, 118, 119, 120, 121, 122, 123, 124, 125, 126, 127, 128, 129, 130, 131, 132, 133, 134, 135, 136, 137] _ u) (some 13) _) (some 12) _) := ⟨t1, by rw [← hk, upd_self ht13, upd_self ht12]⟩
        clear hk ht13 ht12
        show AWl _ _ _ _ _
        iterate 2 refine aN rfl rfl (by constructor) ?_
        refine sE ?_
        show AW _ (.cond _ _ _) _ _ _
        refine cC' rfl (fun h154 => ?_) (fun h154 => ?_)
        ·have hlt : j < 8 := by have := of_decide_eq_true h154; omega
         show AWp _ _ _ _ _
         iterate 4 refine aN rfl rfl (by constructor) ?_
         refine gCase 103 rfl (fun h155 => ?_) (fun h155 => ?_)
         ·refine gT rfl ?_
          refine aN rfl rfl (by constructor) ?_
          refine gT rfl ?_
          refine aN rfl rfl (by constructor) ?_
          refine gT rfl ?_
          refine aN rfl rfl (by constructor) ?_
          refine gT rfl ?_
          refine aN rfl rfl (by constructor) ?_
          refine gT rfl ?_
          refine aIxA rfl rfl (by omega) ?_
          refine gT rfl ?_
          refine aLd st 2 rfl rfl (k8_at (zk X.ks n o j) _ (by omega)) (by constructor) ?_
          rw [show (zk X.ks n o j).getD ((j : Int)).toNat 0 = X.ks.getD j 0 from zk_at n o (by rw [hX.len]; omega)]
          refine gT rfl ?_
          iterate 3 refine aN rfl rfl (by constructor) ?_
          refine gCase 112 rfl (fun h156 => ?_) (fun h156 => ?_)
          ·refine gT rfl ?_
           refine aN rfl rfl (by constructor) ?_
           refine gT rfl ?_
           refine aLd st 1 rfl rfl rfl (by constructor) ?_
           refine gT rfl ?_
           refine aN rfl rfl (by constructor) ?_
           refine gT rfl ?_
           refine aMovV (.bool false) (congrArg Value.bool h111) ?_
           refine gT rfl ?_
           refine aN rfl rfl (by constructor) ?_
           refine gT rfl ?_
           refine aN rfl rfl (by constructor) ?_
           refine gT rfl ?_
           refine aN rfl rfl (by constructor) ?_
           refine gT rfl ?_
           refine aN rfl rfl (by constructor) ?_
           refine gT rfl ?_
           refine aIxA rfl rfl (by omega) ?_
           refine gT rfl ?_
           refine aLd st 2 rfl rfl (k8_at (zk X.ks n o j) _ (by omega)) (by constructor) ?_
           rw [show (zk X.ks n o j).getD ((j : Int)).toNat 0 = X.ks.getD j 0 from zk_at n o (by rw [hX.len]; omega)]
           refine gT rfl ?_
           refine aN rfl rfl (by constructor) ?_
           refine gT rfl ?_
           refine aLd st 1 rfl rfl rfl (by constructor) ?_
           refine gT rfl ?_
           refine aN rfl rfl (by constructor) ?_
           refine gT rfl ?_
           iterate 2 refine aN rfl rfl (by constructor) ?_
           refine pE ?_
           show AW _ (.cond _ _ _) _ _ _
           refine cC' rfl (fun h157 => ?_) (fun h157 => ?_)
           ·show AWl _ _ _ _ _
            have hg : goes n o j (X.ks.getD j 0) = true := by unfold goes; simp only [h155, h156, h111, h157, Bool.and_true, Bool.true_and, Bool.false_and, Bool.and_false, Bool.or_true, Bool.true_or, Bool.false_or, Bool.or_false]
            have ho2 : (goneTo X n o (j + 1)) = (goneTo X n o j) ++ [((j : Int), 10757)] := gone_t hp hg
            have hz2 : zk X.ks n o (j + 1) = (zk X.ks n o j).set j 0 := if_pos hg
            iterate 4 refine aN rfl rfl (by constructor) ?_
            refine aIxA rfl rfl (by omega) ?_
            refine aStAt (u := .int .u64 0) (cs := k8 ((zk X.ks n o j).set j 0) [.int .i64 X.kd, .int .i64 X.hd, .int .u32 X.gen, .bool X.ls]) st 2 rfl rfl rfl rfl rfl (by show 0 + ((j : Int)).toNat * 1 < 12; omega) (k8_set (n := (j : Int)) (by rw [zk_len]; exact hX.len) _ (by omega)) fun H158 st => ?_
            refine sE ?_
            show AWl _ _ _ _ _
            refine aMovA rfl ?_
            refine aN rfl rfl (by constructor) ?_
            refine aBld rfl (by repeat constructor) ?_
            refine aLit st rfl (by repeat constructor) fun b136 H159 st => ?_
            refine aApp st 1 (ob := oc) rfl rfl rfl (by decide) (by exact flat_len' ev2E_len _) (st.rowAll 0 rfl (by first | rfl | (simp [beB_len, *]; done) | (simp [beB_len, *]; omega))).src (by first | rfl | simp) (by have := gone_len X n o j; omega) (by have := gone_len X n o j; omega) fun b137 H160 hp137 st => ?_
            have st := st.recell 1 rfl (cs' := (goneTo X n o (j + 1)).flatMap ev2E) (flat_snoc ho2 rfl)
            have hc3 : ¬ (((xpt X).regs.any fun r => r.2 == o.act) = false ∧ pallB (xpt X) o = false) := pre_c3 hp h153n
            refine aMovA rfl ?_
            refine sE ?_
            show AWl _ _ _ _ _
            iterate 3 refine aN rfl rfl (by constructor) ?_
            refine sE ?_
            have st := st.recell 3 rfl (cs' := k8 (zk X.ks n o (j + 1)) [.int .i64 X.kd, .int .i64 X.hd, .int .u32 X.gen, .bool X.ls]) (by rw [hz2])
            exact ⟨_, by omega, j + 1, b137, rfl, by omega, congrArg (Value.int .i64) (wi _ (by omega)), congrArg (fun n => accV _ n 2) (len_snoc ho2), (st.sel [1, 2, 3] (by decide))⟩
           ·show AWl _ _ _ _ _
            iterate 3 refine aN rfl rfl (by constructor) ?_
            refine sE ?_
            have hg : goes n o j (X.ks.getD j 0) = false := by unfold goes; simp only [h155, h156, h111, h157, Bool.and_true, Bool.true_and, Bool.false_and, Bool.and_false, Bool.or_true, Bool.true_or, Bool.false_or, Bool.or_false]
            have ho2 : (goneTo X n o (j + 1)) = (goneTo X n o j) := gone_f hp hg
            have hz2 : zk X.ks n o (j + 1) = zk X.ks n o j := if_neg (by rw [hg]; decide)
            have st := st.recell 0 rfl (cs' := (goneTo X n o (j + 1)).flatMap ev2E) (by rw [ho2])
            have st := st.recell 2 rfl (cs' := k8 (zk X.ks n o (j + 1)) [.int .i64 X.kd, .int .i64 X.hd, .int .u32 X.gen, .bool X.ls]) (by rw [hz2])
            exact ⟨_, by omega, j + 1, oc, rfl, by omega, congrArg (Value.int .i64) (wi _ (by omega)), congrArg (fun n => accV _ n 2) (congrArg List.length ho2.symm), (st.sel [0, 1, 2] (by decide))⟩
          ·refine gF rfl (by decide) ?_
           refine gF rfl (by decide) ?_
           refine gF rfl (by decide) ?_
           refine gF rfl (by decide) ?_
           refine gU rfl ?_
           refine gU rfl ?_
           refine gU rfl ?_
           refine gU rfl ?_
           refine gU rfl ?_
           refine gU rfl ?_
           refine gU rfl ?_
           refine gU rfl ?_
           refine gU rfl ?_
           refine gF rfl (by decide) ?_
           refine aN rfl rfl (by constructor) ?_
           refine pE ?_
           show AW _ (.cond _ _ _) _ _ _
           refine cF' rfl ?_
           show AWl _ _ _ _ _
           iterate 3 refine aN rfl rfl (by constructor) ?_
           refine sE ?_
           have hg : goes n o j (X.ks.getD j 0) = false := by unfold goes; simp only [h155, h156, h111, Bool.and_true, Bool.true_and, Bool.false_and, Bool.and_false, Bool.or_true, Bool.true_or, Bool.false_or, Bool.or_false]
           have ho2 : (goneTo X n o (j + 1)) = (goneTo X n o j) := gone_f hp hg
           have hz2 : zk X.ks n o (j + 1) = zk X.ks n o j := if_neg (by rw [hg]; decide)
           have st := st.recell 0 rfl (cs' := (goneTo X n o (j + 1)).flatMap ev2E) (by rw [ho2])
           have st := st.recell 2 rfl (cs' := k8 (zk X.ks n o (j + 1)) [.int .i64 X.kd, .int .i64 X.hd, .int .u32 X.gen, .bool X.ls]) (by rw [hz2])
           exact ⟨_, by omega, j + 1, oc, rfl, by omega, congrArg (Value.int .i64) (wi _ (by omega)), congrArg (fun n => accV _ n 2) (congrArg List.length ho2.symm), (st.sel [0, 1, 2] (by decide))⟩
         ·refine gF rfl (by decide) ?_
          refine gF rfl (by decide) ?_
          refine gF rfl (by decide) ?_
          refine gF rfl (by decide) ?_
          refine gF rfl (by decide) ?_
          refine gF rfl (by decide) ?_
          refine gF rfl (by decide) ?_
          iterate 2 refine aN rfl rfl (by constructor) ?_
          refine gF rfl (by decide) ?_
          refine gF rfl (by decide) ?_
          refine gF rfl (by decide) ?_
          refine gF rfl (by decide) ?_
          refine gU rfl ?_
          refine gU rfl ?_
          refine gU rfl ?_
          refine gU rfl ?_
          refine gU rfl ?_
          refine gU rfl ?_
          refine gU rfl ?_
          refine gU rfl ?_
          refine gU rfl ?_
          refine gF rfl (by decide) ?_
          refine aN rfl rfl (by constructor) ?_
          refine pE ?_
          show AW _ (.cond _ _ _) _ _ _
          refine cF' rfl ?_
          show AWl _ _ _ _ _
          iterate 3 refine aN rfl rfl (by constructor) ?_
          refine sE ?_
          have hg : goes n o j (X.ks.getD j 0) = false := by unfold goes; simp only [h155, h111, Bool.and_true, Bool.true_and, Bool.false_and, Bool.and_false, Bool.or_true, Bool.true_or, Bool.false_or, Bool.or_false]
          have ho2 : (goneTo X n o (j + 1)) = (goneTo X n o j) := gone_f hp hg
          have hz2 : zk X.ks n o (j + 1) = zk X.ks n o j := if_neg (by rw [hg]; decide)
          have st := st.recell 0 rfl (cs' := (goneTo X n o (j + 1)).flatMap ev2E) (by rw [ho2])
          have st := st.recell 2 rfl (cs' := k8 (zk X.ks n o (j + 1)) [.int .i64 X.kd, .int .i64 X.hd, .int .u32 X.gen, .bool X.ls]) (by rw [hz2])
          exact ⟨_, by omega, j + 1, oc, rfl, by omega, congrArg (Value.int .i64) (wi _ (by omega)), congrArg (fun n => accV _ n 2) (congrArg List.length ho2.symm), (st.sel [0, 1, 2] (by decide))⟩
        ·have hge : j = 8 := by have := of_decide_eq_false h154; omega
         subst hge
         exact ⟨oc, rfl, (st.sel [0, 1, 2] (by decide))⟩
       ·obtain ⟨oe, ht12, st⟩ := hI
        obtain ⟨u, rfl⟩ : ∃ u, t1 = (upd (mix [12, 13, 96, 97, 98, 99, 100, 101, 102, 103, 104, 105, 106, 107, 108, 109, 110, 111, 112, 113, 114, 115, 116, 117, 118, 119, 120, 121, 122, 123, 124, 125, 126, 127, 128, 129, 130, 131, 132, 133, 134, 135, 136, 137] _ u) (some 12) _) := ⟨t1, by rw [← hk, upd_self ht12]⟩
        clear hk ht12
        refine AW_cutK (b := .seq (.list (⟨some 165, _, _⟩ :: _)) _) (fun t1 H1 => ∃ (oe : Option Nat), t1 12 = accV oe (goneE (xpt X) n o ++ relE (xpt X) n o).length 2 ∧ Stt [b] H H1 [⟨oe, true, ⟨true, 75, (goneE (xpt X) n o ++ relE (xpt X) n o).flatMap ev2E⟩⟩, ⟨some b, true, ⟨true, 65, k8 (zk X.ks n o 8) [.int .i64 (if (heldB (xpt X) o || pallB (xpt X) o) = true then o.ty else X.kd), .int .i64 (if (heldB (xpt X) o || pallB (xpt X) o) = true then n else X.hd), .int .u32 X.gen, .bool X.ls]⟩⟩]) [12, 14, 138, 139, 140, 141, 142, 143, 144, 145, 146, 147, 148, 149, 150, 151, 152, 153, 154, 155, 156, 157, 158, 159, 160, 161, 162, 163, 164] (by decide) ?_ fun t1 H1 hk hI => ?_
        ·show AWl _ _ _ _ _
         refine aMovV (.bool false) (congrArg Value.bool h131) ?_
         refine sE ?_
         show AW _ (.cond _ _ _) _ _ _
         refine cF' rfl ?_
         have hK : (if (heldB (xpt X) o || pallB (xpt X) o) = true then o.ty else X.kd) = X.kd := if_neg (by rw [h131]; decide)
         have hD : (if (heldB (xpt X) o || pallB (xpt X) o) = true then n else X.hd) = X.hd := if_neg (by rw [h131]; decide)
         have hR : relE (xpt X) n o = [] := if_neg (fun hc => by have h1 := hc.1.symm.trans h131; cases h1)
         have st2 := st.sel [0, 2] (by decide)
         exact ⟨oe, (by rw [hR, List.append_nil] <;> rfl), by rw [hR, hK, hD, List.append_nil]; exact st2⟩
        ·obtain ⟨oe, ht12, st⟩ := hI
         obtain ⟨u, rfl⟩ : ∃ u, t1 = (upd (mix [12, 14, 138, 139, 140, 141, 142, 143, 144, 145, 146, 147, 148, 149, 150, 151, 152, 153, 154, 155, 156, 157, 158, 159, 160, 161, 162, 163, 164] _ u) (some 12) _) := ⟨t1, by rw [← hk, upd_self ht12]⟩
         clear hk ht12
         show AWl _ _ _ _ _
         iterate 3 refine aN rfl rfl (by constructor) ?_
         refine aLd st 1 rfl rfl rfl (by constructor) ?_
         iterate 3 refine aN rfl rfl (by constructor) ?_
         refine aSt st 1 rfl rfl rfl rfl (by first | rfl | simp [cellsOf, *]) (by first | decide | (simp [*]; done) | (simp [k8]; done)) (by repeat constructor) fun H161 st => ?_
         refine sE ?_
         show AWl _ _ _ _ _
         refine aMovA rfl ?_
         iterate 2 refine aN rfl rfl (by constructor) ?_
         refine aMovA rfl ?_
         refine sE ?_
         refine ⟨_, out3 (r_tmp rfl (by constructor)) (r_tmp rfl (by constructor)) (r_acc rfl) ⟨rfl, rfl, notTup_acc⟩, ?_⟩
         have hM : preemptM (xpt X) n o = ⟨0, 0, goneE (xpt X) n o ++ relE (xpt X) n o, { xpt X with regs := leftM (xpt X) n o, kind := (if (heldB (xpt X) o || pallB (xpt X) o) = true then o.ty else X.kd), holder := if (heldB (xpt X) o || pallB (xpt X) o) = true then n else (xpt X).holder, gen := inc32 X.gen }⟩ := by unfold preemptM; rw [if_neg hc1, if_neg hc2, if_neg hc3]; rfl
         rw [hM]
         exact ⟨({ ks := (zk X.ks n o 8), kd := (if (heldB (xpt X) o || pallB (xpt X) o) = true then o.ty else X.kd), hd := (if (heldB (xpt X) o || pallB (xpt X) o) = true then n else X.hd), gen := inc32 X.gen, ls := X.ls } : XT), oe, rfl, zk_ok hX (ite_bd hty hX.kd) (ite_bd hn hX.hd), pre_tab hX hp hc2, st.sel [1, 0] (by decide)⟩
end Go.Proofs.Ytihkghfmihdicaa.Abs
