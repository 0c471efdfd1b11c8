/- The tables of the document: how they look. -/
import Derived.Test.YtihkghfmihdicaaTP
import Derived.Test.YtihkghfmihdicaaP6
import Derived.Test.YtihkghfmihdicaaC1
set_option linter.unusedVariables false
set_option linter.unusedSimpArgs false
set_option maxRecDepth 100000
namespace Go.Proofs.Ytihkghfmihdicaa.Abs
open Go Go.RowKit

structure XT where
  ks : List Int
  kd : Int
  hd : Int
  gen : Int
  ls : Bool
structure XOK (X : XT) : Prop where
  len : X.ks.length = 8
  rng : ∀ i, 0 ≤ X.ks.getD i 0 ∧ X.ks.getD i 0 < 18446744073709551616
  hd : 0 ≤ X.hd ∧ X.hd < 8
  kd : 0 ≤ X.kd ∧ X.kd < 256
def xrTo (ks : List Int) (j : Nat) : List (Int × Int) := ((List.range j).filter (fun i => ks.getD i 0 != 0)).map fun i : Nat => ((i : Int), ks.getD i 0)
def xr (ks : List Int) : List (Int × Int) := xrTo ks 8
def xpt (X : XT) : PT := ⟨xr X.ks, X.gen, X.kd, if X.kd = 0 then -1 else X.hd, X.ls⟩
def ev2E (r : Int × Int) : List Value := [.int .i64 r.1, .int .i64 r.2]
theorem ev2E_len (r : Int × Int) : (ev2E r).length = 2 := rfl
def othersM (ks : List Int) (but code : Int) : List (Int × Int) := ((xr ks).filter (fun r => r.1 != but)).map fun r => (r.1, code)
theorem xrTo_t {ks : List Int} {j : Nat} (h : ks.getD j 0 ≠ 0) : xrTo ks (j + 1) = xrTo ks j ++ [((j : Int), ks.getD j 0)] := by
  unfold xrTo
  rw [List.range_succ, List.filter_append, List.map_append, List.filter_cons, if_pos (bne_iff_ne.2 h)]
  rfl
theorem xrTo_f {ks : List Int} {j : Nat} (h : ks.getD j 0 = 0) : xrTo ks (j + 1) = xrTo ks j := by
  unfold xrTo
  rw [List.range_succ, List.filter_append, List.map_append, List.filter_cons, if_neg (by simp only [bne_iff_ne]; exact fun hc => hc h)]
  simp
theorem xrTo_mem {ks : List Int} {j : Nat} {r : Int × Int} : r ∈ xrTo ks j ↔ ∃ i : Nat, i < j ∧ r = ((i : Int), ks.getD i 0) ∧ ks.getD i 0 ≠ 0 := by
  unfold xrTo
  rw [List.mem_map]
  constructor
  · rintro ⟨i, hi, rfl⟩
    obtain ⟨h1, h2⟩ := List.mem_filter.1 hi
    exact ⟨i, List.mem_range.1 h1, rfl, bne_iff_ne.1 h2⟩
  · rintro ⟨i, h1, rfl, h2⟩
    exact ⟨i, List.mem_filter.2 ⟨List.mem_range.2 h1, bne_iff_ne.2 h2⟩, rfl⟩
theorem xrTo_sorted (ks : List Int) : ∀ j, (xrTo ks j).Pairwise (fun a b => a.1 < b.1)
  | 0 => List.Pairwise.nil
  | j + 1 => by
    by_cases h : ks.getD j 0 = 0
    · rw [xrTo_f h]; exact xrTo_sorted ks j
    · rw [xrTo_t h]
      refine List.pairwise_append.2 ⟨xrTo_sorted ks j, List.pairwise_singleton _ _, fun a ha b hb => ?_⟩
      obtain ⟨i, hi, rfl, _⟩ := xrTo_mem.1 ha
      rw [List.mem_singleton.1 hb]
      show (i : Int) < (j : Int)
      omega
theorem xrTo_len (ks : List Int) (j : Nat) : (xrTo ks j).length ≤ j := by
  unfold xrTo
  rw [List.length_map]
  exact Nat.le_trans (List.length_filter_le _ _) (by rw [List.length_range]; omega)
theorem sorted_ext : ∀ {l m : List (Int × Int)}, l.Pairwise (fun a b => a.1 < b.1) → m.Pairwise (fun a b => a.1 < b.1) → (∀ r, r ∈ l ↔ r ∈ m) → l = m
  | [], [], _, _, _ => rfl
  | [], b :: m, _, _, h => by have := (h b).2 List.mem_cons_self; cases this
  | a :: l, [], _, _, h => by have := (h a).1 List.mem_cons_self; cases this
  | a :: l, b :: m, hl, hm, h => by
    obtain ⟨l1, l2⟩ := List.pairwise_cons.1 hl
    obtain ⟨m1, m2⟩ := List.pairwise_cons.1 hm
    have hab : a = b := by
      rcases List.mem_cons.1 ((h a).1 List.mem_cons_self) with h1 | h1
      · exact h1
      · rcases List.mem_cons.1 ((h b).2 List.mem_cons_self) with h2 | h2
        · exact h2.symm
        · have := m1 a h1
          have := l1 b h2
          omega
    subst hab
    congr 1
    refine sorted_ext l2 m2 fun r => ⟨fun hr => ?_, fun hr => ?_⟩
    · rcases List.mem_cons.1 ((h r).1 (List.mem_cons_of_mem _ hr)) with h1 | h1
      · have := l1 r hr; rw [h1] at this; omega
      · exact h1
    · rcases List.mem_cons.1 ((h r).2 (List.mem_cons_of_mem _ hr)) with h1 | h1
      · have := m1 r hr; rw [h1] at this; omega
      · exact h1
theorem xkey (ks : List Int) {n : Int} (hn : 0 ≤ n ∧ n < 8) : keyM (xr ks) n = (ks.getD n.toNat 0, ks.getD n.toNat 0 != 0) := by
  by_cases h : ks.getD n.toNat 0 = 0
  · rw [show (ks.getD n.toNat 0 != 0) = false by rw [h]; rfl, h]
    refine (keyM_false ?_).1
    rcases hb : (keyM (xr ks) n).2 with _ | _
    · rfl
    · obtain ⟨r, hr, hr1⟩ := keyM_iff.1 hb
      obtain ⟨i, hi, rfl, h2⟩ := xrTo_mem.1 hr
      have : n.toNat = i := by have h1 : (i : Int) = n := hr1; omega
      rw [this] at h
      exact absurd h h2
  · rw [bne_iff_ne.2 h]
    refine keyM_eq (xrTo_sorted ks 8) (xrTo_mem.2 ⟨n.toNat, by omega, ?_, h⟩)
    rw [show ((n.toNat : Nat) : Int) = n by omega]
theorem xkey_out (ks : List Int) {n : Int} (hn : n < 0 ∨ n > 7) : keyM (xr ks) n = (0, false) := by
  refine (keyM_false ?_).1
  rcases hb : (keyM (xr ks) n).2 with _ | _
  · rfl
  · obtain ⟨r, hr, hr1⟩ := keyM_iff.1 hb
    obtain ⟨i, hi, rfl, h2⟩ := xrTo_mem.1 hr
    have h1 : (i : Int) = n := hr1
    omega
theorem set_getD {ks : List Int} {i j : Nat} {v : Int} (h : j < ks.length) : (ks.set j v).getD i 0 = if i = j then v else ks.getD i 0 := by
  by_cases hi : i = j
  · subst hi
    rw [if_pos rfl]
    simp [List.getD, List.getElem?_set, h]
  · rw [if_neg hi]
    simp [List.getD, List.getElem?_set, Ne.symm hi]
theorem xset {ks : List Int} (hl : ks.length = 8) {n v : Int} (hn : 0 ≤ n ∧ n < 8) : setM (xr ks) n v = xr (ks.set n.toNat v) := by
  refine sorted_ext (sorted_setM (xrTo_sorted ks 8) n v) (xrTo_sorted _ 8) fun r => ?_
  unfold xr
  rw [mem_setM, xrTo_mem (ks := ks.set n.toNat v)]
  constructor
  · rintro (⟨h1, h2⟩ | ⟨h1, rfl⟩)
    · obtain ⟨i, hi, rfl, h3⟩ := xrTo_mem.1 h1
      have hne : i ≠ n.toNat := fun h => h2 (by show (i : Int) = n; omega)
      exact ⟨i, hi, by rw [set_getD (by omega), if_neg hne], by rw [set_getD (by omega), if_neg hne]; exact h3⟩
    · exact ⟨n.toNat, by omega, by rw [set_getD (by omega), if_pos rfl, show ((n.toNat : Nat) : Int) = n by omega], by rw [set_getD (by omega), if_pos rfl]; exact h1⟩
  · rintro ⟨i, hi, rfl, h3⟩
    by_cases hne : i = n.toNat
    · rw [set_getD (by omega), if_pos hne] at h3 ⊢
      exact .inr ⟨h3, by rw [show (i : Int) = n by omega]⟩
    · rw [set_getD (by omega), if_neg hne] at h3 ⊢
      refine .inl ⟨xrTo_mem.2 ⟨i, hi, rfl, h3⟩, ?_⟩
      show (i : Int) ≠ n
      omega
theorem xcount (ks : List Int) : (othersM ks (-1) 0).length = (xr ks).length := by
  unfold othersM
  rw [List.length_map, List.filter_eq_self.2 fun r hr => ?_]
  obtain ⟨i, hi, rfl, _⟩ := xrTo_mem.1 hr
  simp only [bne_iff_ne]
  omega
theorem xhold {X : XT} (h : XOK X) (n : Int) : holdsM (xpt X) n = if X.kd = 0 ∨ n < 0 ∨ n > 7 then false else if allB X.kd = true then X.ks.getD n.toNat 0 != 0 else X.hd == n := by
  show (if X.kd = 0 then false else if allB X.kd = true then (keyM (xr X.ks) n).2 else (if X.kd = 0 then (-1 : Int) else X.hd) == n) = _
  by_cases h0 : X.kd = 0
  · rw [if_pos h0, if_pos (.inl h0)]
  · rw [if_neg h0, if_neg h0]
    by_cases hn : n < 0 ∨ n > 7
    · rw [if_pos (show X.kd = 0 ∨ n < 0 ∨ n > 7 from .inr hn), xkey_out _ hn]
      have hh := h.hd
      rw [show (X.hd == n) = false by rw [beq_eq_false_iff_ne]; omega]
      split <;> rfl
    · rw [if_neg (show ¬ (X.kd = 0 ∨ n < 0 ∨ n > 7) from fun hc => hc.elim h0 hn), xkey _ (by omega)]
def othTo (ks : List Int) (but code : Int) (j : Nat) : List (Int × Int) := ((xrTo ks j).filter (fun r => r.1 != but)).map fun r => (r.1, code)
theorem oth_t {ks : List Int} {but code : Int} {j : Nat} (h : ks.getD j 0 ≠ 0) (hb : (j : Int) ≠ but) : othTo ks but code (j + 1) = othTo ks but code j ++ [((j : Int), code)] := by
  unfold othTo
  rw [xrTo_t h, List.filter_append, List.map_append, List.filter_cons, if_pos (bne_iff_ne.2 hb)]
  rfl
theorem oth_f1 {ks : List Int} {but code : Int} {j : Nat} (h : ks.getD j 0 = 0) : othTo ks but code (j + 1) = othTo ks but code j := by
  unfold othTo
  rw [xrTo_f h]
theorem oth_f2 {ks : List Int} {but code : Int} {j : Nat} (h : ks.getD j 0 ≠ 0) (hb : (j : Int) = but) : othTo ks but code (j + 1) = othTo ks but code j := by
  unfold othTo
  rw [xrTo_t h, List.filter_append, List.map_append, List.filter_cons, if_neg (by simp only [bne_iff_ne]; exact fun hc => hc hb)]
  simp
theorem oth_len (ks : List Int) (but code : Int) (j : Nat) : (othTo ks but code j).length ≤ j := by
  unfold othTo
  rw [List.length_map]
  exact Nat.le_trans (List.length_filter_le _ _) (xrTo_len ks j)
theorem xall_call {H : Hp} {k : Int}  :
  ACalls Try.prog 39 [.int .i64 k] H (fun v H' => v = .bool (allB k) ∧ Stt [] H H' []) := by
 refine acallsW Try.func39 f39_ok (Nat.le_of_ble_eq_true rfl) fun hw => ?_
 have st : Stt [] H H [] := Stt.start hw
 unfold f39c
 show AWl _ _ _ _ _
 refine aN rfl rfl (by constructor) ?_
 refine sE ?_
 show AWl _ _ _ _ _
 iterate 3 refine aN rfl rfl (by constructor) ?_
 refine gCase 5 rfl (fun h1 => ?_) (fun h1 => ?_)
 ·refine gF rfl (by decide) ?_
  refine gF rfl (by decide) ?_
  iterate 2 refine aN rfl rfl (by constructor) ?_
  refine sE ?_
  refine ⟨_, out1 (r_tmp rfl (by constructor)), ?_⟩
  refine ⟨congrArg Value.bool ?_, st.drop⟩
  unfold allB; simp_all
 ·refine gT rfl ?_
  refine aN rfl rfl (by constructor) ?_
  refine gT rfl ?_
  iterate 3 refine aN rfl rfl (by constructor) ?_
  refine sE ?_
  refine ⟨_, out1 (r_tmp rfl (by constructor)), ?_⟩
  refine ⟨congrArg Value.bool ?_, st.drop⟩
  unfold allB; simp_all
theorem typeB_six (k : Int) : typeB k = (k == 1 || k == 3 || k == 5 || k == 6 || k == 7 || k == 8) := by
  unfold typeB
  rw [Bool.eq_iff_iff]
  simp only [Bool.or_eq_true, Bool.and_eq_true, beq_iff_eq, decide_eq_true_eq]
  omega
theorem xtype_call {H : Hp} {k : Int}  :
  ACalls Try.prog 38 [.int .i64 k] H (fun v H' => v = .bool (typeB k) ∧ Stt [] H H' []) := by
 refine acallsW Try.func38 f38_ok (Nat.le_of_ble_eq_true rfl) fun hw => ?_
 have st : Stt [] H H [] := Stt.start hw
 unfold f38c
 show AWl _ _ _ _ _
 refine aN rfl rfl (by constructor) ?_
 refine sE ?_
 show AWl _ _ _ _ _
 iterate 3 refine aN rfl rfl (by constructor) ?_
 refine gCase 5 rfl (fun h1 => ?_) (fun h1 => ?_)
 ·refine gF rfl (by decide) ?_
  refine gF rfl (by decide) ?_
  iterate 2 refine aN rfl rfl (by constructor) ?_
  refine gF rfl (by decide) ?_
  refine gF rfl (by decide) ?_
  iterate 2 refine aN rfl rfl (by constructor) ?_
  refine gF rfl (by decide) ?_
  refine gF rfl (by decide) ?_
  iterate 2 refine aN rfl rfl (by constructor) ?_
  refine gF rfl (by decide) ?_
  refine gF rfl (by decide) ?_
  iterate 2 refine aN rfl rfl (by constructor) ?_
  refine gF rfl (by decide) ?_
  refine gF rfl (by decide) ?_
  iterate 2 refine aN rfl rfl (by constructor) ?_
  refine sE ?_
  refine ⟨_, out1 (r_tmp rfl (by constructor)), ?_⟩
  refine ⟨congrArg Value.bool ?_, st.drop⟩
  rw [typeB_six]; simp_all
 ·refine gT rfl ?_
  refine aN rfl rfl (by constructor) ?_
  refine gT rfl ?_
  iterate 3 refine aN rfl rfl (by constructor) ?_
  refine gCase 9 rfl (fun h2 => ?_) (fun h2 => ?_)
  ·refine gF rfl (by decide) ?_
   refine gF rfl (by decide) ?_
   iterate 2 refine aN rfl rfl (by constructor) ?_
   refine gF rfl (by decide) ?_
   refine gF rfl (by decide) ?_
   iterate 2 refine aN rfl rfl (by constructor) ?_
   refine gF rfl (by decide) ?_
   refine gF rfl (by decide) ?_
   iterate 2 refine aN rfl rfl (by constructor) ?_
   refine gF rfl (by decide) ?_
   refine gF rfl (by decide) ?_
   iterate 2 refine aN rfl rfl (by constructor) ?_
   refine sE ?_
   refine ⟨_, out1 (r_tmp rfl (by constructor)), ?_⟩
   refine ⟨congrArg Value.bool ?_, st.drop⟩
   rw [typeB_six]; simp_all
  ·refine gT rfl ?_
   refine aN rfl rfl (by constructor) ?_
   refine gT rfl ?_
   iterate 3 refine aN rfl rfl (by constructor) ?_
   refine gCase 13 rfl (fun h3 => ?_) (fun h3 => ?_)
   ·refine gF rfl (by decide) ?_
    refine gF rfl (by decide) ?_
    iterate 2 refine aN rfl rfl (by constructor) ?_
    refine gF rfl (by decide) ?_
    refine gF rfl (by decide) ?_
    iterate 2 refine aN rfl rfl (by constructor) ?_
    refine gF rfl (by decide) ?_
    refine gF rfl (by decide) ?_
    iterate 2 refine aN rfl rfl (by constructor) ?_
    refine sE ?_
    refine ⟨_, out1 (r_tmp rfl (by constructor)), ?_⟩
    refine ⟨congrArg Value.bool ?_, st.drop⟩
    rw [typeB_six]; simp_all
   ·refine gT rfl ?_
    refine aN rfl rfl (by constructor) ?_
    refine gT rfl ?_
    iterate 3 refine aN rfl rfl (by constructor) ?_
    refine gCase 17 rfl (fun h4 => ?_) (fun h4 => ?_)
    ·refine gF rfl (by decide) ?_
     refine gF rfl (by decide) ?_
     iterate 2 refine aN rfl rfl (by constructor) ?_
     refine gF rfl (by decide) ?_
     refine gF rfl (by decide) ?_
     iterate 2 refine aN rfl rfl (by constructor) ?_
     refine sE ?_
     refine ⟨_, out1 (r_tmp rfl (by constructor)), ?_⟩
     refine ⟨congrArg Value.bool ?_, st.drop⟩
     rw [typeB_six]; simp_all
    ·refine gT rfl ?_
     refine aN rfl rfl (by constructor) ?_
     refine gT rfl ?_
     iterate 3 refine aN rfl rfl (by constructor) ?_
     refine gCase 21 rfl (fun h5 => ?_) (fun h5 => ?_)
     ·refine gF rfl (by decide) ?_
      refine gF rfl (by decide) ?_
      iterate 2 refine aN rfl rfl (by constructor) ?_
      refine sE ?_
      refine ⟨_, out1 (r_tmp rfl (by constructor)), ?_⟩
      refine ⟨congrArg Value.bool ?_, st.drop⟩
      rw [typeB_six]; simp_all
     ·refine gT rfl ?_
      refine aN rfl rfl (by constructor) ?_
      refine gT rfl ?_
      iterate 3 refine aN rfl rfl (by constructor) ?_
      refine sE ?_
      refine ⟨_, out1 (r_tmp rfl (by constructor)), ?_⟩
      refine ⟨congrArg Value.bool ?_, st.drop⟩
      rw [typeB_six]; simp_all
theorem others_call {H : Hp} {b : Nat} {X : XT} {but code : Int} (hk : H.m b = some ⟨true, 65, k8 X.ks [.int .i64 X.kd, .int .i64 X.hd, .int .u32 X.gen, .bool X.ls]⟩) :
  ACalls Try.prog 45 [.pointer (some ⟨b, 0, none⟩), .int .i64 but, .int .i64 code] H (fun v H' => ∃ oe, v = accV oe (othersM X.ks but code).length 2 ∧ Stt [] H H' [⟨oe, true, ⟨true, 75, (othersM X.ks but code).flatMap ev2E⟩⟩]) := by
 refine acallsW Try.func45 f45_ok (Nat.le_of_ble_eq_true rfl) fun hw => ?_
 have st : Stt [] H H [] := Stt.start hw
 replace st := st.ro hk (by simp)
 unfold f45c
 show AWl _ _ _ _ _
 refine aN rfl rfl (by constructor) ?_
 refine sE ?_
 show AWl _ _ _ _ _
 refine aN rfl rfl (by constructor) ?_
 refine sE ?_
 show AWl _ _ _ _ _
 refine aN rfl rfl (by constructor) ?_
 refine sE ?_
 show AW _ (.loop _) _ _ _
 have st := st.nil 75
 refine AW_loopN (fun m t1 H1 => ∃ (j : Nat) (oc : Option Nat), m = 8 - j ∧ (j ≤ 8) ∧ t1 8 = .int .i64 (j : Int) ∧ t1 7 = accV oc (othTo X.ks but code j).length 2 ∧ Stt [] H H1 [⟨oc, true, ⟨true, 75, ((othTo X.ks but code j)).flatMap ev2E⟩⟩, ⟨some b, false, ⟨true, 65, k8 X.ks [.int .i64 X.kd, .int .i64 X.hd, .int .u32 X.gen, .bool X.ls]⟩⟩]) (8 - 0) ⟨0, none, rfl, by omega, rfl, rfl, (st.sel [0, 1] (by decide))⟩ [7, 8, 9, 10, 11, 12, 13, 14, 15, 16, 17, 18, 19, 20, 21, 22, 23, 24, 25, 26, 27, 28, 29, 30] (by decide) ?_
 rintro m t1 H1 hk hI
 obtain ⟨j, oc, rfl, hj, ht8, ht7, st⟩ := hI
 obtain ⟨u, rfl⟩ : ∃ u, t1 = (upd (upd (mix [7, 8, 9, 10, 11, 12, 13, 14, 15, 16, 17, 18, 19, 20, 21, 22, 23, 24, 25, 26, 27, 28, 29, 30] _ u) (some 8) _) (some 7) _) := ⟨t1, by rw [← hk, upd_self ht8, upd_self ht7]⟩
 clear hk ht8 ht7
 show AWl _ _ _ _ _
 iterate 2 refine aN rfl rfl (by constructor) ?_
 refine sE ?_
 show AW _ (.cond _ _ _) _ _ _
 refine cC' rfl (fun h1 => ?_) (fun h1 => ?_)
 ·have hlt : j < 8 := by have := of_decide_eq_true h1; omega
  show AWl _ _ _ _ _
  iterate 4 refine aN rfl rfl (by constructor) ?_
  refine aIxA rfl rfl (by omega) ?_
  refine aLd st 1 rfl rfl (k8_at X.ks _ (by omega)) (by constructor) ?_
  iterate 2 refine aN rfl rfl (by constructor) ?_
  refine gCase 20 rfl (fun h2 => ?_) (fun h2 => ?_)
  ·refine gT rfl ?_
   refine aN rfl rfl (by constructor) ?_
   refine gT rfl ?_
   refine aN rfl rfl (by constructor) ?_
   refine gT rfl ?_
   iterate 2 refine aN rfl rfl (by constructor) ?_
   refine sE ?_
   show AW _ (.cond _ _ _) _ _ _
   refine cC' rfl (fun h3 => ?_) (fun h3 => ?_)
   ·have hol := oth_len X.ks but code j
    have hz : X.ks.getD j 0 ≠ 0 := by simpa using h2
    have hb : (j : Int) ≠ but := by simpa using h3
    have ho : (othTo X.ks but code (j + 1)) = (othTo X.ks but code j) ++ [((j : Int), code)] := oth_t hz hb
    show AWl _ _ _ _ _
    refine aMovA rfl ?_
    iterate 2 refine aN rfl rfl (by constructor) ?_
    refine aBld rfl (by repeat constructor) ?_
    refine aLit st rfl (by repeat constructor) fun b29 H4 st => ?_
    refine aApp st 1 (ob := oc) rfl rfl rfl (by decide) (by exact flat_len' ev2E_len _) (st.rowAll 0 rfl (by first | rfl | (simp [beB_len, *]; done) | (simp [beB_len, *]; omega))).src (by first | rfl | simp) (by omega) (by omega) fun b30 H5 hp30 st => ?_
    have st := st.recell 1 rfl (cs' := (othTo X.ks but code (j + 1)).flatMap ev2E) (flat_snoc ho rfl)
    refine aMovA rfl ?_
    refine sE ?_
    show AWl _ _ _ _ _
    iterate 3 refine aN rfl rfl (by constructor) ?_
    refine sE ?_
    exact ⟨_, by omega, j + 1, b30, rfl, by omega, congrArg (Value.int .i64) (wi _ (by omega)), congrArg (fun n => accV _ n 2) (len_snoc ho), (st.sel [1, 2] (by decide))⟩
   ·have hol := oth_len X.ks but code j
    have hz : X.ks.getD j 0 ≠ 0 := by simpa using h2
    have hb : (j : Int) = but := by simpa using h3
    have ho : (othTo X.ks but code (j + 1)) = (othTo X.ks but code j) := oth_f2 hz hb
    show AWl _ _ _ _ _
    iterate 3 refine aN rfl rfl (by constructor) ?_
    refine sE ?_
    have st := st.recell 0 rfl (cs' := (othTo X.ks but code (j + 1)).flatMap ev2E) (by rw [ho])
    exact ⟨_, by omega, j + 1, oc, rfl, by omega, congrArg (Value.int .i64) (wi _ (by omega)), congrArg (fun n => accV _ n 2) (congrArg List.length ho.symm), (st.sel [0, 1] (by decide))⟩
  ·refine gF rfl (by decide) ?_
   refine gF rfl (by decide) ?_
   refine gF rfl (by decide) ?_
   refine aN rfl rfl (by constructor) ?_
   refine sE ?_
   show AW _ (.cond _ _ _) _ _ _
   refine cF' rfl ?_
   show AWl _ _ _ _ _
   iterate 3 refine aN rfl rfl (by constructor) ?_
   refine sE ?_
   have ho : (othTo X.ks but code (j + 1)) = (othTo X.ks but code j) := oth_f1 (by simpa using h2)
   have st := st.recell 0 rfl (cs' := (othTo X.ks but code (j + 1)).flatMap ev2E) (by rw [ho])
   exact ⟨_, by omega, j + 1, oc, rfl, by omega, congrArg (Value.int .i64) (wi _ (by omega)), congrArg (fun n => accV _ n 2) (congrArg List.length ho.symm), (st.sel [0, 1] (by decide))⟩
 ·have hge : j = 8 := by have := of_decide_eq_false h1; omega
  subst hge
  show AWl _ _ _ _ _
  refine aMovA rfl ?_
  refine aMovA rfl ?_
  refine sE ?_
  refine ⟨_, out1 (r_acc rfl), ?_⟩
  exact ⟨oc, rfl, st.pick 0 rfl⟩
theorem count_call {H : Hp} {b : Nat} {X : XT} (hk : H.m b = some ⟨true, 65, k8 X.ks [.int .i64 X.kd, .int .i64 X.hd, .int .u32 X.gen, .bool X.ls]⟩) :
  ACalls Try.prog 40 [.pointer (some ⟨b, 0, none⟩)] H (fun v H' => v = .int .i64 ((xr X.ks).length : Int) ∧ Stt [] H H' []) := by
 refine acallsW Try.func40 f40_ok (Nat.le_of_ble_eq_true rfl) fun hw => ?_
 have st : Stt [] H H [] := Stt.start hw
 replace st := st.ro hk (by simp)
 unfold f40c
 show AWl _ _ _ _ _
 refine aN rfl rfl (by constructor) ?_
 refine sE ?_
 show AWl _ _ _ _ _
 refine aN rfl rfl (by constructor) ?_
 refine aC (others_call (X := X) (but := (-1)) (code := 0) (st.frm0.2 _ (hw _ _ hk) ▸ hk)) fun v4 H1 ⟨oe4, hv, st1⟩ => ?_
 subst hv
 replace st := st.call st1 rfl
 clear st1
 refine aLen (st.rowAcc 0 rfl (by decide) (by exact flat_len' ev2E_len _)) rfl ?_
 refine aN rfl rfl (by constructor) ?_
 refine sE ?_
 refine ⟨_, out1 (r_tmp rfl (by constructor)), ?_⟩
 exact ⟨congrArg (fun n : Nat => Value.int .i64 (n : Int)) (xcount X.ks), st.drop⟩
theorem xholds_call {H : Hp} {b : Nat} {X : XT} {n : Int} (hk : H.m b = some ⟨true, 65, k8 X.ks [.int .i64 X.kd, .int .i64 X.hd, .int .u32 X.gen, .bool X.ls]⟩) (hX : XOK X) :
  ACalls Try.prog 44 [.pointer (some ⟨b, 0, none⟩), .int .i64 n] H (fun v H' => v = .bool (holdsM (xpt X) n) ∧ Stt [] H H' []) := by
 refine acallsW Try.func44 f44_ok (Nat.le_of_ble_eq_true rfl) fun hw => ?_
 have st : Stt [] H H [] := Stt.start hw
 replace st := st.ro hk (by simp)
 unfold f44c
 show AWl _ _ _ _ _
 refine aN rfl rfl (by constructor) ?_
 refine sE ?_
 show AWl _ _ _ _ _
 iterate 3 refine aN rfl rfl (by constructor) ?_
 refine aLd st 0 rfl rfl rfl (by constructor) ?_
 iterate 2 refine aN rfl rfl (by constructor) ?_
 refine gCase 10 rfl (fun h1 => ?_) (fun h1 => ?_)
 ·have h1q := h1; try simp only [decide_eq_true_eq, decide_eq_false_iff_not, beq_iff_eq, beq_eq_false_iff_ne, bne_iff_ne, bne_eq_false_iff_eq, ne_eq, Decidable.not_not, Bool.not_eq_true, Bool.not_eq_false, gt_iff_lt, ge_iff_le, Int.not_lt, Int.not_le] at h1q
  refine gF rfl (by decide) ?_
  refine gF rfl (by decide) ?_
  iterate 2 refine aN rfl rfl (by constructor) ?_
  refine gF rfl (by decide) ?_
  refine gF rfl (by decide) ?_
  refine aN rfl rfl (by constructor) ?_
  refine sE ?_
  show AW _ (.cond _ _ _) _ _ _
  refine cT rfl ?_
  show AWl _ _ _ _ _
  refine aN rfl rfl (by constructor) ?_
  refine sE ?_
  refine ⟨_, out1 (r_tmp rfl (by constructor)), ?_⟩
  have h0 : X.kd = 0 ∨ n < 0 ∨ n > 7 := by simp_all
  exact ⟨by rw [xhold hX, if_pos h0], st.drop⟩
 ·have h1q := h1; try simp only [decide_eq_true_eq, decide_eq_false_iff_not, beq_iff_eq, beq_eq_false_iff_ne, bne_iff_ne, bne_eq_false_iff_eq, ne_eq, Decidable.not_not, Bool.not_eq_true, Bool.not_eq_false, gt_iff_lt, ge_iff_le, Int.not_lt, Int.not_le] at h1q
  refine gT rfl ?_
  refine aN rfl rfl (by constructor) ?_
  refine gT rfl ?_
  iterate 3 refine aN rfl rfl (by constructor) ?_
  refine gCase 14 rfl (fun h2 => ?_) (fun h2 => ?_)
  ·have h2q := h2; try simp only [decide_eq_true_eq, decide_eq_false_iff_not, beq_iff_eq, beq_eq_false_iff_ne, bne_iff_ne, bne_eq_false_iff_eq, ne_eq, Decidable.not_not, Bool.not_eq_true, Bool.not_eq_false, gt_iff_lt, ge_iff_le, Int.not_lt, Int.not_le] at h2q
   refine gF rfl (by decide) ?_
   refine gF rfl (by decide) ?_
   refine aN rfl rfl (by constructor) ?_
   refine sE ?_
   show AW _ (.cond _ _ _) _ _ _
   refine cT rfl ?_
   show AWl _ _ _ _ _
   refine aN rfl rfl (by constructor) ?_
   refine sE ?_
   refine ⟨_, out1 (r_tmp rfl (by constructor)), ?_⟩
   have h0 : X.kd = 0 ∨ n < 0 ∨ n > 7 := by simp_all
   exact ⟨by rw [xhold hX, if_pos h0], st.drop⟩
  ·have h2q := h2; try simp only [decide_eq_true_eq, decide_eq_false_iff_not, beq_iff_eq, beq_eq_false_iff_ne, bne_iff_ne, bne_eq_false_iff_eq, ne_eq, Decidable.not_not, Bool.not_eq_true, Bool.not_eq_false, gt_iff_lt, ge_iff_le, Int.not_lt, Int.not_le] at h2q
   refine gT rfl ?_
   refine aN rfl rfl (by constructor) ?_
   refine gT rfl ?_
   iterate 2 refine aN rfl rfl (by constructor) ?_
   refine sE ?_
   show AW _ (.cond _ _ _) _ _ _
   refine cC' rfl (fun h3 => ?_) (fun h3 => ?_)
   ·have h3q := h3; try simp only [decide_eq_true_eq, decide_eq_false_iff_not, beq_iff_eq, beq_eq_false_iff_ne, bne_iff_ne, bne_eq_false_iff_eq, ne_eq, Decidable.not_not, Bool.not_eq_true, Bool.not_eq_false, gt_iff_lt, ge_iff_le, Int.not_lt, Int.not_le] at h3q
    show AWl _ _ _ _ _
    refine aN rfl rfl (by constructor) ?_
    refine sE ?_
    refine ⟨_, out1 (r_tmp rfl (by constructor)), ?_⟩
    have h0 : X.kd = 0 ∨ n < 0 ∨ n > 7 := by simp_all
    exact ⟨by rw [xhold hX, if_pos h0], st.drop⟩
   ·have h3q := h3; try simp only [decide_eq_true_eq, decide_eq_false_iff_not, beq_iff_eq, beq_eq_false_iff_ne, bne_iff_ne, bne_eq_false_iff_eq, ne_eq, Decidable.not_not, Bool.not_eq_true, Bool.not_eq_false, gt_iff_lt, ge_iff_le, Int.not_lt, Int.not_le] at h3q
    show AWl _ _ _ _ _
    have h0 : ¬ (X.kd = 0 ∨ n < 0 ∨ n > 7) := by simp_all; try omega
    have hn : 0 ≤ n ∧ n < 8 := by omega
    iterate 3 refine aN rfl rfl (by constructor) ?_
    refine aLd st 0 rfl rfl rfl (by constructor) ?_
    refine aC (xall_call) fun v22 H4 ⟨hv, st1⟩ => ?_
    subst hv
    replace st := st.call st1 rfl
    clear st1
    refine sE ?_
    show AW _ (.cond _ _ _) _ _ _
    refine cC' rfl (fun h5 => ?_) (fun h5 => ?_)
    ·have h5q := h5; try simp only [decide_eq_true_eq, decide_eq_false_iff_not, beq_iff_eq, beq_eq_false_iff_ne, bne_iff_ne, bne_eq_false_iff_eq, ne_eq, Decidable.not_not, Bool.not_eq_true, Bool.not_eq_false, gt_iff_lt, ge_iff_le, Int.not_lt, Int.not_le] at h5q
     show AWl _ _ _ _ _
     iterate 4 refine aN rfl rfl (by constructor) ?_
     refine aIxA rfl rfl (by omega) ?_
     refine aLd st 0 rfl rfl (k8_at X.ks _ (by omega)) (by constructor) ?_
     iterate 2 refine aN rfl rfl (by constructor) ?_
     refine sE ?_
     refine ⟨_, out1 (r_tmp rfl (by constructor)), ?_⟩
     exact ⟨by rw [xhold hX, if_neg h0, if_pos h5], st.drop⟩
    ·have h5q := h5; try simp only [decide_eq_true_eq, decide_eq_false_iff_not, beq_iff_eq, beq_eq_false_iff_ne, bne_iff_ne, bne_eq_false_iff_eq, ne_eq, Decidable.not_not, Bool.not_eq_true, Bool.not_eq_false, gt_iff_lt, ge_iff_le, Int.not_lt, Int.not_le] at h5q
     show AWl _ _ _ _ _
     iterate 3 refine aN rfl rfl (by constructor) ?_
     refine aLd st 0 rfl rfl rfl (by constructor) ?_
     iterate 3 refine aN rfl rfl (by constructor) ?_
     refine sE ?_
     refine ⟨_, out1 (r_tmp rfl (by constructor)), ?_⟩
     exact ⟨by rw [xhold hX, if_neg h0, if_neg (by rw [h5]; decide)], st.drop⟩
theorem end_call {H : Hp} {b : Nat} {X : XT} {n : Int} (hk : H.m b = some ⟨true, 65, k8 X.ks [.int .i64 X.kd, .int .i64 X.hd, .int .u32 X.gen, .bool X.ls]⟩) :
  ACalls Try.prog 43 [.pointer (some ⟨b, 0, none⟩), .int .i64 n] H (fun v H' => ∃ oe, v = accV oe (freeE (xpt X) n).length 2 ∧ Stt [b] H H' [⟨some b, true, ⟨true, 65, k8 ({ X with kd := 0, hd := 0 } : XT).ks [.int .i64 ({ X with kd := 0, hd := 0 } : XT).kd, .int .i64 ({ X with kd := 0, hd := 0 } : XT).hd, .int .u32 ({ X with kd := 0, hd := 0 } : XT).gen, .bool ({ X with kd := 0, hd := 0 } : XT).ls]⟩⟩, ⟨oe, true, ⟨true, 75, (freeE (xpt X) n).flatMap ev2E⟩⟩]) := by
 refine acallsW Try.func43 f43_ok (Nat.le_of_ble_eq_true rfl) fun hw => ?_
 have st : Stt [b] H H [] := Stt.start hw
 replace st := st.mine hk rfl (by simp) (by simp)
 unfold f43c
 show AWl _ _ _ _ _
 refine aN rfl rfl (by constructor) ?_
 refine sE ?_
 show AWl _ _ _ _ _
 iterate 3 refine aN rfl rfl (by constructor) ?_
 refine aLd st 0 rfl rfl rfl (by constructor) ?_
 refine aN rfl rfl (by constructor) ?_
 refine sE ?_
 show AWl _ _ _ _ _
 iterate 3 refine aN rfl rfl (by constructor) ?_
 refine aSt st 0 rfl rfl rfl rfl (by first | rfl | simp [cellsOf, *]) (by first | decide | (simp [*]; done) | (simp [k8]; done)) (by repeat constructor) fun H1 st => ?_
 refine sE ?_
 show AWl _ _ _ _ _
 iterate 3 refine aN rfl rfl (by constructor) ?_
 refine aSt st 0 rfl rfl rfl rfl (by first | rfl | simp [cellsOf, *]) (by first | decide | (simp [*]; done) | (simp [k8]; done)) (by repeat constructor) fun H2 st => ?_
 refine sE ?_
 show AWl _ _ _ _ _
 iterate 2 refine aN rfl rfl (by constructor) ?_
 refine sE ?_
 show AW _ (.cond _ _ _) _ _ _
 refine cC' rfl (fun h3 => ?_) (fun h3 => ?_)
 ·have h5 : (X.kd ≥ 5) := by have := of_decide_eq_true h3; omega
  show AWl _ _ _ _ _
  iterate 2 refine aN rfl rfl (by constructor) ?_
  refine aC (others_call (X := { X with kd := 0, hd := 0 }) (but := n) (code := 10756) (st.get (j := 0) rfl)) fun v20 H4 ⟨oe20, hv, st1⟩ => ?_
  subst hv
  replace st := st.call st1 rfl
  clear st1
  refine aMovA rfl ?_
  refine sE ?_
  refine ⟨_, out1 (r_acc rfl), ?_⟩
  have e1 : freeE (xpt X) n = othersM X.ks n 10756 := if_pos h5
  exact ⟨oe20, (by rw [e1] <;> rfl), by rw [e1]; exact st.sel [1, 0] (by decide)⟩
 ·have h5 : ¬ (X.kd ≥ 5) := by have := of_decide_eq_false h3; omega
  show AWl _ _ _ _ _
  refine aN rfl rfl (by constructor) ?_
  refine sE ?_
  refine ⟨_, out1 (r_tmp rfl (by constructor)), ?_⟩
  have st := st.nil 75
  have e1 : freeE (xpt X) n = [] := if_neg h5
  exact ⟨none, (by rw [e1] <;> rfl), by rw [e1]; exact st.sel [1, 0] (by decide)⟩
theorem xconf_call {H : Hp} {b : Nat} {X : XT} {n c : Int} (hk : H.m b = some ⟨true, 65, k8 X.ks [.int .i64 X.kd, .int .i64 X.hd, .int .u32 X.gen, .bool X.ls]⟩) (hX : XOK X) :
  ACalls Try.prog 47 [.pointer (some ⟨b, 0, none⟩), .int .i64 n, .int .i64 c] H (fun v H' => v = .bool (conflictM (xpt X) n c) ∧ Stt [] H H' []) := by
 refine acallsW Try.func47 f47_ok (Nat.le_of_ble_eq_true rfl) fun hw => ?_
 have st : Stt [] H H [] := Stt.start hw
 replace st := st.ro hk (by simp)
 unfold f47c
 show AWl _ _ _ _ _
 refine aN rfl rfl (by constructor) ?_
 refine sE ?_
 show AWl _ _ _ _ _
 iterate 3 refine aN rfl rfl (by constructor) ?_
 refine gCase 10 rfl (fun h1 => ?_) (fun h1 => ?_)
 ·have h1q := h1; try simp only [decide_eq_true_eq, decide_eq_false_iff_not, beq_iff_eq, beq_eq_false_iff_ne, bne_iff_ne, bne_eq_false_iff_eq, ne_eq, Decidable.not_not, Bool.not_eq_true, Bool.not_eq_false, gt_iff_lt, ge_iff_le, Int.not_lt, Int.not_le] at h1q
  refine gF rfl (by decide) ?_
  refine gF rfl (by decide) ?_
  refine gF rfl (by decide) ?_
  refine gF rfl (by decide) ?_
  refine gF rfl (by decide) ?_
  iterate 2 refine aN rfl rfl (by constructor) ?_
  refine gF rfl (by decide) ?_
  refine gF rfl (by decide) ?_
  refine gF rfl (by decide) ?_
  refine aN rfl rfl (by constructor) ?_
  refine sE ?_
  show AW _ (.cond _ _ _) _ _ _
  refine cT rfl ?_
  show AWl _ _ _ _ _
  refine aN rfl rfl (by constructor) ?_
  refine sE ?_
  refine ⟨_, out1 (r_tmp rfl (by constructor)), ?_⟩
  refine ⟨congrArg Value.bool ?_, st.drop⟩
  show _ = (if X.kd = 0 ∨ c = 0 ∨ holdsM (xpt X) n = true then false else if X.kd = 1 then c != 1 else if X.kd = 3 then true else if X.kd = 5 ∨ X.kd = 7 then c != 1 && !(keyM (xr X.ks) n).2 else !(keyM (xr X.ks) n).2)
  have h0 : X.kd = 0 ∨ c = 0 ∨ holdsM (xpt X) n = true := by simp_all
  rw [if_pos h0]
 ·have h1q := h1; try simp only [decide_eq_true_eq, decide_eq_false_iff_not, beq_iff_eq, beq_eq_false_iff_ne, bne_iff_ne, bne_eq_false_iff_eq, ne_eq, Decidable.not_not, Bool.not_eq_true, Bool.not_eq_false, gt_iff_lt, ge_iff_le, Int.not_lt, Int.not_le] at h1q
  refine gT rfl ?_
  refine aN rfl rfl (by constructor) ?_
  refine gT rfl ?_
  refine aN rfl rfl (by constructor) ?_
  refine gT rfl ?_
  refine aN rfl rfl (by constructor) ?_
  refine gT rfl ?_
  refine aLd st 0 rfl rfl rfl (by constructor) ?_
  refine gT rfl ?_
  iterate 3 refine aN rfl rfl (by constructor) ?_
  refine gCase 17 rfl (fun h2 => ?_) (fun h2 => ?_)
  ·have h2q := h2; try simp only [decide_eq_true_eq, decide_eq_false_iff_not, beq_iff_eq, beq_eq_false_iff_ne, bne_iff_ne, bne_eq_false_iff_eq, ne_eq, Decidable.not_not, Bool.not_eq_true, Bool.not_eq_false, gt_iff_lt, ge_iff_le, Int.not_lt, Int.not_le] at h2q
   refine gF rfl (by decide) ?_
   refine gF rfl (by decide) ?_
   refine gF rfl (by decide) ?_
   refine aN rfl rfl (by constructor) ?_
   refine sE ?_
   show AW _ (.cond _ _ _) _ _ _
   refine cT rfl ?_
   show AWl _ _ _ _ _
   refine aN rfl rfl (by constructor) ?_
   refine sE ?_
   refine ⟨_, out1 (r_tmp rfl (by constructor)), ?_⟩
   refine ⟨congrArg Value.bool ?_, st.drop⟩
   show _ = (if X.kd = 0 ∨ c = 0 ∨ holdsM (xpt X) n = true then false else if X.kd = 1 then c != 1 else if X.kd = 3 then true else if X.kd = 5 ∨ X.kd = 7 then c != 1 && !(keyM (xr X.ks) n).2 else !(keyM (xr X.ks) n).2)
   have h0 : X.kd = 0 ∨ c = 0 ∨ holdsM (xpt X) n = true := by simp_all
   rw [if_pos h0]
  ·have h2q := h2; try simp only [decide_eq_true_eq, decide_eq_false_iff_not, beq_iff_eq, beq_eq_false_iff_ne, bne_iff_ne, bne_eq_false_iff_eq, ne_eq, Decidable.not_not, Bool.not_eq_true, Bool.not_eq_false, gt_iff_lt, ge_iff_le, Int.not_lt, Int.not_le] at h2q
   refine gT rfl ?_
   refine aN rfl rfl (by constructor) ?_
   refine gT rfl ?_
   refine aN rfl rfl (by constructor) ?_
   refine gT rfl ?_
   refine aC (xholds_call (X := X) (n := n) (st.frm0.2 _ (hw _ _ hk) ▸ hk) hX) fun v20 H3 ⟨hv, st1⟩ => ?_
   subst hv
   replace st := st.call st1 rfl
   clear st1
   refine aN rfl rfl (by constructor) ?_
   refine sE ?_
   show AW _ (.cond _ _ _) _ _ _
   refine cC' rfl (fun h4 => ?_) (fun h4 => ?_)
   ·have h4q := h4; try simp only [decide_eq_true_eq, decide_eq_false_iff_not, beq_iff_eq, beq_eq_false_iff_ne, bne_iff_ne, bne_eq_false_iff_eq, ne_eq, Decidable.not_not, Bool.not_eq_true, Bool.not_eq_false, gt_iff_lt, ge_iff_le, Int.not_lt, Int.not_le] at h4q
    show AWl _ _ _ _ _
    refine aN rfl rfl (by constructor) ?_
    refine sE ?_
    refine ⟨_, out1 (r_tmp rfl (by constructor)), ?_⟩
    refine ⟨congrArg Value.bool ?_, st.drop⟩
    show _ = (if X.kd = 0 ∨ c = 0 ∨ holdsM (xpt X) n = true then false else if X.kd = 1 then c != 1 else if X.kd = 3 then true else if X.kd = 5 ∨ X.kd = 7 then c != 1 && !(keyM (xr X.ks) n).2 else !(keyM (xr X.ks) n).2)
    have h0 : X.kd = 0 ∨ c = 0 ∨ holdsM (xpt X) n = true := by simp_all
    rw [if_pos h0]
   ·have h4q := h4; try simp only [decide_eq_true_eq, decide_eq_false_iff_not, beq_iff_eq, beq_eq_false_iff_ne, bne_iff_ne, bne_eq_false_iff_eq, ne_eq, Decidable.not_not, Bool.not_eq_true, Bool.not_eq_false, gt_iff_lt, ge_iff_le, Int.not_lt, Int.not_le] at h4q
    show AWl _ _ _ _ _
    have h0 : ¬ (X.kd = 0 ∨ c = 0 ∨ holdsM (xpt X) n = true) := by simp_all
    iterate 3 refine aN rfl rfl (by constructor) ?_
    refine gCase 24 rfl (fun h5 => ?_) (fun h5 => ?_)
    ·have h5q := h5; try simp only [decide_eq_true_eq, decide_eq_false_iff_not, beq_iff_eq, beq_eq_false_iff_ne, bne_iff_ne, bne_eq_false_iff_eq, ne_eq, Decidable.not_not, Bool.not_eq_true, Bool.not_eq_false, gt_iff_lt, ge_iff_le, Int.not_lt, Int.not_le] at h5q
     refine gT rfl ?_
     refine aN rfl rfl (by constructor) ?_
     refine gT rfl ?_
     iterate 3 refine aN rfl rfl (by constructor) ?_
     refine gCase 28 rfl (fun h6 => ?_) (fun h6 => ?_)
     ·have h6q := h6; try simp only [decide_eq_true_eq, decide_eq_false_iff_not, beq_iff_eq, beq_eq_false_iff_ne, bne_iff_ne, bne_eq_false_iff_eq, ne_eq, Decidable.not_not, Bool.not_eq_true, Bool.not_eq_false, gt_iff_lt, ge_iff_le, Int.not_lt, Int.not_le] at h6q
      refine gT rfl ?_
      refine aN rfl rfl (by constructor) ?_
      refine gT rfl ?_
      refine aN rfl rfl (by constructor) ?_
      refine gT rfl ?_
      refine aN rfl rfl (by constructor) ?_
      refine gT rfl ?_
      refine aN rfl rfl (by constructor) ?_
      refine gT rfl ?_
      refine aIxA rfl rfl (by omega) ?_
      refine gT rfl ?_
      refine aLd st 0 rfl rfl (k8_at X.ks _ (by omega)) (by constructor) ?_
      refine gT rfl ?_
      iterate 2 refine aN rfl rfl (by constructor) ?_
      have hkn : (keyM (xr X.ks) n).2 = (X.ks.getD n.toNat 0 != 0) := by rw [xkey X.ks (n := n) (by omega)]
      refine aMovV (.bool (keyM (xr X.ks) n).2) (congrArg Value.bool hkn.symm) ?_
      refine sE ?_
      show AWl _ _ _ _ _
      iterate 3 refine aN rfl rfl (by constructor) ?_
      refine aLd st 0 rfl rfl rfl (by constructor) ?_
      refine sE ?_
      show AWl _ _ _ _ _
      iterate 2 refine aN rfl rfl (by constructor) ?_
      refine sE ?_
      show AW _ (.cond _ _ _) _ _ _
      refine cC' rfl (fun h7 => ?_) (fun h7 => ?_)
      ·have h7q := h7; try simp only [decide_eq_true_eq, decide_eq_false_iff_not, beq_iff_eq, beq_eq_false_iff_ne, bne_iff_ne, bne_eq_false_iff_eq, ne_eq, Decidable.not_not, Bool.not_eq_true, Bool.not_eq_false, gt_iff_lt, ge_iff_le, Int.not_lt, Int.not_le] at h7q
       show AWl _ _ _ _ _
       iterate 3 refine aN rfl rfl (by constructor) ?_
       refine sE ?_
       refine ⟨_, out1 (r_tmp rfl (by constructor)), ?_⟩
       refine ⟨congrArg Value.bool ?_, st.drop⟩
       show _ = (if X.kd = 0 ∨ c = 0 ∨ holdsM (xpt X) n = true then false else if X.kd = 1 then c != 1 else if X.kd = 3 then true else if X.kd = 5 ∨ X.kd = 7 then c != 1 && !(keyM (xr X.ks) n).2 else !(keyM (xr X.ks) n).2)
       rw [if_neg h0]
       have k1 : X.kd = 1 := by simpa using h7
       rw [if_pos k1]
      ·have h7q := h7; try simp only [decide_eq_true_eq, decide_eq_false_iff_not, beq_iff_eq, beq_eq_false_iff_ne, bne_iff_ne, bne_eq_false_iff_eq, ne_eq, Decidable.not_not, Bool.not_eq_true, Bool.not_eq_false, gt_iff_lt, ge_iff_le, Int.not_lt, Int.not_le] at h7q
       show AWl _ _ _ _ _
       iterate 2 refine aN rfl rfl (by constructor) ?_
       refine sE ?_
       show AW _ (.cond _ _ _) _ _ _
       refine cC' rfl (fun h8 => ?_) (fun h8 => ?_)
       ·have h8q := h8; try simp only [decide_eq_true_eq, decide_eq_false_iff_not, beq_iff_eq, beq_eq_false_iff_ne, bne_iff_ne, bne_eq_false_iff_eq, ne_eq, Decidable.not_not, Bool.not_eq_true, Bool.not_eq_false, gt_iff_lt, ge_iff_le, Int.not_lt, Int.not_le] at h8q
        show AWl _ _ _ _ _
        refine aN rfl rfl (by constructor) ?_
        refine sE ?_
        refine ⟨_, out1 (r_tmp rfl (by constructor)), ?_⟩
        refine ⟨congrArg Value.bool ?_, st.drop⟩
        show _ = (if X.kd = 0 ∨ c = 0 ∨ holdsM (xpt X) n = true then false else if X.kd = 1 then c != 1 else if X.kd = 3 then true else if X.kd = 5 ∨ X.kd = 7 then c != 1 && !(keyM (xr X.ks) n).2 else !(keyM (xr X.ks) n).2)
        rw [if_neg h0]
        have k1 : ¬ X.kd = 1 := by simpa using h7
        rw [if_neg k1]
        have k3 : X.kd = 3 := by simpa using h8
        rw [if_pos k3]
       ·have h8q := h8; try simp only [decide_eq_true_eq, decide_eq_false_iff_not, beq_iff_eq, beq_eq_false_iff_ne, bne_iff_ne, bne_eq_false_iff_eq, ne_eq, Decidable.not_not, Bool.not_eq_true, Bool.not_eq_false, gt_iff_lt, ge_iff_le, Int.not_lt, Int.not_le] at h8q
        show AWl _ _ _ _ _
        iterate 2 refine aN rfl rfl (by constructor) ?_
        refine sE ?_
        show AW _ (.cond _ _ _) _ _ _
        refine cC' rfl (fun h9 => ?_) (fun h9 => ?_)
        ·have h9q := h9; try simp only [decide_eq_true_eq, decide_eq_false_iff_not, beq_iff_eq, beq_eq_false_iff_ne, bne_iff_ne, bne_eq_false_iff_eq, ne_eq, Decidable.not_not, Bool.not_eq_true, Bool.not_eq_false, gt_iff_lt, ge_iff_le, Int.not_lt, Int.not_le] at h9q
         show AW _ (.cond _ _ _) _ _ _
         refine cT rfl ?_
         show AWl _ _ _ _ _
         iterate 3 refine aN rfl rfl (by constructor) ?_
         refine gCase 52 rfl (fun h10 => ?_) (fun h10 => ?_)
         ·have h10q := h10; try simp only [decide_eq_true_eq, decide_eq_false_iff_not, beq_iff_eq, beq_eq_false_iff_ne, bne_iff_ne, bne_eq_false_iff_eq, ne_eq, Decidable.not_not, Bool.not_eq_true, Bool.not_eq_false, gt_iff_lt, ge_iff_le, Int.not_lt, Int.not_le] at h10q
          refine gT rfl ?_
          refine aN rfl rfl (by constructor) ?_
          refine gT rfl ?_
          iterate 3 refine aN rfl rfl (by constructor) ?_
          refine sE ?_
          refine ⟨_, out1 (r_tmp rfl (by constructor)), ?_⟩
          refine ⟨congrArg Value.bool ?_, st.drop⟩
          show _ = (if X.kd = 0 ∨ c = 0 ∨ holdsM (xpt X) n = true then false else if X.kd = 1 then c != 1 else if X.kd = 3 then true else if X.kd = 5 ∨ X.kd = 7 then c != 1 && !(keyM (xr X.ks) n).2 else !(keyM (xr X.ks) n).2)
          rw [if_neg h0]
          have k1 : ¬ X.kd = 1 := by simpa using h7
          rw [if_neg k1]
          have k3 : ¬ X.kd = 3 := by simpa using h8
          rw [if_neg k3]
          have k5 : (X.kd = 5 ∨ X.kd = 7) := by simp_all
          rw [if_pos k5] <;> first | rfl | simp_all
         ·have h10q := h10; try simp only [decide_eq_true_eq, decide_eq_false_iff_not, beq_iff_eq, beq_eq_false_iff_ne, bne_iff_ne, bne_eq_false_iff_eq, ne_eq, Decidable.not_not, Bool.not_eq_true, Bool.not_eq_false, gt_iff_lt, ge_iff_le, Int.not_lt, Int.not_le] at h10q
          refine gF rfl (by decide) ?_
          refine gF rfl (by decide) ?_
          iterate 2 refine aN rfl rfl (by constructor) ?_
          refine sE ?_
          refine ⟨_, out1 (r_tmp rfl (by constructor)), ?_⟩
          refine ⟨congrArg Value.bool ?_, st.drop⟩
          show _ = (if X.kd = 0 ∨ c = 0 ∨ holdsM (xpt X) n = true then false else if X.kd = 1 then c != 1 else if X.kd = 3 then true else if X.kd = 5 ∨ X.kd = 7 then c != 1 && !(keyM (xr X.ks) n).2 else !(keyM (xr X.ks) n).2)
          rw [if_neg h0]
          have k1 : ¬ X.kd = 1 := by simpa using h7
          rw [if_neg k1]
          have k3 : ¬ X.kd = 3 := by simpa using h8
          rw [if_neg k3]
          have k5 : (X.kd = 5 ∨ X.kd = 7) := by simp_all
          rw [if_pos k5] <;> first | rfl | simp_all
        ·have h9q := h9; try simp only [decide_eq_true_eq, decide_eq_false_iff_not, beq_iff_eq, beq_eq_false_iff_ne, bne_iff_ne, bne_eq_false_iff_eq, ne_eq, Decidable.not_not, Bool.not_eq_true, Bool.not_eq_false, gt_iff_lt, ge_iff_le, Int.not_lt, Int.not_le] at h9q
         show AWl _ _ _ _ _
         iterate 2 refine aN rfl rfl (by constructor) ?_
         refine sE ?_
         show AW _ (.cond _ _ _) _ _ _
         refine cC' rfl (fun h11 => ?_) (fun h11 => ?_)
         ·have h11q := h11; try simp only [decide_eq_true_eq, decide_eq_false_iff_not, beq_iff_eq, beq_eq_false_iff_ne, bne_iff_ne, bne_eq_false_iff_eq, ne_eq, Decidable.not_not, Bool.not_eq_true, Bool.not_eq_false, gt_iff_lt, ge_iff_le, Int.not_lt, Int.not_le] at h11q
          show AWl _ _ _ _ _
          iterate 3 refine aN rfl rfl (by constructor) ?_
          refine gCase 52 rfl (fun h12 => ?_) (fun h12 => ?_)
          ·have h12q := h12; try simp only [decide_eq_true_eq, decide_eq_false_iff_not, beq_iff_eq, beq_eq_false_iff_ne, bne_iff_ne, bne_eq_false_iff_eq, ne_eq, Decidable.not_not, Bool.not_eq_true, Bool.not_eq_false, gt_iff_lt, ge_iff_le, Int.not_lt, Int.not_le] at h12q
           refine gT rfl ?_
           refine aN rfl rfl (by constructor) ?_
           refine gT rfl ?_
           iterate 3 refine aN rfl rfl (by constructor) ?_
           refine sE ?_
           refine ⟨_, out1 (r_tmp rfl (by constructor)), ?_⟩
           refine ⟨congrArg Value.bool ?_, st.drop⟩
           show _ = (if X.kd = 0 ∨ c = 0 ∨ holdsM (xpt X) n = true then false else if X.kd = 1 then c != 1 else if X.kd = 3 then true else if X.kd = 5 ∨ X.kd = 7 then c != 1 && !(keyM (xr X.ks) n).2 else !(keyM (xr X.ks) n).2)
           rw [if_neg h0]
           have k1 : ¬ X.kd = 1 := by simpa using h7
           rw [if_neg k1]
           have k3 : ¬ X.kd = 3 := by simpa using h8
           rw [if_neg k3]
           have k5 : (X.kd = 5 ∨ X.kd = 7) := by simp_all
           rw [if_pos k5] <;> first | rfl | simp_all
          ·have h12q := h12; try simp only [decide_eq_true_eq, decide_eq_false_iff_not, beq_iff_eq, beq_eq_false_iff_ne, bne_iff_ne, bne_eq_false_iff_eq, ne_eq, Decidable.not_not, Bool.not_eq_true, Bool.not_eq_false, gt_iff_lt, ge_iff_le, Int.not_lt, Int.not_le] at h12q
           refine gF rfl (by decide) ?_
           refine gF rfl (by decide) ?_
           iterate 2 refine aN rfl rfl (by constructor) ?_
           refine sE ?_
           refine ⟨_, out1 (r_tmp rfl (by constructor)), ?_⟩
           refine ⟨congrArg Value.bool ?_, st.drop⟩
           show _ = (if X.kd = 0 ∨ c = 0 ∨ holdsM (xpt X) n = true then false else if X.kd = 1 then c != 1 else if X.kd = 3 then true else if X.kd = 5 ∨ X.kd = 7 then c != 1 && !(keyM (xr X.ks) n).2 else !(keyM (xr X.ks) n).2)
           rw [if_neg h0]
           have k1 : ¬ X.kd = 1 := by simpa using h7
           rw [if_neg k1]
           have k3 : ¬ X.kd = 3 := by simpa using h8
           rw [if_neg k3]
           have k5 : (X.kd = 5 ∨ X.kd = 7) := by simp_all
           rw [if_pos k5] <;> first | rfl | simp_all
         ·have h11q := h11; try simp only [decide_eq_true_eq, decide_eq_false_iff_not, beq_iff_eq, beq_eq_false_iff_ne, bne_iff_ne, bne_eq_false_iff_eq, ne_eq, Decidable.not_not, Bool.not_eq_true, Bool.not_eq_false, gt_iff_lt, ge_iff_le, Int.not_lt, Int.not_le] at h11q
          show AWl _ _ _ _ _
          iterate 3 refine aN rfl rfl (by constructor) ?_
          refine sE ?_
          refine ⟨_, out1 (r_tmp rfl (by constructor)), ?_⟩
          refine ⟨congrArg Value.bool ?_, st.drop⟩
          show _ = (if X.kd = 0 ∨ c = 0 ∨ holdsM (xpt X) n = true then false else if X.kd = 1 then c != 1 else if X.kd = 3 then true else if X.kd = 5 ∨ X.kd = 7 then c != 1 && !(keyM (xr X.ks) n).2 else !(keyM (xr X.ks) n).2)
          rw [if_neg h0]
          have k1 : ¬ X.kd = 1 := by simpa using h7
          rw [if_neg k1]
          have k3 : ¬ X.kd = 3 := by simpa using h8
          rw [if_neg k3]
          have k5 : ¬ (X.kd = 5 ∨ X.kd = 7) := by simp_all
          rw [if_neg k5] <;> first | rfl | simp_all
     ·have h6q := h6; try simp only [decide_eq_true_eq, decide_eq_false_iff_not, beq_iff_eq, beq_eq_false_iff_ne, bne_iff_ne, bne_eq_false_iff_eq, ne_eq, Decidable.not_not, Bool.not_eq_true, Bool.not_eq_false, gt_iff_lt, ge_iff_le, Int.not_lt, Int.not_le] at h6q
      refine gF rfl (by decide) ?_
      refine gF rfl (by decide) ?_
      refine gF rfl (by decide) ?_
      refine gF rfl (by decide) ?_
      refine gF rfl (by decide) ?_
      refine gF rfl (by decide) ?_
      refine gF rfl (by decide) ?_
      refine aN rfl rfl (by constructor) ?_
      have hkn : (keyM (xr X.ks) n).2 = false := by rw [xkey_out X.ks (n := n) (by simp_all <;> omega)]
      refine aMovV (.bool (keyM (xr X.ks) n).2) (congrArg Value.bool hkn.symm) ?_
      refine sE ?_
      show AWl _ _ _ _ _
      iterate 3 refine aN rfl rfl (by constructor) ?_
      refine aLd st 0 rfl rfl rfl (by constructor) ?_
      refine sE ?_
      show AWl _ _ _ _ _
      iterate 2 refine aN rfl rfl (by constructor) ?_
      refine sE ?_
      show AW _ (.cond _ _ _) _ _ _
      refine cC' rfl (fun h13 => ?_) (fun h13 => ?_)
      ·have h13q := h13; try simp only [decide_eq_true_eq, decide_eq_false_iff_not, beq_iff_eq, beq_eq_false_iff_ne, bne_iff_ne, bne_eq_false_iff_eq, ne_eq, Decidable.not_not, Bool.not_eq_true, Bool.not_eq_false, gt_iff_lt, ge_iff_le, Int.not_lt, Int.not_le] at h13q
       show AWl _ _ _ _ _
       iterate 3 refine aN rfl rfl (by constructor) ?_
       refine sE ?_
       refine ⟨_, out1 (r_tmp rfl (by constructor)), ?_⟩
       refine ⟨congrArg Value.bool ?_, st.drop⟩
       show _ = (if X.kd = 0 ∨ c = 0 ∨ holdsM (xpt X) n = true then false else if X.kd = 1 then c != 1 else if X.kd = 3 then true else if X.kd = 5 ∨ X.kd = 7 then c != 1 && !(keyM (xr X.ks) n).2 else !(keyM (xr X.ks) n).2)
       rw [if_neg h0]
       have k1 : X.kd = 1 := by simpa using h13
       rw [if_pos k1]
      ·have h13q := h13; try simp only [decide_eq_true_eq, decide_eq_false_iff_not, beq_iff_eq, beq_eq_false_iff_ne, bne_iff_ne, bne_eq_false_iff_eq, ne_eq, Decidable.not_not, Bool.not_eq_true, Bool.not_eq_false, gt_iff_lt, ge_iff_le, Int.not_lt, Int.not_le] at h13q
       show AWl _ _ _ _ _
       iterate 2 refine aN rfl rfl (by constructor) ?_
       refine sE ?_
       show AW _ (.cond _ _ _) _ _ _
       refine cC' rfl (fun h14 => ?_) (fun h14 => ?_)
       ·have h14q := h14; try simp only [decide_eq_true_eq, decide_eq_false_iff_not, beq_iff_eq, beq_eq_false_iff_ne, bne_iff_ne, bne_eq_false_iff_eq, ne_eq, Decidable.not_not, Bool.not_eq_true, Bool.not_eq_false, gt_iff_lt, ge_iff_le, Int.not_lt, Int.not_le] at h14q
        show AWl _ _ _ _ _
        refine aN rfl rfl (by constructor) ?_
        refine sE ?_
        refine ⟨_, out1 (r_tmp rfl (by constructor)), ?_⟩
        refine ⟨congrArg Value.bool ?_, st.drop⟩
        show _ = (if X.kd = 0 ∨ c = 0 ∨ holdsM (xpt X) n = true then false else if X.kd = 1 then c != 1 else if X.kd = 3 then true else if X.kd = 5 ∨ X.kd = 7 then c != 1 && !(keyM (xr X.ks) n).2 else !(keyM (xr X.ks) n).2)
        rw [if_neg h0]
        have k1 : ¬ X.kd = 1 := by simpa using h13
        rw [if_neg k1]
        have k3 : X.kd = 3 := by simpa using h14
        rw [if_pos k3]
       ·have h14q := h14; try simp only [decide_eq_true_eq, decide_eq_false_iff_not, beq_iff_eq, beq_eq_false_iff_ne, bne_iff_ne, bne_eq_false_iff_eq, ne_eq, Decidable.not_not, Bool.not_eq_true, Bool.not_eq_false, gt_iff_lt, ge_iff_le, Int.not_lt, Int.not_le] at h14q
        show AWl _ _ _ _ _
        iterate 2 refine aN rfl rfl (by constructor) ?_
        refine sE ?_
        show AW _ (.cond _ _ _) _ _ _
        refine cC' rfl (fun h15 => ?_) (fun h15 => ?_)
        ·have h15q := h15; try simp only [decide_eq_true_eq, decide_eq_false_iff_not, beq_iff_eq, beq_eq_false_iff_ne, bne_iff_ne, bne_eq_false_iff_eq, ne_eq, Decidable.not_not, Bool.not_eq_true, Bool.not_eq_false, gt_iff_lt, ge_iff_le, Int.not_lt, Int.not_le] at h15q
         show AW _ (.cond _ _ _) _ _ _
         refine cT rfl ?_
         show AWl _ _ _ _ _
         iterate 3 refine aN rfl rfl (by constructor) ?_
         refine gCase 52 rfl (fun h16 => ?_) (fun h16 => ?_)
         ·have h16q := h16; try simp only [decide_eq_true_eq, decide_eq_false_iff_not, beq_iff_eq, beq_eq_false_iff_ne, bne_iff_ne, bne_eq_false_iff_eq, ne_eq, Decidable.not_not, Bool.not_eq_true, Bool.not_eq_false, gt_iff_lt, ge_iff_le, Int.not_lt, Int.not_le] at h16q
          refine gT rfl ?_
          refine aN rfl rfl (by constructor) ?_
          refine gT rfl ?_
          iterate 3 refine aN rfl rfl (by constructor) ?_
          refine sE ?_
          refine ⟨_, out1 (r_tmp rfl (by constructor)), ?_⟩
          refine ⟨congrArg Value.bool ?_, st.drop⟩
          show _ = (if X.kd = 0 ∨ c = 0 ∨ holdsM (xpt X) n = true then false else if X.kd = 1 then c != 1 else if X.kd = 3 then true else if X.kd = 5 ∨ X.kd = 7 then c != 1 && !(keyM (xr X.ks) n).2 else !(keyM (xr X.ks) n).2)
          rw [if_neg h0]
          have k1 : ¬ X.kd = 1 := by simpa using h13
          rw [if_neg k1]
          have k3 : ¬ X.kd = 3 := by simpa using h14
          rw [if_neg k3]
          have k5 : (X.kd = 5 ∨ X.kd = 7) := by simp_all
          rw [if_pos k5] <;> first | rfl | simp_all
         ·have h16q := h16; try simp only [decide_eq_true_eq, decide_eq_false_iff_not, beq_iff_eq, beq_eq_false_iff_ne, bne_iff_ne, bne_eq_false_iff_eq, ne_eq, Decidable.not_not, Bool.not_eq_true, Bool.not_eq_false, gt_iff_lt, ge_iff_le, Int.not_lt, Int.not_le] at h16q
          refine gF rfl (by decide) ?_
          refine gF rfl (by decide) ?_
          iterate 2 refine aN rfl rfl (by constructor) ?_
          refine sE ?_
          refine ⟨_, out1 (r_tmp rfl (by constructor)), ?_⟩
          refine ⟨congrArg Value.bool ?_, st.drop⟩
          show _ = (if X.kd = 0 ∨ c = 0 ∨ holdsM (xpt X) n = true then false else if X.kd = 1 then c != 1 else if X.kd = 3 then true else if X.kd = 5 ∨ X.kd = 7 then c != 1 && !(keyM (xr X.ks) n).2 else !(keyM (xr X.ks) n).2)
          rw [if_neg h0]
          have k1 : ¬ X.kd = 1 := by simpa using h13
          rw [if_neg k1]
          have k3 : ¬ X.kd = 3 := by simpa using h14
          rw [if_neg k3]
          have k5 : (X.kd = 5 ∨ X.kd = 7) := by simp_all
          rw [if_pos k5] <;> first | rfl | simp_all
        ·have h15q := h15; try simp only [decide_eq_true_eq, decide_eq_false_iff_not, beq_iff_eq, beq_eq_false_iff_ne, bne_iff_ne, bne_eq_false_iff_eq, ne_eq, Decidable.not_not, Bool.not_eq_true, Bool.not_eq_false, gt_iff_lt, ge_iff_le, Int.not_lt, Int.not_le] at h15q
         show AWl _ _ _ _ _
         iterate 2 refine aN rfl rfl (by constructor) ?_
         refine sE ?_
         show AW _ (.cond _ _ _) _ _ _
         refine cC' rfl (fun h17 => ?_) (fun h17 => ?_)
         ·have h17q := h17; try simp only [decide_eq_true_eq, decide_eq_false_iff_not, beq_iff_eq, beq_eq_false_iff_ne, bne_iff_ne, bne_eq_false_iff_eq, ne_eq, Decidable.not_not, Bool.not_eq_true, Bool.not_eq_false, gt_iff_lt, ge_iff_le, Int.not_lt, Int.not_le] at h17q
          show AWl _ _ _ _ _
          iterate 3 refine aN rfl rfl (by constructor) ?_
          refine gCase 52 rfl (fun h18 => ?_) (fun h18 => ?_)
          ·have h18q := h18; try simp only [decide_eq_true_eq, decide_eq_false_iff_not, beq_iff_eq, beq_eq_false_iff_ne, bne_iff_ne, bne_eq_false_iff_eq, ne_eq, Decidable.not_not, Bool.not_eq_true, Bool.not_eq_false, gt_iff_lt, ge_iff_le, Int.not_lt, Int.not_le] at h18q
           refine gT rfl ?_
           refine aN rfl rfl (by constructor) ?_
           refine gT rfl ?_
           iterate 3 refine aN rfl rfl (by constructor) ?_
           refine sE ?_
           refine ⟨_, out1 (r_tmp rfl (by constructor)), ?_⟩
           refine ⟨congrArg Value.bool ?_, st.drop⟩
           show _ = (if X.kd = 0 ∨ c = 0 ∨ holdsM (xpt X) n = true then false else if X.kd = 1 then c != 1 else if X.kd = 3 then true else if X.kd = 5 ∨ X.kd = 7 then c != 1 && !(keyM (xr X.ks) n).2 else !(keyM (xr X.ks) n).2)
           rw [if_neg h0]
           have k1 : ¬ X.kd = 1 := by simpa using h13
           rw [if_neg k1]
           have k3 : ¬ X.kd = 3 := by simpa using h14
           rw [if_neg k3]
           have k5 : (X.kd = 5 ∨ X.kd = 7) := by simp_all
           rw [if_pos k5] <;> first | rfl | simp_all
          ·have h18q := h18; try simp only [decide_eq_true_eq, decide_eq_false_iff_not, beq_iff_eq, beq_eq_false_iff_ne, bne_iff_ne, bne_eq_false_iff_eq, ne_eq, Decidable.not_not, Bool.not_eq_true, Bool.not_eq_false, gt_iff_lt, ge_iff_le, Int.not_lt, Int.not_le] at h18q
           refine gF rfl (by decide) ?_
           refine gF rfl (by decide) ?_
           iterate 2 refine aN rfl rfl (by constructor) ?_
           refine sE ?_
           refine ⟨_, out1 (r_tmp rfl (by constructor)), ?_⟩
           refine ⟨congrArg Value.bool ?_, st.drop⟩
           show _ = (if X.kd = 0 ∨ c = 0 ∨ holdsM (xpt X) n = true then false else if X.kd = 1 then c != 1 else if X.kd = 3 then true else if X.kd = 5 ∨ X.kd = 7 then c != 1 && !(keyM (xr X.ks) n).2 else !(keyM (xr X.ks) n).2)
           rw [if_neg h0]
           have k1 : ¬ X.kd = 1 := by simpa using h13
           rw [if_neg k1]
           have k3 : ¬ X.kd = 3 := by simpa using h14
           rw [if_neg k3]
           have k5 : (X.kd = 5 ∨ X.kd = 7) := by simp_all
           rw [if_pos k5] <;> first | rfl | simp_all
         ·have h17q := h17; try simp only [decide_eq_true_eq, decide_eq_false_iff_not, beq_iff_eq, beq_eq_false_iff_ne, bne_iff_ne, bne_eq_false_iff_eq, ne_eq, Decidable.not_not, Bool.not_eq_true, Bool.not_eq_false, gt_iff_lt, ge_iff_le, Int.not_lt, Int.not_le] at h17q
          show AWl _ _ _ _ _
          iterate 3 refine aN rfl rfl (by constructor) ?_
          refine sE ?_
          refine ⟨_, out1 (r_tmp rfl (by constructor)), ?_⟩
          refine ⟨congrArg Value.bool ?_, st.drop⟩
          show _ = (if X.kd = 0 ∨ c = 0 ∨ holdsM (xpt X) n = true then false else if X.kd = 1 then c != 1 else if X.kd = 3 then true else if X.kd = 5 ∨ X.kd = 7 then c != 1 && !(keyM (xr X.ks) n).2 else !(keyM (xr X.ks) n).2)
          rw [if_neg h0]
          have k1 : ¬ X.kd = 1 := by simpa using h13
          rw [if_neg k1]
          have k3 : ¬ X.kd = 3 := by simpa using h14
          rw [if_neg k3]
          have k5 : ¬ (X.kd = 5 ∨ X.kd = 7) := by simp_all
          rw [if_neg k5] <;> first | rfl | simp_all
    ·have h5q := h5; try simp only [decide_eq_true_eq, decide_eq_false_iff_not, beq_iff_eq, beq_eq_false_iff_ne, bne_iff_ne, bne_eq_false_iff_eq, ne_eq, Decidable.not_not, Bool.not_eq_true, Bool.not_eq_false, gt_iff_lt, ge_iff_le, Int.not_lt, Int.not_le] at h5q
     refine gF rfl (by decide) ?_
     refine gF rfl (by decide) ?_
     iterate 2 refine aN rfl rfl (by constructor) ?_
     refine gF rfl (by decide) ?_
     refine gF rfl (by decide) ?_
     refine gF rfl (by decide) ?_
     refine gF rfl (by decide) ?_
     refine gF rfl (by decide) ?_
     refine gF rfl (by decide) ?_
     refine gF rfl (by decide) ?_
     refine aN rfl rfl (by constructor) ?_
     have hkn : (keyM (xr X.ks) n).2 = false := by rw [xkey_out X.ks (n := n) (by simp_all <;> omega)]
     refine aMovV (.bool (keyM (xr X.ks) n).2) (congrArg Value.bool hkn.symm) ?_
     refine sE ?_
     show AWl _ _ _ _ _
     iterate 3 refine aN rfl rfl (by constructor) ?_
     refine aLd st 0 rfl rfl rfl (by constructor) ?_
     refine sE ?_
     show AWl _ _ _ _ _
     iterate 2 refine aN rfl rfl (by constructor) ?_
     refine sE ?_
     show AW _ (.cond _ _ _) _ _ _
     refine cC' rfl (fun h19 => ?_) (fun h19 => ?_)
     ·have h19q := h19; try simp only [decide_eq_true_eq, decide_eq_false_iff_not, beq_iff_eq, beq_eq_false_iff_ne, bne_iff_ne, bne_eq_false_iff_eq, ne_eq, Decidable.not_not, Bool.not_eq_true, Bool.not_eq_false, gt_iff_lt, ge_iff_le, Int.not_lt, Int.not_le] at h19q
      show AWl _ _ _ _ _
      iterate 3 refine aN rfl rfl (by constructor) ?_
      refine sE ?_
      refine ⟨_, out1 (r_tmp rfl (by constructor)), ?_⟩
      refine ⟨congrArg Value.bool ?_, st.drop⟩
      show _ = (if X.kd = 0 ∨ c = 0 ∨ holdsM (xpt X) n = true then false else if X.kd = 1 then c != 1 else if X.kd = 3 then true else if X.kd = 5 ∨ X.kd = 7 then c != 1 && !(keyM (xr X.ks) n).2 else !(keyM (xr X.ks) n).2)
      rw [if_neg h0]
      have k1 : X.kd = 1 := by simpa using h19
      rw [if_pos k1]
     ·have h19q := h19; try simp only [decide_eq_true_eq, decide_eq_false_iff_not, beq_iff_eq, beq_eq_false_iff_ne, bne_iff_ne, bne_eq_false_iff_eq, ne_eq, Decidable.not_not, Bool.not_eq_true, Bool.not_eq_false, gt_iff_lt, ge_iff_le, Int.not_lt, Int.not_le] at h19q
      show AWl _ _ _ _ _
      iterate 2 refine aN rfl rfl (by constructor) ?_
      refine sE ?_
      show AW _ (.cond _ _ _) _ _ _
      refine cC' rfl (fun h20 => ?_) (fun h20 => ?_)
      ·have h20q := h20; try simp only [decide_eq_true_eq, decide_eq_false_iff_not, beq_iff_eq, beq_eq_false_iff_ne, bne_iff_ne, bne_eq_false_iff_eq, ne_eq, Decidable.not_not, Bool.not_eq_true, Bool.not_eq_false, gt_iff_lt, ge_iff_le, Int.not_lt, Int.not_le] at h20q
       show AWl _ _ _ _ _
       refine aN rfl rfl (by constructor) ?_
       refine sE ?_
       refine ⟨_, out1 (r_tmp rfl (by constructor)), ?_⟩
       refine ⟨congrArg Value.bool ?_, st.drop⟩
       show _ = (if X.kd = 0 ∨ c = 0 ∨ holdsM (xpt X) n = true then false else if X.kd = 1 then c != 1 else if X.kd = 3 then true else if X.kd = 5 ∨ X.kd = 7 then c != 1 && !(keyM (xr X.ks) n).2 else !(keyM (xr X.ks) n).2)
       rw [if_neg h0]
       have k1 : ¬ X.kd = 1 := by simpa using h19
       rw [if_neg k1]
       have k3 : X.kd = 3 := by simpa using h20
       rw [if_pos k3]
      ·have h20q := h20; try simp only [decide_eq_true_eq, decide_eq_false_iff_not, beq_iff_eq, beq_eq_false_iff_ne, bne_iff_ne, bne_eq_false_iff_eq, ne_eq, Decidable.not_not, Bool.not_eq_true, Bool.not_eq_false, gt_iff_lt, ge_iff_le, Int.not_lt, Int.not_le] at h20q
       show AWl _ _ _ _ _
       iterate 2 refine aN rfl rfl (by constructor) ?_
       refine sE ?_
       show AW _ (.cond _ _ _) _ _ _
       refine cC' rfl (fun h21 => ?_) (fun h21 => ?_)
       ·have h21q := h21; try simp only [decide_eq_true_eq, decide_eq_false_iff_not, beq_iff_eq, beq_eq_false_iff_ne, bne_iff_ne, bne_eq_false_iff_eq, ne_eq, Decidable.not_not, Bool.not_eq_true, Bool.not_eq_false, gt_iff_lt, ge_iff_le, Int.not_lt, Int.not_le] at h21q
        show AW _ (.cond _ _ _) _ _ _
        refine cT rfl ?_
        show AWl _ _ _ _ _
        iterate 3 refine aN rfl rfl (by constructor) ?_
        refine gCase 52 rfl (fun h22 => ?_) (fun h22 => ?_)
        ·have h22q := h22; try simp only [decide_eq_true_eq, decide_eq_false_iff_not, beq_iff_eq, beq_eq_false_iff_ne, bne_iff_ne, bne_eq_false_iff_eq, ne_eq, Decidable.not_not, Bool.not_eq_true, Bool.not_eq_false, gt_iff_lt, ge_iff_le, Int.not_lt, Int.not_le] at h22q
         refine gT rfl ?_
         refine aN rfl rfl (by constructor) ?_
         refine gT rfl ?_
         iterate 3 refine aN rfl rfl (by constructor) ?_
         refine sE ?_
         refine ⟨_, out1 (r_tmp rfl (by constructor)), ?_⟩
         refine ⟨congrArg Value.bool ?_, st.drop⟩
         show _ = (if X.kd = 0 ∨ c = 0 ∨ holdsM (xpt X) n = true then false else if X.kd = 1 then c != 1 else if X.kd = 3 then true else if X.kd = 5 ∨ X.kd = 7 then c != 1 && !(keyM (xr X.ks) n).2 else !(keyM (xr X.ks) n).2)
         rw [if_neg h0]
         have k1 : ¬ X.kd = 1 := by simpa using h19
         rw [if_neg k1]
         have k3 : ¬ X.kd = 3 := by simpa using h20
         rw [if_neg k3]
         have k5 : (X.kd = 5 ∨ X.kd = 7) := by simp_all
         rw [if_pos k5] <;> first | rfl | simp_all
        ·have h22q := h22; try simp only [decide_eq_true_eq, decide_eq_false_iff_not, beq_iff_eq, beq_eq_false_iff_ne, bne_iff_ne, bne_eq_false_iff_eq, ne_eq, Decidable.not_not, Bool.not_eq_true, Bool.not_eq_false, gt_iff_lt, ge_iff_le, Int.not_lt, Int.not_le] at h22q
         refine gF rfl (by decide) ?_
         refine gF rfl (by decide) ?_
         iterate 2 refine aN rfl rfl (by constructor) ?_
         refine sE ?_
         refine ⟨_, out1 (r_tmp rfl (by constructor)), ?_⟩
         refine ⟨congrArg Value.bool ?_, st.drop⟩
         show _ = (if X.kd = 0 ∨ c = 0 ∨ holdsM (xpt X) n = true then false else if X.kd = 1 then c != 1 else if X.kd = 3 then true else if X.kd = 5 ∨ X.kd = 7 then c != 1 && !(keyM (xr X.ks) n).2 else !(keyM (xr X.ks) n).2)
         rw [if_neg h0]
         have k1 : ¬ X.kd = 1 := by simpa using h19
         rw [if_neg k1]
         have k3 : ¬ X.kd = 3 := by simpa using h20
         rw [if_neg k3]
         have k5 : (X.kd = 5 ∨ X.kd = 7) := by simp_all
         rw [if_pos k5] <;> first | rfl | simp_all
       ·have h21q := h21; try simp only [decide_eq_true_eq, decide_eq_false_iff_not, beq_iff_eq, beq_eq_false_iff_ne, bne_iff_ne, bne_eq_false_iff_eq, ne_eq, Decidable.not_not, Bool.not_eq_true, Bool.not_eq_false, gt_iff_lt, ge_iff_le, Int.not_lt, Int.not_le] at h21q
        show AWl _ _ _ _ _
        iterate 2 refine aN rfl rfl (by constructor) ?_
        refine sE ?_
        show AW _ (.cond _ _ _) _ _ _
        refine cC' rfl (fun h23 => ?_) (fun h23 => ?_)
        ·have h23q := h23; try simp only [decide_eq_true_eq, decide_eq_false_iff_not, beq_iff_eq, beq_eq_false_iff_ne, bne_iff_ne, bne_eq_false_iff_eq, ne_eq, Decidable.not_not, Bool.not_eq_true, Bool.not_eq_false, gt_iff_lt, ge_iff_le, Int.not_lt, Int.not_le] at h23q
         show AWl _ _ _ _ _
         iterate 3 refine aN rfl rfl (by constructor) ?_
         refine gCase 52 rfl (fun h24 => ?_) (fun h24 => ?_)
         ·have h24q := h24; try simp only [decide_eq_true_eq, decide_eq_false_iff_not, beq_iff_eq, beq_eq_false_iff_ne, bne_iff_ne, bne_eq_false_iff_eq, ne_eq, Decidable.not_not, Bool.not_eq_true, Bool.not_eq_false, gt_iff_lt, ge_iff_le, Int.not_lt, Int.not_le] at h24q
          refine gT rfl ?_
          refine aN rfl rfl (by constructor) ?_
          refine gT rfl ?_
          iterate 3 refine aN rfl rfl (by constructor) ?_
          refine sE ?_
          refine ⟨_, out1 (r_tmp rfl (by constructor)), ?_⟩
          refine ⟨congrArg Value.bool ?_, st.drop⟩
          show _ = (if X.kd = 0 ∨ c = 0 ∨ holdsM (xpt X) n = true then false else if X.kd = 1 then c != 1 else if X.kd = 3 then true else if X.kd = 5 ∨ X.kd = 7 then c != 1 && !(keyM (xr X.ks) n).2 else !(keyM (xr X.ks) n).2)
          rw [if_neg h0]
          have k1 : ¬ X.kd = 1 := by simpa using h19
          rw [if_neg k1]
          have k3 : ¬ X.kd = 3 := by simpa using h20
          rw [if_neg k3]
          have k5 : (X.kd = 5 ∨ X.kd = 7) := by simp_all
          rw [if_pos k5] <;> first | rfl | simp_all
         ·have h24q := h24; try simp only [decide_eq_true_eq, decide_eq_false_iff_not, beq_iff_eq, beq_eq_false_iff_ne, bne_iff_ne, bne_eq_false_iff_eq, ne_eq, Decidable.not_not, Bool.not_eq_true, Bool.not_eq_false, gt_iff_lt, ge_iff_le, Int.not_lt, Int.not_le] at h24q
          refine gF rfl (by decide) ?_
          refine gF rfl (by decide) ?_
          iterate 2 refine aN rfl rfl (by constructor) ?_
          refine sE ?_
          refine ⟨_, out1 (r_tmp rfl (by constructor)), ?_⟩
          refine ⟨congrArg Value.bool ?_, st.drop⟩
          show _ = (if X.kd = 0 ∨ c = 0 ∨ holdsM (xpt X) n = true then false else if X.kd = 1 then c != 1 else if X.kd = 3 then true else if X.kd = 5 ∨ X.kd = 7 then c != 1 && !(keyM (xr X.ks) n).2 else !(keyM (xr X.ks) n).2)
          rw [if_neg h0]
          have k1 : ¬ X.kd = 1 := by simpa using h19
          rw [if_neg k1]
          have k3 : ¬ X.kd = 3 := by simpa using h20
          rw [if_neg k3]
          have k5 : (X.kd = 5 ∨ X.kd = 7) := by simp_all
          rw [if_pos k5] <;> first | rfl | simp_all
        ·have h23q := h23; try simp only [decide_eq_true_eq, decide_eq_false_iff_not, beq_iff_eq, beq_eq_false_iff_ne, bne_iff_ne, bne_eq_false_iff_eq, ne_eq, Decidable.not_not, Bool.not_eq_true, Bool.not_eq_false, gt_iff_lt, ge_iff_le, Int.not_lt, Int.not_le] at h23q
         show AWl _ _ _ _ _
         iterate 3 refine aN rfl rfl (by constructor) ?_
         refine sE ?_
         refine ⟨_, out1 (r_tmp rfl (by constructor)), ?_⟩
         refine ⟨congrArg Value.bool ?_, st.drop⟩
         show _ = (if X.kd = 0 ∨ c = 0 ∨ holdsM (xpt X) n = true then false else if X.kd = 1 then c != 1 else if X.kd = 3 then true else if X.kd = 5 ∨ X.kd = 7 then c != 1 && !(keyM (xr X.ks) n).2 else !(keyM (xr X.ks) n).2)
         rw [if_neg h0]
         have k1 : ¬ X.kd = 1 := by simpa using h19
         rw [if_neg k1]
         have k3 : ¬ X.kd = 3 := by simpa using h20
         rw [if_neg k3]
         have k5 : ¬ (X.kd = 5 ∨ X.kd = 7) := by simp_all
         rw [if_neg k5] <;> first | rfl | simp_all
theorem xresd_call {H : Hp} {b : Nat} {X : XT} (hk : H.m b = some ⟨true, 65, k8 X.ks [.int .i64 X.kd, .int .i64 X.hd, .int .u32 X.gen, .bool X.ls]⟩) :
  ACalls Try.prog 41 [.pointer (some ⟨b, 0, none⟩)] H (fun v H' => v = .tuple #[.int .i64 (reservedM (xpt X)).1, .int .i64 (reservedM (xpt X)).2] ∧ Stt [] H H' []) := by
 refine acallsW Try.func41 f41_ok (Nat.le_of_ble_eq_true rfl) fun hw => ?_
 have st : Stt [] H H [] := Stt.start hw
 replace st := st.ro hk (by simp)
 unfold f41c
 show AWl _ _ _ _ _
 iterate 2 refine aN rfl rfl (by constructor) ?_
 refine sE ?_
 show AWl _ _ _ _ _
 iterate 3 refine aN rfl rfl (by constructor) ?_
 refine aLd st 0 rfl rfl rfl (by constructor) ?_
 iterate 2 refine aN rfl rfl (by constructor) ?_
 refine gCase 9 rfl (fun h1 => ?_) (fun h1 => ?_)
 ·refine gF rfl (by decide) ?_
  refine gF rfl (by decide) ?_
  refine gF rfl (by decide) ?_
  refine gF rfl (by decide) ?_
  refine gF rfl (by decide) ?_
  refine aN rfl rfl (by constructor) ?_
  refine sE ?_
  show AW _ (.cond _ _ _) _ _ _
  refine cT rfl ?_
  show AWl _ _ _ _ _
  iterate 3 refine aN rfl rfl (by constructor) ?_
  refine aLd st 0 rfl rfl rfl (by constructor) ?_
  iterate 2 refine aN rfl rfl (by constructor) ?_
  refine sE ?_
  refine ⟨_, out2 (r_tmp rfl (by constructor)) (r_tmp rfl (by constructor)) ⟨rfl, rfl⟩, ?_⟩
  have h0 : X.kd = 0 := by simpa using h1
  have e : reservedM (xpt X) = (if X.kd = 0 then (0, -1) else if allB X.kd = true then (X.kd, -1) else (X.kd, if X.kd = 0 then -1 else X.hd)) := rfl
  rw [if_pos h0] at e
  exact ⟨by rw [e, h0], st.drop⟩
 ·refine gT rfl ?_
  refine aN rfl rfl (by constructor) ?_
  refine gT rfl ?_
  refine aN rfl rfl (by constructor) ?_
  refine gT rfl ?_
  refine aN rfl rfl (by constructor) ?_
  refine gT rfl ?_
  refine aLd st 0 rfl rfl rfl (by constructor) ?_
  refine gT rfl ?_
  refine aC (xall_call) fun v14 H2 ⟨hv, st1⟩ => ?_
  subst hv
  replace st := st.call st1 rfl
  clear st1
  refine aN rfl rfl (by constructor) ?_
  refine sE ?_
  show AW _ (.cond _ _ _) _ _ _
  refine cC' rfl (fun h3 => ?_) (fun h3 => ?_)
  ·show AWl _ _ _ _ _
   iterate 3 refine aN rfl rfl (by constructor) ?_
   refine aLd st 0 rfl rfl rfl (by constructor) ?_
   iterate 2 refine aN rfl rfl (by constructor) ?_
   refine sE ?_
   refine ⟨_, out2 (r_tmp rfl (by constructor)) (r_tmp rfl (by constructor)) ⟨rfl, rfl⟩, ?_⟩
   have h0 : ¬ X.kd = 0 := by simpa using h1
   have e : reservedM (xpt X) = (if X.kd = 0 then (0, -1) else if allB X.kd = true then (X.kd, -1) else (X.kd, if X.kd = 0 then -1 else X.hd)) := rfl
   rw [if_neg h0, if_pos h3] at e
   exact ⟨by rw [e], st.drop⟩
  ·show AWp _ _ _ _ _
   iterate 3 refine aN rfl rfl (by constructor) ?_
   refine aLd st 0 rfl rfl rfl (by constructor) ?_
   iterate 3 refine aN rfl rfl (by constructor) ?_
   refine aLd st 0 rfl rfl rfl (by constructor) ?_
   iterate 2 refine aN rfl rfl (by constructor) ?_
   refine pE ?_
   refine ⟨_, out2 (r_tmp rfl (by constructor)) (r_tmp rfl (by constructor)) ⟨rfl, rfl⟩, ?_⟩
   have h0 : ¬ X.kd = 0 := by simpa using h1
   have e : reservedM (xpt X) = (if X.kd = 0 then (0, -1) else if allB X.kd = true then (X.kd, -1) else (X.kd, if X.kd = 0 then -1 else X.hd)) := rfl
   rw [if_neg h0, if_neg (by rw [h3]; decide), if_neg h0] at e
   exact ⟨by rw [e], st.drop⟩
end Go.Proofs.Ytihkghfmihdicaa.Abs
