/- CdbReserved, CdbShort. -/
import Derived.Test.YtlbmfcbcmfcjbaaR1
import Derived.Test.YtlbmfcbcmfcjbaaQ3
set_option linter.unusedVariables false
set_option linter.unusedSimpArgs false
set_option maxRecDepth 100000
namespace Go.Proofs.Ytlbmfcbcmfcjbaa.Abs
open Go Go.RowKit
theorem reserved_call {H : Hp} {xs ms : List Int} {x y : Value} {a bt : Nat} (hx : Sl H 1 xs.length (xs.map (Value.int .u8)) x) (hb : ByteL xs) (hl : xs.length ≤ 140737488351232) (hm : Sl H 1 ms.length (ms.map (Value.int .u8)) y) (hbm : ByteL ms) (hlm : ms.length ≤ 140737488351232) (ha : a < 256) (hbt : bt < 256) :
    ACalls Try.prog 5 [x, .int .u8 (a : Int), .int .u8 (bt : Int), y] H (fun v _ => v = .bool true) := by
  refine acallsW Try.func5 f5_ok (Nat.le_of_ble_eq_true rfl) fun hw => ?_
  have st : Stt [] H H [] := Stt.start hw
  unfold f5c
  show AWl _ _ _ _ _
  refine aN rfl rfl (by constructor) ?_
  refine sE ?_
  show AWl _ _ _ _ _
  refine aC (awake_call) fun v25 H1 ⟨hv, st1⟩ => ?_
  subst hv
  replace st := st.call st1 rfl
  clear st1
  refine aN rfl rfl (by constructor) ?_
  refine sE ?_
  show AW _ (.cond _ _ _) _ _ _
  refine cF' rfl ?_
  show AWl _ _ _ _ _
  refine aMovV x rfl ?_
  refine aC (parse_call (xs := xs) (st.slc hx) hb (by omega)) fun v29 H2 ⟨f29, b29, hv, st1, hP29⟩ => ?_
  subst hv
  replace st := st.call st1 rfl
  clear st1
  refine aN rfl rfl (by constructor) ?_
  refine aN rfl rfl (by constructor) ?_
  refine aN rfl rfl (by constructor) ?_
  refine aN rfl rfl (by constructor) ?_
  refine aNewP st rfl rfl (by repeat constructor) fun b9 H3 st => ?_
  refine aNewP st rfl rfl (by repeat constructor) fun b10 H4 st => ?_
  refine aSt st 1 rfl rfl rfl rfl (by first | rfl | simp [cellsOf, *]) (by first | decide | simp [*]) (by repeat constructor) fun H5 st => ?_
  refine aSt st 0 rfl rfl rfl rfl (by first | rfl | simp [cellsOf, *]) (by first | decide | simp [*]) (by repeat constructor) fun H6 st => ?_
  refine aN rfl rfl (by constructor) ?_
  refine sE ?_
  show AWl _ _ _ _ _
  refine aN rfl rfl (by constructor) ?_
  refine aN rfl rfl (by constructor) ?_
  refine sE ?_
  show AW _ (.cond _ _ _) _ _ _
  refine cC' rfl (fun h7 => ?_) (fun h7 => ?_)
  · have h7n : (parseM xs f29 b29).2.2 = false := by simpa using h7
    have hok : (parseM xs f29 b29).2.2 = false := by simpa using h7
    have hz := pm_false hok
    show AWl _ _ _ _ _
    refine aLdA st 1 rfl rfl (by first | decide | simp [*]) (by repeat constructor) ?_
    refine aBld rfl (by repeat constructor) ?_
    refine aEqAV true rfl rfl (by rw [hz]; rfl) ?_
    refine aN rfl rfl (by constructor) ?_
    refine sE ?_
    refine ⟨_, out1 (r_tmp rfl (by constructor)), ?_⟩
    rfl
  · have h7n : (parseM xs f29 b29).2.2 = true := by simpa using h7
    have hok : (parseM xs f29 b29).2.2 = true := by simpa using h7
    obtain ⟨p0, p1, p2, p3, p4, p5, p6⟩ := pm_true hok
    show AWl _ _ _ _ _
    refine aN rfl rfl (by constructor) ?_
    refine sE ?_
    show AWl _ _ _ _ _
    refine aMovV x rfl ?_
    refine aLen (st.slc hx) rfl ?_
    refine aN rfl rfl (by constructor) ?_
    refine sE ?_
    show AW _ (.cond _ _ _) _ _ _
    refine cC' rfl (fun h8 => ?_) (fun h8 => ?_)
    · have hl1 : (xs.length > 1) := by have := of_decide_eq_true h8; omega
      show AWl _ _ _ _ _
      refine aMovV x rfl ?_
      refine aIxB (st.slc hx) rfl rfl (by omega) fun b42 o42 g42 => ?_
      refine aLdG rfl g42 ?_
      refine aN rfl (e_rem rfl rfl (by decide)) (by constructor) ?_
      refine aN rfl rfl (by constructor) ?_
      refine sE ?_
      show AWl _ _ _ _ _
      refine aMovV x rfl ?_
      refine aIxB (st.slc hx) rfl rfl (by omega) fun b47 o47 g47 => ?_
      refine aLdG rfl g47 ?_
      refine aN rfl rfl (by constructor) ?_
      have ho := hb.getD 0
      refine aC (usage_call (op := (xs.getD 0 0)) (by omega)) fun v50 H9 ⟨ob50, hv, st1, he50⟩ => ?_
      subst hv
      replace st := st.call st1 rfl
      clear st1
      obtain ⟨b50, rfl⟩ := st.isSome 0 rfl (by intro hc; rw [List.map_eq_nil_iff] at hc; exact p2 hc)
      have hcode : (xs.getD 0 0) ∈ codes := (use_elim _).resolve_left p2
      obtain ⟨eR, lR⟩ := code_row _ hcode
      have hn20 : 0 < (useL (xs.getD 0 0)).length ∧ (useL (xs.getD 0 0)).length ≤ 21 := by have h9 := congrArg List.length eR; simp only [List.length_cons] at h9; omega
      refine aN rfl rfl (by constructor) ?_
      refine aN rfl rfl (by constructor) ?_
      refine aN rfl rfl (by constructor) ?_
      refine aN rfl rfl (by constructor) ?_
      refine aN rfl rfl (by constructor) ?_
      refine sE ?_
      show AWl _ _ _ _ _
      refine aN rfl rfl (by constructor) ?_
      refine aN rfl rfl (by constructor) ?_
      refine aN rfl rfl (by constructor) ?_
      refine sE ?_
      show AWl _ _ _ _ _
      refine aN rfl rfl (by constructor) ?_
      refine sE ?_
      show AWl _ _ _ _ _
      refine aN rfl rfl (by constructor) ?_
      refine aMovV x rfl ?_
      refine aN rfl rfl (by constructor) ?_
      refine aCutH (st.slc hx) rfl rfl (by omega) fun v58 s58 => ?_
      replace s58 := s58 _ hx
      have hlt : (xs.take (useL (xs.getD 0 0)).length).length = (useL (xs.getD 0 0)).length := by rw [List.length_take]; omega
      replace s58 : Sl H 1 (useL (xs.getD 0 0)).length ((xs.take (useL (xs.getD 0 0)).length).map (Value.int .u8)) v58 := s58
      have st := st.nil 5
      have hnil : (Value.slice none 0 0) = accV none 0 1 := rfl
      refine aAppP st 0 (ob := none) (n := 0) rfl rfl rfl (by decide) (rfl) (st.slc s58).src (by rw [List.length_map, hlt]; omega) (by omega) (by omega) (by omega) (NfL.any _) fun b59 H10 st => ?_
      refine aN rfl rfl (by constructor) ?_
      refine sE ?_
      show AWl _ _ _ _ _
      refine aN rfl rfl (by constructor) ?_
      refine aMovV y rfl ?_
      refine aAppP st 0 (ob := some b59) rfl rfl rfl (by decide) (by rw [List.nil_append, List.length_map, hlt]; omega) (st.slc hm).src (by simp) (by omega) (by omega) (by omega) (NfL.any _) fun b62 H11 st => ?_
      obtain ⟨ys, hys⟩ : ∃ ys, ys = xs.take (useL (xs.getD 0 0)).length ++ ms := ⟨_, rfl⟩
      have hyl : ys.length = (useL (xs.getD 0 0)).length + ms.length := by rw [hys, List.length_append, hlt]
      rw [show ([] : List Value) ++ (xs.take (useL (xs.getD 0 0)).length).map (Value.int .u8) ++ ms.map (Value.int .u8) = ys.map (Value.int .u8) by rw [hys, List.nil_append, List.map_append]] at st
      rw [show 0 + (useL (xs.getD 0 0)).length + ms.length = ys.length by omega]
      have hyb : ByteL ys := by rw [hys]; exact (hb.take _).app hbm
      have hyg : ∀ m, m < (useL (xs.getD 0 0)).length → ys.getD m 0 = xs.getD m 0 := fun m hm => by rw [hys]; exact getD_front (by omega) hm
      have hy0 := hyg 0 (by omega)
      have hy1 : tellsB (xs.getD 0 0) = true → ys.getD 1 0 = xs.getD 1 0 := fun hq => hyg 1 (by have := tells_len hq; omega)
      have hyt : ys.take (useL (xs.getD 0 0)).length = xs.take (useL (xs.getD 0 0)).length := by rw [hys, List.take_left' hlt]
      refine aN rfl rfl (by constructor) ?_
      refine sE ?_
      show AWl _ _ _ _ _
      refine aN rfl rfl (by constructor) ?_
      refine aC (parse_call (xs := ys) (st.rowAll 0 rfl (by rw [List.length_map]; omega)) hyb (by omega)) fun v65 H12 ⟨f65, b65, hv, st1, hP65⟩ => ?_
      subst hv
      replace st := st.call st1 rfl
      clear st1
      rw [parse_ext hP29 hok hP65 hy0 hy1 (by omega) hyt]
      refine aN rfl rfl (by constructor) ?_
      refine aN rfl rfl (by constructor) ?_
      refine aN rfl rfl (by constructor) ?_
      refine aN rfl rfl (by constructor) ?_
      refine aNewP st rfl rfl (by repeat constructor) fun b17 H13 st => ?_
      refine aNewP st rfl rfl (by repeat constructor) fun b18 H14 st => ?_
      refine aSt st 1 rfl rfl rfl rfl (by first | rfl | simp [cellsOf, *]) (by first | decide | simp [*]) (by repeat constructor) fun H15 st => ?_
      refine aSt st 0 rfl rfl rfl rfl (by first | rfl | simp [cellsOf, *]) (by first | decide | simp [*]) (by repeat constructor) fun H16 st => ?_
      refine aMovV (.bool true) (congrArg Value.bool h7n) ?_
      refine sE ?_
      show AWl _ _ _ _ _
      refine aN rfl rfl (by constructor) ?_
      refine aN rfl rfl (by constructor) ?_
      refine aN rfl rfl (by constructor) ?_
      refine gT rfl ?_
      refine aLdA st 1 rfl rfl (by first | decide | simp [*]) (by repeat constructor) ?_
      refine gT rfl ?_
      refine aLdA st 5 rfl rfl (by first | decide | simp [*]) (by repeat constructor) ?_
      refine gT rfl ?_
      refine aEqAV true rfl rfl (by simp [eqL, eqV]) ?_
      refine aN rfl rfl (by constructor) ?_
      refine sE ?_
      show AW _ (.cond _ _ _) _ _ _
      refine cF' rfl ?_
      show AWl _ _ _ _ _
      obtain ⟨i, hi⟩ : ∃ i, i = a % (useL (xs.getD 0 0)).length := ⟨_, rfl⟩
      obtain ⟨j, hj⟩ : ∃ j, j = bt % 8 := ⟨_, rfl⟩
      have hj8 : j < 8 := by omega
      refine aN rfl rfl (by constructor) ?_
      refine aN rfl rfl (by constructor) ?_
      refine aN rfl rfl (by constructor) ?_
      refine aBinV (.int .i64 (i : Int)) rfl rfl (by rw [hi]; exact remN (by omega) (by omega)) ?_
      have hin : i < (useL (xs.getD 0 0)).length := by rw [hi]; exact Nat.mod_lt _ (by omega)
      refine aN rfl rfl (by constructor) ?_
      refine sE ?_
      show AWl _ _ _ _ _
      refine aN rfl rfl (by constructor) ?_
      refine aN rfl rfl (by constructor) ?_
      refine aBinV (.int .i64 (j : Int)) rfl rfl (by rw [hj]; exact remN (a := bt) (n := 8) (by decide) (by omega)) ?_
      refine aN rfl rfl (by constructor) ?_
      refine sE ?_
      show AWl _ _ _ _ _
      refine aN rfl rfl (by constructor) ?_
      refine aN rfl rfl (by constructor) ?_
      refine aN rfl rfl (by constructor) ?_
      refine gCase 85 rfl (fun h17 => ?_) (fun h17 => ?_)
      · refine gF rfl (by decide) ?_
        refine gF rfl (by decide) ?_
        refine gF rfl (by decide) ?_
        refine gF rfl (by decide) ?_
        refine gF rfl (by decide) ?_
        refine gF rfl (by decide) ?_
        refine gF rfl (by decide) ?_
        refine gF rfl (by decide) ?_
        refine aN rfl rfl (by constructor) ?_
        refine sE ?_
        show AW _ (.cond _ _ _) _ _ _
        refine cT rfl ?_
        show AWl _ _ _ _ _
        refine aN rfl rfl (by constructor) ?_
        refine sE ?_
        refine ⟨_, out1 (r_tmp rfl (by constructor)), ?_⟩
        rfl
      · refine gT rfl ?_
        refine aN rfl rfl (by constructor) ?_
        refine gT rfl ?_
        refine aN rfl rfl (by constructor) ?_
        refine gT rfl ?_
        refine aIxB (st.rowAll 3 rfl (by simp)) rfl rfl (by omega) fun b88 o88 g88 => ?_
        refine gT rfl ?_
        refine aLdG rfl g88 ?_
        refine gT rfl ?_
        refine aN rfl rfl (by constructor) ?_
        refine gT rfl ?_
        refine aN rfl (e_shr rfl rfl (by omega)) (by constructor) ?_
        refine gT rfl ?_
        refine aN rfl rfl (by constructor) ?_
        refine gT rfl ?_
        refine aN rfl rfl (by constructor) ?_
        refine aN rfl rfl (by constructor) ?_
        refine sE ?_
        show AW _ (.cond _ _ _) _ _ _
        refine cC' rfl (fun h18 => ?_) (fun h18 => ?_)
        · show AWl _ _ _ _ _
          refine aN rfl rfl (by constructor) ?_
          refine sE ?_
          refine ⟨_, out1 (r_tmp rfl (by constructor)), ?_⟩
          rfl
        · show AWp _ _ _ _ _
          have hi0 : i ≠ 0 := by intro h0; rw [h0] at h17; cases h17
          have hm : ((useL (xs.getD 0 0)).getD i 0).toNat.testBit j = false := by rw [← testB (use_bytes _ hcode |>.getD i) hj8]; exact h18
          obtain ⟨hWb, hWt⟩ := orBit (hyb.getD i) hj8
          obtain ⟨W, hW⟩ : ∃ W, W = bits .or .u8 (ys.getD i 0) (IntKind.u8.wrap (1 * 2 ^ min ((j : Int)).toNat IntKind.u8.bits)) := ⟨_, rfl⟩
          rw [← hW] at hWb hWt
          have hzb : ByteL (ys.set i W) := fun z hz => (List.mem_or_eq_of_mem_set hz).elim (hyb z) (fun e => e ▸ hWb)
          have hzi : (ys.set i W).getD i 0 = W := by simp [List.getD, List.getElem?_set, show i < ys.length by omega]
          have hzbit : oddB (ys.set i W) (useL (xs.getD 0 0)) i j = true := by unfold oddB; rw [hzi, hWt, hm]; simp
          have hzlo : ∀ m, m < i → (ys.set i W).getD m 0 = xs.getD m 0 := fun m hm => by rw [← hyg m (by omega)]; simp [List.getD, List.getElem?_set, show i ≠ m by omega]
          have hzhi : ∀ l, j < l → l < 8 → ((ys.set i W).getD i 0).toNat.testBit l = (xs.getD i 0).toNat.testBit l := fun l h1 h2 => by rw [hzi, hWt, hyg i hin]; simp [show j ≠ l by omega]
          refine aN rfl rfl (by constructor) ?_
          refine aN rfl rfl (by constructor) ?_
          refine aN rfl rfl (by constructor) ?_
          refine aN rfl rfl (by constructor) ?_
          refine aIxB (st.rowAll 2 rfl (by rw [List.length_map]; omega)) rfl rfl (by omega) fun b99 o99 g99 => ?_
          refine aLdG rfl g99 ?_
          refine aN rfl rfl (by constructor) ?_
          refine aN rfl (e_shl rfl rfl (by omega)) (by constructor) ?_
          refine aN rfl rfl (by constructor) ?_
          refine aIxL rfl rfl (by omega) ?_
          refine ⟨?_, trivial⟩
          refine aStAt (u := .int .u8 W) (cs := (ys.set i W).map (Value.int .u8)) st 2 rfl rfl (congrArg (Value.int .u8) hW.symm) rfl rfl (by rw [List.length_map]; omega) set_map fun H19 st => ?_
          refine ⟨trivial, ?_⟩
          refine pE ?_
          show AWl _ _ _ _ _
          refine aN rfl rfl (by constructor) ?_
          rw [show ys.length = (ys.set i W).length by rw [List.length_set]]
          refine aC (parse_call (xs := (ys.set i W)) (st.rowAll 2 rfl (by rw [List.length_map, List.length_set]; omega)) hzb (by rw [List.length_set]; omega)) fun v107 H20 ⟨f107, b107, hv, st1, hP107⟩ => ?_
          subst hv
          replace st := st.call st1 rfl
          clear st1
          rw [parse_turn (i := i) (j := j) hP29 hok hP107 (by omega) hin (by omega) (by rw [List.length_set]; omega) hzbit hzlo hzhi]
          refine aN rfl rfl (by constructor) ?_
          refine aN rfl rfl (by constructor) ?_
          refine aN rfl rfl (by constructor) ?_
          refine aN rfl rfl (by constructor) ?_
          refine aNewP st rfl rfl (by repeat constructor) fun b22 H21 st => ?_
          refine aNewP st rfl rfl (by repeat constructor) fun b23 H22 st => ?_
          refine aSt st 1 rfl rfl rfl rfl (by first | rfl | simp [cellsOf, *]) (by first | decide | simp [*]) (by repeat constructor) fun H23 st => ?_
          refine aSt st 0 rfl rfl rfl rfl (by first | rfl | simp [cellsOf, *]) (by first | decide | simp [*]) (by repeat constructor) fun H24 st => ?_
          refine aN rfl rfl (by constructor) ?_
          refine sE ?_
          show AWp _ _ _ _ _
          refine aN rfl rfl (by constructor) ?_
          refine aN rfl rfl (by constructor) ?_
          refine aN rfl rfl (by constructor) ?_
          refine gT rfl ?_
          refine aLdA st 0 rfl rfl (by first | decide | simp [*]) (by repeat constructor) ?_
          refine gT rfl ?_
          refine aN rfl rfl (by constructor) ?_
          refine gT rfl ?_
          refine aN rfl rfl (by constructor) ?_
          refine ⟨?_, trivial⟩
          refine gT rfl ?_
          refine aC (fault_call) fun v117 H25 ⟨hv, st1⟩ => ?_
          subst hv
          replace st := st.call st1 rfl
          clear st1
          refine ⟨⟨⟨some true, .bool true, (h_LdA st 0 rfl rfl (by first | decide | simp [*]) (by repeat constructor))⟩, trivial⟩, ?_⟩
          refine gT rfl ?_
          refine aEqAV true rfl rfl (by simp [eqL, eqV, flt]) ?_
          refine aN rfl rfl (by constructor) ?_
          refine aN rfl rfl (by constructor) ?_
          refine pE ?_
          refine ⟨_, out1 (r_tmp rfl (by constructor)), ?_⟩
          rfl
    · have hl1 : ¬ (xs.length > 1) := by have := of_decide_eq_false h8; omega
      show AWl _ _ _ _ _
      refine aMovV x rfl ?_
      refine aIxB (st.slc hx) rfl rfl (by omega) fun b47 o47 g47 => ?_
      refine aLdG rfl g47 ?_
      refine aN rfl rfl (by constructor) ?_
      have ho := hb.getD 0
      refine aC (usage_call (op := (xs.getD 0 0)) (by omega)) fun v50 H26 ⟨ob50, hv, st1, he50⟩ => ?_
      subst hv
      replace st := st.call st1 rfl
      clear st1
      obtain ⟨b50, rfl⟩ := st.isSome 0 rfl (by intro hc; rw [List.map_eq_nil_iff] at hc; exact p2 hc)
      have hcode : (xs.getD 0 0) ∈ codes := (use_elim _).resolve_left p2
      obtain ⟨eR, lR⟩ := code_row _ hcode
      have hn20 : 0 < (useL (xs.getD 0 0)).length ∧ (useL (xs.getD 0 0)).length ≤ 21 := by have h9 := congrArg List.length eR; simp only [List.length_cons] at h9; omega
      refine aN rfl rfl (by constructor) ?_
      refine aN rfl rfl (by constructor) ?_
      refine aN rfl rfl (by constructor) ?_
      refine aN rfl rfl (by constructor) ?_
      refine aN rfl rfl (by constructor) ?_
      refine sE ?_
      show AWl _ _ _ _ _
      refine aN rfl rfl (by constructor) ?_
      refine aN rfl rfl (by constructor) ?_
      refine aN rfl rfl (by constructor) ?_
      refine sE ?_
      show AWl _ _ _ _ _
      refine aN rfl rfl (by constructor) ?_
      refine sE ?_
      show AWl _ _ _ _ _
      refine aN rfl rfl (by constructor) ?_
      refine aMovV x rfl ?_
      refine aN rfl rfl (by constructor) ?_
      refine aCutH (st.slc hx) rfl rfl (by omega) fun v58 s58 => ?_
      replace s58 := s58 _ hx
      have hlt : (xs.take (useL (xs.getD 0 0)).length).length = (useL (xs.getD 0 0)).length := by rw [List.length_take]; omega
      replace s58 : Sl H 1 (useL (xs.getD 0 0)).length ((xs.take (useL (xs.getD 0 0)).length).map (Value.int .u8)) v58 := s58
      have st := st.nil 5
      have hnil : (Value.slice none 0 0) = accV none 0 1 := rfl
      refine aAppP st 0 (ob := none) (n := 0) rfl rfl rfl (by decide) (rfl) (st.slc s58).src (by rw [List.length_map, hlt]; omega) (by omega) (by omega) (by omega) (NfL.any _) fun b59 H27 st => ?_
      refine aN rfl rfl (by constructor) ?_
      refine sE ?_
      show AWl _ _ _ _ _
      refine aN rfl rfl (by constructor) ?_
      refine aMovV y rfl ?_
      refine aAppP st 0 (ob := some b59) rfl rfl rfl (by decide) (by rw [List.nil_append, List.length_map, hlt]; omega) (st.slc hm).src (by simp) (by omega) (by omega) (by omega) (NfL.any _) fun b62 H28 st => ?_
      obtain ⟨ys, hys⟩ : ∃ ys, ys = xs.take (useL (xs.getD 0 0)).length ++ ms := ⟨_, rfl⟩
      have hyl : ys.length = (useL (xs.getD 0 0)).length + ms.length := by rw [hys, List.length_append, hlt]
      rw [show ([] : List Value) ++ (xs.take (useL (xs.getD 0 0)).length).map (Value.int .u8) ++ ms.map (Value.int .u8) = ys.map (Value.int .u8) by rw [hys, List.nil_append, List.map_append]] at st
      rw [show 0 + (useL (xs.getD 0 0)).length + ms.length = ys.length by omega]
      have hyb : ByteL ys := by rw [hys]; exact (hb.take _).app hbm
      have hyg : ∀ m, m < (useL (xs.getD 0 0)).length → ys.getD m 0 = xs.getD m 0 := fun m hm => by rw [hys]; exact getD_front (by omega) hm
      have hy0 := hyg 0 (by omega)
      have hy1 : tellsB (xs.getD 0 0) = true → ys.getD 1 0 = xs.getD 1 0 := fun hq => hyg 1 (by have := tells_len hq; omega)
      have hyt : ys.take (useL (xs.getD 0 0)).length = xs.take (useL (xs.getD 0 0)).length := by rw [hys, List.take_left' hlt]
      refine aN rfl rfl (by constructor) ?_
      refine sE ?_
      show AWl _ _ _ _ _
      refine aN rfl rfl (by constructor) ?_
      refine aC (parse_call (xs := ys) (st.rowAll 0 rfl (by rw [List.length_map]; omega)) hyb (by omega)) fun v65 H29 ⟨f65, b65, hv, st1, hP65⟩ => ?_
      subst hv
      replace st := st.call st1 rfl
      clear st1
      rw [parse_ext hP29 hok hP65 hy0 hy1 (by omega) hyt]
      refine aN rfl rfl (by constructor) ?_
      refine aN rfl rfl (by constructor) ?_
      refine aN rfl rfl (by constructor) ?_
      refine aN rfl rfl (by constructor) ?_
      refine aNewP st rfl rfl (by repeat constructor) fun b17 H30 st => ?_
      refine aNewP st rfl rfl (by repeat constructor) fun b18 H31 st => ?_
      refine aSt st 1 rfl rfl rfl rfl (by first | rfl | simp [cellsOf, *]) (by first | decide | simp [*]) (by repeat constructor) fun H32 st => ?_
      refine aSt st 0 rfl rfl rfl rfl (by first | rfl | simp [cellsOf, *]) (by first | decide | simp [*]) (by repeat constructor) fun H33 st => ?_
      refine aMovV (.bool true) (congrArg Value.bool h7n) ?_
      refine sE ?_
      show AWl _ _ _ _ _
      refine aN rfl rfl (by constructor) ?_
      refine aN rfl rfl (by constructor) ?_
      refine aN rfl rfl (by constructor) ?_
      refine gT rfl ?_
      refine aLdA st 1 rfl rfl (by first | decide | simp [*]) (by repeat constructor) ?_
      refine gT rfl ?_
      refine aLdA st 5 rfl rfl (by first | decide | simp [*]) (by repeat constructor) ?_
      refine gT rfl ?_
      refine aEqAV true rfl rfl (by simp [eqL, eqV]) ?_
      refine aN rfl rfl (by constructor) ?_
      refine sE ?_
      show AW _ (.cond _ _ _) _ _ _
      refine cF' rfl ?_
      show AWl _ _ _ _ _
      obtain ⟨i, hi⟩ : ∃ i, i = a % (useL (xs.getD 0 0)).length := ⟨_, rfl⟩
      obtain ⟨j, hj⟩ : ∃ j, j = bt % 8 := ⟨_, rfl⟩
      have hj8 : j < 8 := by omega
      refine aN rfl rfl (by constructor) ?_
      refine aN rfl rfl (by constructor) ?_
      refine aN rfl rfl (by constructor) ?_
      refine aBinV (.int .i64 (i : Int)) rfl rfl (by rw [hi]; exact remN (by omega) (by omega)) ?_
      have hin : i < (useL (xs.getD 0 0)).length := by rw [hi]; exact Nat.mod_lt _ (by omega)
      refine aN rfl rfl (by constructor) ?_
      refine sE ?_
      show AWl _ _ _ _ _
      refine aN rfl rfl (by constructor) ?_
      refine aN rfl rfl (by constructor) ?_
      refine aBinV (.int .i64 (j : Int)) rfl rfl (by rw [hj]; exact remN (a := bt) (n := 8) (by decide) (by omega)) ?_
      refine aN rfl rfl (by constructor) ?_
      refine sE ?_
      show AWl _ _ _ _ _
      refine aN rfl rfl (by constructor) ?_
      refine aN rfl rfl (by constructor) ?_
      refine aN rfl rfl (by constructor) ?_
      refine gCase 85 rfl (fun h34 => ?_) (fun h34 => ?_)
      · refine gF rfl (by decide) ?_
        refine gF rfl (by decide) ?_
        refine gF rfl (by decide) ?_
        refine gF rfl (by decide) ?_
        refine gF rfl (by decide) ?_
        refine gF rfl (by decide) ?_
        refine gF rfl (by decide) ?_
        refine gF rfl (by decide) ?_
        refine aN rfl rfl (by constructor) ?_
        refine sE ?_
        show AW _ (.cond _ _ _) _ _ _
        refine cT rfl ?_
        show AWl _ _ _ _ _
        refine aN rfl rfl (by constructor) ?_
        refine sE ?_
        refine ⟨_, out1 (r_tmp rfl (by constructor)), ?_⟩
        rfl
      · refine gT rfl ?_
        refine aN rfl rfl (by constructor) ?_
        refine gT rfl ?_
        refine aN rfl rfl (by constructor) ?_
        refine gT rfl ?_
        refine aIxB (st.rowAll 3 rfl (by simp)) rfl rfl (by omega) fun b88 o88 g88 => ?_
        refine gT rfl ?_
        refine aLdG rfl g88 ?_
        refine gT rfl ?_
        refine aN rfl rfl (by constructor) ?_
        refine gT rfl ?_
        refine aN rfl (e_shr rfl rfl (by omega)) (by constructor) ?_
        refine gT rfl ?_
        refine aN rfl rfl (by constructor) ?_
        refine gT rfl ?_
        refine aN rfl rfl (by constructor) ?_
        refine aN rfl rfl (by constructor) ?_
        refine sE ?_
        show AW _ (.cond _ _ _) _ _ _
        refine cC' rfl (fun h35 => ?_) (fun h35 => ?_)
        · show AWl _ _ _ _ _
          refine aN rfl rfl (by constructor) ?_
          refine sE ?_
          refine ⟨_, out1 (r_tmp rfl (by constructor)), ?_⟩
          rfl
        · show AWp _ _ _ _ _
          have hi0 : i ≠ 0 := by intro h0; rw [h0] at h34; cases h34
          have hm : ((useL (xs.getD 0 0)).getD i 0).toNat.testBit j = false := by rw [← testB (use_bytes _ hcode |>.getD i) hj8]; exact h35
          obtain ⟨hWb, hWt⟩ := orBit (hyb.getD i) hj8
          obtain ⟨W, hW⟩ : ∃ W, W = bits .or .u8 (ys.getD i 0) (IntKind.u8.wrap (1 * 2 ^ min ((j : Int)).toNat IntKind.u8.bits)) := ⟨_, rfl⟩
          rw [← hW] at hWb hWt
          have hzb : ByteL (ys.set i W) := fun z hz => (List.mem_or_eq_of_mem_set hz).elim (hyb z) (fun e => e ▸ hWb)
          have hzi : (ys.set i W).getD i 0 = W := by simp [List.getD, List.getElem?_set, show i < ys.length by omega]
          have hzbit : oddB (ys.set i W) (useL (xs.getD 0 0)) i j = true := by unfold oddB; rw [hzi, hWt, hm]; simp
          have hzlo : ∀ m, m < i → (ys.set i W).getD m 0 = xs.getD m 0 := fun m hm => by rw [← hyg m (by omega)]; simp [List.getD, List.getElem?_set, show i ≠ m by omega]
          have hzhi : ∀ l, j < l → l < 8 → ((ys.set i W).getD i 0).toNat.testBit l = (xs.getD i 0).toNat.testBit l := fun l h1 h2 => by rw [hzi, hWt, hyg i hin]; simp [show j ≠ l by omega]
          refine aN rfl rfl (by constructor) ?_
          refine aN rfl rfl (by constructor) ?_
          refine aN rfl rfl (by constructor) ?_
          refine aN rfl rfl (by constructor) ?_
          refine aIxB (st.rowAll 2 rfl (by rw [List.length_map]; omega)) rfl rfl (by omega) fun b99 o99 g99 => ?_
          refine aLdG rfl g99 ?_
          refine aN rfl rfl (by constructor) ?_
          refine aN rfl (e_shl rfl rfl (by omega)) (by constructor) ?_
          refine aN rfl rfl (by constructor) ?_
          refine aIxL rfl rfl (by omega) ?_
          refine ⟨?_, trivial⟩
          refine aStAt (u := .int .u8 W) (cs := (ys.set i W).map (Value.int .u8)) st 2 rfl rfl (congrArg (Value.int .u8) hW.symm) rfl rfl (by rw [List.length_map]; omega) set_map fun H36 st => ?_
          refine ⟨trivial, ?_⟩
          refine pE ?_
          show AWl _ _ _ _ _
          refine aN rfl rfl (by constructor) ?_
          rw [show ys.length = (ys.set i W).length by rw [List.length_set]]
          refine aC (parse_call (xs := (ys.set i W)) (st.rowAll 2 rfl (by rw [List.length_map, List.length_set]; omega)) hzb (by rw [List.length_set]; omega)) fun v107 H37 ⟨f107, b107, hv, st1, hP107⟩ => ?_
          subst hv
          replace st := st.call st1 rfl
          clear st1
          rw [parse_turn (i := i) (j := j) hP29 hok hP107 (by omega) hin (by omega) (by rw [List.length_set]; omega) hzbit hzlo hzhi]
          refine aN rfl rfl (by constructor) ?_
          refine aN rfl rfl (by constructor) ?_
          refine aN rfl rfl (by constructor) ?_
          refine aN rfl rfl (by constructor) ?_
          refine aNewP st rfl rfl (by repeat constructor) fun b22 H38 st => ?_
          refine aNewP st rfl rfl (by repeat constructor) fun b23 H39 st => ?_
          refine aSt st 1 rfl rfl rfl rfl (by first | rfl | simp [cellsOf, *]) (by first | decide | simp [*]) (by repeat constructor) fun H40 st => ?_
          refine aSt st 0 rfl rfl rfl rfl (by first | rfl | simp [cellsOf, *]) (by first | decide | simp [*]) (by repeat constructor) fun H41 st => ?_
          refine aN rfl rfl (by constructor) ?_
          refine sE ?_
          show AWp _ _ _ _ _
          refine aN rfl rfl (by constructor) ?_
          refine aN rfl rfl (by constructor) ?_
          refine aN rfl rfl (by constructor) ?_
          refine gT rfl ?_
          refine aLdA st 0 rfl rfl (by first | decide | simp [*]) (by repeat constructor) ?_
          refine gT rfl ?_
          refine aN rfl rfl (by constructor) ?_
          refine gT rfl ?_
          refine aN rfl rfl (by constructor) ?_
          refine ⟨?_, trivial⟩
          refine gT rfl ?_
          refine aC (fault_call) fun v117 H42 ⟨hv, st1⟩ => ?_
          subst hv
          replace st := st.call st1 rfl
          clear st1
          refine ⟨⟨⟨some true, .bool true, (h_LdA st 0 rfl rfl (by first | decide | simp [*]) (by repeat constructor))⟩, trivial⟩, ?_⟩
          refine gT rfl ?_
          refine aEqAV true rfl rfl (by simp [eqL, eqV, flt]) ?_
          refine aN rfl rfl (by constructor) ?_
          refine aN rfl rfl (by constructor) ?_
          refine pE ?_
          refine ⟨_, out1 (r_tmp rfl (by constructor)), ?_⟩
          rfl
theorem short_call {H : Hp} {xs : List Int} {x : Value} {a : Nat} (hx : Sl H 1 xs.length (xs.map (Value.int .u8)) x) (hb : ByteL xs) (hl : xs.length ≤ 140737488351232) (ha : a < 256) :
    ACalls Try.prog 6 [x, .int .u8 (a : Int)] H (fun v _ => v = .bool true) := by
  refine acallsW Try.func6 f6_ok (Nat.le_of_ble_eq_true rfl) fun hw => ?_
  have st : Stt [] H H [] := Stt.start hw
  unfold f6c
  show AWl _ _ _ _ _
  refine aN rfl rfl (by constructor) ?_
  refine sE ?_
  show AWl _ _ _ _ _
  refine aC (awake_call) fun v15 H1 ⟨hv, st1⟩ => ?_
  subst hv
  replace st := st.call st1 rfl
  clear st1
  refine aN rfl rfl (by constructor) ?_
  refine sE ?_
  show AW _ (.cond _ _ _) _ _ _
  refine cF' rfl ?_
  show AWl _ _ _ _ _
  refine aMovV x rfl ?_
  refine aC (parse_call (xs := xs) (st.slc hx) hb (by omega)) fun v19 H2 ⟨f19, b19, hv, st1, hP19⟩ => ?_
  subst hv
  replace st := st.call st1 rfl
  clear st1
  refine aN rfl rfl (by constructor) ?_
  refine aN rfl rfl (by constructor) ?_
  refine aN rfl rfl (by constructor) ?_
  refine aN rfl rfl (by constructor) ?_
  refine aNewP st rfl rfl (by repeat constructor) fun b5 H3 st => ?_
  refine aNewP st rfl rfl (by repeat constructor) fun b6 H4 st => ?_
  refine aSt st 1 rfl rfl rfl rfl (by first | rfl | simp [cellsOf, *]) (by first | decide | simp [*]) (by repeat constructor) fun H5 st => ?_
  refine aSt st 0 rfl rfl rfl rfl (by first | rfl | simp [cellsOf, *]) (by first | decide | simp [*]) (by repeat constructor) fun H6 st => ?_
  refine aN rfl rfl (by constructor) ?_
  refine sE ?_
  show AWl _ _ _ _ _
  refine aN rfl rfl (by constructor) ?_
  refine aN rfl rfl (by constructor) ?_
  refine sE ?_
  show AW _ (.cond _ _ _) _ _ _
  refine cC' rfl (fun h7 => ?_) (fun h7 => ?_)
  · have h7n : (parseM xs f19 b19).2.2 = false := by simpa using h7
    have hok : (parseM xs f19 b19).2.2 = false := by simpa using h7
    show AWl _ _ _ _ _
    refine aN rfl rfl (by constructor) ?_
    refine sE ?_
    refine ⟨_, out1 (r_tmp rfl (by constructor)), ?_⟩
    rfl
  · have h7n : (parseM xs f19 b19).2.2 = true := by simpa using h7
    have hok : (parseM xs f19 b19).2.2 = true := by simpa using h7
    obtain ⟨p0, p1, p2, p3, p4, p5, p6⟩ := pm_true hok
    show AWl _ _ _ _ _
    refine aN rfl rfl (by constructor) ?_
    refine sE ?_
    show AWl _ _ _ _ _
    refine aMovV x rfl ?_
    refine aLen (st.slc hx) rfl ?_
    refine aN rfl rfl (by constructor) ?_
    refine sE ?_
    show AW _ (.cond _ _ _) _ _ _
    refine cC' rfl (fun h8 => ?_) (fun h8 => ?_)
    · have hl1 : (xs.length > 1) := by have := of_decide_eq_true h8; omega
      show AWl _ _ _ _ _
      refine aMovV x rfl ?_
      refine aIxB (st.slc hx) rfl rfl (by omega) fun b29 o29 g29 => ?_
      refine aLdG rfl g29 ?_
      refine aN rfl (e_rem rfl rfl (by decide)) (by constructor) ?_
      refine aN rfl rfl (by constructor) ?_
      refine sE ?_
      show AWl _ _ _ _ _
      refine aMovV x rfl ?_
      refine aIxB (st.slc hx) rfl rfl (by omega) fun b34 o34 g34 => ?_
      refine aLdG rfl g34 ?_
      refine aN rfl rfl (by constructor) ?_
      have ho := hb.getD 0
      refine aC (usage_call (op := (xs.getD 0 0)) (by omega)) fun v37 H9 ⟨ob37, hv, st1, he37⟩ => ?_
      subst hv
      replace st := st.call st1 rfl
      clear st1
      obtain ⟨b37, rfl⟩ := st.isSome 0 rfl (by intro hc; rw [List.map_eq_nil_iff] at hc; exact p2 hc)
      have hcode : (xs.getD 0 0) ∈ codes := (use_elim _).resolve_left p2
      obtain ⟨eR, lR⟩ := code_row _ hcode
      have hn20 : 0 < (useL (xs.getD 0 0)).length ∧ (useL (xs.getD 0 0)).length ≤ 21 := by have h9 := congrArg List.length eR; simp only [List.length_cons] at h9; omega
      refine aN rfl rfl (by constructor) ?_
      refine aN rfl rfl (by constructor) ?_
      refine aN rfl rfl (by constructor) ?_
      refine aN rfl rfl (by constructor) ?_
      refine aN rfl rfl (by constructor) ?_
      refine sE ?_
      show AWl _ _ _ _ _
      obtain ⟨i, hi⟩ : ∃ i, i = a % (useL (xs.getD 0 0)).length := ⟨_, rfl⟩
      have hin : i < (useL (xs.getD 0 0)).length := by rw [hi]; exact Nat.mod_lt _ (by omega)
      refine aN rfl rfl (by constructor) ?_
      refine aN rfl rfl (by constructor) ?_
      refine aN rfl rfl (by constructor) ?_
      refine aN rfl rfl (by constructor) ?_
      refine aBinV (.int .i64 (i : Int)) rfl rfl (by rw [hi]; exact remN (by omega) (by omega)) ?_
      refine aN rfl rfl (by constructor) ?_
      refine sE ?_
      show AWl _ _ _ _ _
      refine aMovV x rfl ?_
      refine aN rfl rfl (by constructor) ?_
      refine aCutH (st.slc hx) rfl rfl (by omega) fun v48 s48 => ?_
      replace s48 := s48 _ hx
      have hlt : (xs.take i).length = i := by rw [List.length_take]; omega
      replace s48 : Sl H 1 (xs.take i).length ((xs.take i).map (Value.int .u8)) v48 := by rw [hlt]; exact s48
      refine aC (parse_call (xs := (xs.take i)) (st.slc s48) (hb.take _) (by rw [hlt]; omega)) fun v49 H10 ⟨f49, b49, hv, st1, hP49⟩ => ?_
      subst hv
      replace st := st.call st1 rfl
      clear st1
      rw [parse_short hok hin]
      refine aN rfl rfl (by constructor) ?_
      refine aN rfl rfl (by constructor) ?_
      refine aN rfl rfl (by constructor) ?_
      refine aN rfl rfl (by constructor) ?_
      refine aNewP st rfl rfl (by repeat constructor) fun b12 H11 st => ?_
      refine aNewP st rfl rfl (by repeat constructor) fun b13 H12 st => ?_
      refine aSt st 1 rfl rfl rfl rfl (by first | rfl | simp [cellsOf, *]) (by first | decide | simp [*]) (by repeat constructor) fun H13 st => ?_
      refine aSt st 0 rfl rfl rfl rfl (by first | rfl | simp [cellsOf, *]) (by first | decide | simp [*]) (by repeat constructor) fun H14 st => ?_
      refine aN rfl rfl (by constructor) ?_
      refine sE ?_
      show AWp _ _ _ _ _
      refine aN rfl rfl (by constructor) ?_
      refine aN rfl rfl (by constructor) ?_
      refine aN rfl rfl (by constructor) ?_
      refine gT rfl ?_
      refine aLdA st 0 rfl rfl (by first | decide | simp [*]) (by repeat constructor) ?_
      refine gT rfl ?_
      refine aN rfl rfl (by constructor) ?_
      refine ⟨?_, trivial⟩
      refine gT rfl ?_
      refine aC (fault_call) fun v58 H15 ⟨hv, st1⟩ => ?_
      subst hv
      replace st := st.call st1 rfl
      clear st1
      refine ⟨⟨⟨some true, .bool true, (h_LdA st 0 rfl rfl (by first | decide | simp [*]) (by repeat constructor))⟩, trivial⟩, ?_⟩
      refine gT rfl ?_
      refine aEqAV true rfl rfl (by simp [eqL, eqV, flt]) ?_
      refine aN rfl rfl (by constructor) ?_
      refine aN rfl rfl (by constructor) ?_
      refine pE ?_
      refine ⟨_, out1 (r_tmp rfl (by constructor)), ?_⟩
      rfl
    · have hl1 : ¬ (xs.length > 1) := by have := of_decide_eq_false h8; omega
      show AWl _ _ _ _ _
      refine aMovV x rfl ?_
      refine aIxB (st.slc hx) rfl rfl (by omega) fun b34 o34 g34 => ?_
      refine aLdG rfl g34 ?_
      refine aN rfl rfl (by constructor) ?_
      have ho := hb.getD 0
      refine aC (usage_call (op := (xs.getD 0 0)) (by omega)) fun v37 H16 ⟨ob37, hv, st1, he37⟩ => ?_
      subst hv
      replace st := st.call st1 rfl
      clear st1
      obtain ⟨b37, rfl⟩ := st.isSome 0 rfl (by intro hc; rw [List.map_eq_nil_iff] at hc; exact p2 hc)
      have hcode : (xs.getD 0 0) ∈ codes := (use_elim _).resolve_left p2
      obtain ⟨eR, lR⟩ := code_row _ hcode
      have hn20 : 0 < (useL (xs.getD 0 0)).length ∧ (useL (xs.getD 0 0)).length ≤ 21 := by have h9 := congrArg List.length eR; simp only [List.length_cons] at h9; omega
      refine aN rfl rfl (by constructor) ?_
      refine aN rfl rfl (by constructor) ?_
      refine aN rfl rfl (by constructor) ?_
      refine aN rfl rfl (by constructor) ?_
      refine aN rfl rfl (by constructor) ?_
      refine sE ?_
      show AWl _ _ _ _ _
      obtain ⟨i, hi⟩ : ∃ i, i = a % (useL (xs.getD 0 0)).length := ⟨_, rfl⟩
      have hin : i < (useL (xs.getD 0 0)).length := by rw [hi]; exact Nat.mod_lt _ (by omega)
      refine aN rfl rfl (by constructor) ?_
      refine aN rfl rfl (by constructor) ?_
      refine aN rfl rfl (by constructor) ?_
      refine aN rfl rfl (by constructor) ?_
      refine aBinV (.int .i64 (i : Int)) rfl rfl (by rw [hi]; exact remN (by omega) (by omega)) ?_
      refine aN rfl rfl (by constructor) ?_
      refine sE ?_
      show AWl _ _ _ _ _
      refine aMovV x rfl ?_
      refine aN rfl rfl (by constructor) ?_
      refine aCutH (st.slc hx) rfl rfl (by omega) fun v48 s48 => ?_
      replace s48 := s48 _ hx
      have hlt : (xs.take i).length = i := by rw [List.length_take]; omega
      replace s48 : Sl H 1 (xs.take i).length ((xs.take i).map (Value.int .u8)) v48 := by rw [hlt]; exact s48
      refine aC (parse_call (xs := (xs.take i)) (st.slc s48) (hb.take _) (by rw [hlt]; omega)) fun v49 H17 ⟨f49, b49, hv, st1, hP49⟩ => ?_
      subst hv
      replace st := st.call st1 rfl
      clear st1
      rw [parse_short hok hin]
      refine aN rfl rfl (by constructor) ?_
      refine aN rfl rfl (by constructor) ?_
      refine aN rfl rfl (by constructor) ?_
      refine aN rfl rfl (by constructor) ?_
      refine aNewP st rfl rfl (by repeat constructor) fun b12 H18 st => ?_
      refine aNewP st rfl rfl (by repeat constructor) fun b13 H19 st => ?_
      refine aSt st 1 rfl rfl rfl rfl (by first | rfl | simp [cellsOf, *]) (by first | decide | simp [*]) (by repeat constructor) fun H20 st => ?_
      refine aSt st 0 rfl rfl rfl rfl (by first | rfl | simp [cellsOf, *]) (by first | decide | simp [*]) (by repeat constructor) fun H21 st => ?_
      refine aN rfl rfl (by constructor) ?_
      refine sE ?_
      show AWp _ _ _ _ _
      refine aN rfl rfl (by constructor) ?_
      refine aN rfl rfl (by constructor) ?_
      refine aN rfl rfl (by constructor) ?_
      refine gT rfl ?_
      refine aLdA st 0 rfl rfl (by first | decide | simp [*]) (by repeat constructor) ?_
      refine gT rfl ?_
      refine aN rfl rfl (by constructor) ?_
      refine ⟨?_, trivial⟩
      refine gT rfl ?_
      refine aC (fault_call) fun v58 H22 ⟨hv, st1⟩ => ?_
      subst hv
      replace st := st.call st1 rfl
      clear st1
      refine ⟨⟨⟨some true, .bool true, (h_LdA st 0 rfl rfl (by first | decide | simp [*]) (by repeat constructor))⟩, trivial⟩, ?_⟩
      refine gT rfl ?_
      refine aEqAV true rfl rfl (by simp [eqL, eqV, flt]) ?_
      refine aN rfl rfl (by constructor) ?_
      refine aN rfl rfl (by constructor) ?_
      refine pE ?_
      refine ⟨_, out1 (r_tmp rfl (by constructor)), ?_⟩
      rfl
theorem r8n {n : Int} (h : (Lit.int .u8 n).wf = true) : ∃ k : Nat, n = (k : Int) ∧ k < 256 := by
  obtain ⟨h1, h2⟩ := r8 h
  obtain ⟨k, rfl⟩ := Int.eq_ofNat_of_zero_le h1
  exact ⟨k, rfl, by omega⟩
theorem cdbReserved_law {H : Hp} {B : Nat} {xs : List Value} (hro : Ro H) (hd : datArgs Try.prog H B 8 [22, 5, 5, 22] xs) : ACalls Try.prog 5 xs H fun v _ => v = .bool true := by
  obtain ⟨x0, x1, x2, x3, rfl, d0, d1, d2, d3⟩ := args4 hd
  obtain ⟨ps, hps, wps, lps, _⟩ := arg_ints (e := 5) (k := .u8) (by kernel_rfl) (by kernel_rfl) (by kernel_rfl) d0
  rw [show Try.prog.bytesOf 5 = 1 by kernel_rfl, Nat.mul_one] at lps
  obtain ⟨ms, hms, wms, lms, _⟩ := arg_ints (e := 5) (k := .u8) (by kernel_rfl) (by kernel_rfl) (by kernel_rfl) d3
  rw [show Try.prog.bytesOf 5 = 1 by kernel_rfl, Nat.mul_one] at lms
  obtain ⟨za, rfl, wa⟩ := arg_int (k := .u8) (by kernel_rfl) d1
  obtain ⟨a, rfl, qa⟩ := r8n wa
  obtain ⟨zc, rfl, wc⟩ := arg_int (k := .u8) (by kernel_rfl) d2
  obtain ⟨c, rfl, qc⟩ := r8n wc
  exact reserved_call hps (wf_bytes wps) lps hms (wf_bytes wms) lms qa qc
theorem cdbShort_law {H : Hp} {B : Nat} {xs : List Value} (hro : Ro H) (hd : datArgs Try.prog H B 8 [22, 5] xs) : ACalls Try.prog 6 xs H fun v _ => v = .bool true := by
  obtain ⟨x0, x1, rfl, d0, d1⟩ := args2 hd
  obtain ⟨ps, hps, wps, lps, _⟩ := arg_ints (e := 5) (k := .u8) (by kernel_rfl) (by kernel_rfl) (by kernel_rfl) d0
  rw [show Try.prog.bytesOf 5 = 1 by kernel_rfl, Nat.mul_one] at lps
  obtain ⟨za, rfl, wa⟩ := arg_int (k := .u8) (by kernel_rfl) d1
  obtain ⟨a, rfl, qa⟩ := r8n wa
  exact short_call hps (wf_bytes wps) lps qa

end Go.Proofs.Ytlbmfcbcmfcjbaa.Abs
