/- Sense: SenseSpoils. -/
import Derived.Test.YtloigiieoehimaaE15
set_option linter.unusedVariables false
set_option linter.unusedSimpArgs false
set_option maxRecDepth 100000
namespace Go.Proofs.Ytloigiieoehimaa.Abs
open Go Go.RowKit
theorem xor_8 {a b : Int} (ha : 0 ≤ a ∧ a ≤ 255) (hb : 0 ≤ b ∧ b < 256) (h0 : b ≠ 0) : (0 ≤ bits .xor .u8 a b ∧ bits .xor .u8 a b ≤ 255) ∧ bits .xor .u8 a b ≠ a := by
  obtain ⟨A, rfl⟩ := Int.eq_ofNat_of_zero_le ha.1
  obtain ⟨B, rfl⟩ := Int.eq_ofNat_of_zero_le hb.1
  rw [u8_xor_nat _ _ (by omega) (by omega)]
  have hx : A ^^^ B < 2 ^ 8 := Nat.xor_lt_two_pow (by omega) (by omega)
  refine ⟨by omega, fun h => h0 ?_⟩
  have h1 : A ^^^ B = A := by omega
  have h2 : A ^^^ (A ^^^ B) = B := by rw [← Nat.xor_assoc, Nat.xor_self, Nat.zero_xor]
  rw [h1, Nat.xor_self] at h2
  omega
theorem ByteL.set {xs : List Int} (h : ByteL xs) {i : Nat} {v : Int} (hv : 0 ≤ v ∧ v ≤ 255) : ByteL (xs.set i v) := fun x hx => by
  rcases List.mem_or_eq_of_mem_set hx with h1 | h1
  · exact h x h1
  · rw [h1]; exact hv
theorem ne_nil_map {xs : List Int} (h : 0 < xs.length) : xs.map (Value.int .u8) ≠ [] := by
  intro hc; rw [List.map_eq_nil_iff] at hc; rw [hc] at h; exact absurd h (by decide)
theorem no_opt {xs : List Int} {o : Option Sn} (h : DecOk xs o) (hn : ∀ t, ¬ Enc t xs) : o = none := by
  cases o with
  | none => rfl
  | some t => exact absurd ((h t).2 rfl) (hn t)
theorem spoils_call {H : Hp} {s : Sn} {at_ by_ : Int} {desc : Bool} (hs : s.wf) (hat : 0 ≤ at_ ∧ at_ < 256) (hby : 0 ≤ by_ ∧ by_ < 256) :
    ACalls Try.prog 7 [.agg #[.int .u8 s.key, .int .u16 s.code, .int .u64 s.info, .bool s.hi, .int .i64 s.fld, .int .i64 s.bit, .bool s.hf, .bool s.ic], .int .u8 at_, .int .u8 by_, .bool desc] H (fun v _ => v = .bool true) := by
  refine acallsW Try.func7 f7_ok (Nat.le_of_ble_eq_true rfl) fun hw => ?_
  have st : Stt [] H H [] := Stt.start hw
  unfold f7c
  show AWl _ _ _ _ _
  refine aBoxN st rfl rfl (by repeat constructor) rfl fun b4 H1 st => ?_
  refine aN rfl rfl (by constructor) ?_
  refine sE ?_
  show AWl _ _ _ _ _
  refine aC (awake_call) fun v19 H2 ⟨hv, st1⟩ => ?_
  subst hv
  replace st := st.call st1 rfl
  clear st1
  refine aN rfl rfl (by constructor) ?_
  refine aN rfl rfl (by constructor) ?_
  refine gT rfl ?_
  refine aN rfl rfl (by constructor) ?_
  refine gT rfl ?_
  refine aN rfl rfl (by constructor) ?_
  refine aN rfl rfl (by constructor) ?_
  refine sE ?_
  show AW _ (.cond _ _ _) _ _ _
  refine cC' rfl (fun h3 => ?_) (fun h3 => ?_)
  · have h3q := h3; try simp only [decide_eq_true_eq, decide_eq_false_iff_not, beq_iff_eq, beq_eq_false_iff_ne, bne_iff_ne, bne_eq_false_iff_eq, ne_eq, Decidable.not_not, Bool.not_eq_true, Bool.not_eq_false, gt_iff_lt, ge_iff_le, Int.not_lt, Int.not_le] at h3q
    show AWl _ _ _ _ _
    refine aC (awake_call) fun v25 H4 ⟨hv, st1⟩ => ?_
    subst hv
    replace st := st.call st1 rfl
    clear st1
    refine aN rfl rfl (by constructor) ?_
    refine sE ?_
    refine ⟨_, out1 (r_tmp rfl (by constructor)), ?_⟩
    rfl
  · have h3q := h3; try simp only [decide_eq_true_eq, decide_eq_false_iff_not, beq_iff_eq, beq_eq_false_iff_ne, bne_iff_ne, bne_eq_false_iff_eq, ne_eq, Decidable.not_not, Bool.not_eq_true, Bool.not_eq_false, gt_iff_lt, ge_iff_le, Int.not_lt, Int.not_le] at h3q
    have h0 : by_ ≠ 0 := h3q
    show AWl _ _ _ _ _
    refine aLdA st 0 rfl rfl (by first | decide | simp [*]) (by repeat constructor) ?_
    refine aC (fixed_call hs) fun v28 H5 ⟨ob28, hv, st1⟩ => ?_
    subst hv
    replace st := st.call st1 rfl
    clear st1
    refine aN rfl rfl (by constructor) ?_
    refine aExtA rfl rfl ?_
    refine aN rfl rfl (by constructor) ?_
    refine aMovA rfl ?_
    refine aN rfl rfl (by constructor) ?_
    refine sE ?_
    show AWl _ _ _ _ _
    refine aN rfl rfl (by constructor) ?_
    refine aN rfl rfl (by constructor) ?_
    refine gCase 32 rfl (fun h6 => ?_) (fun h6 => ?_)
    · have h6q := h6; try simp only [decide_eq_true_eq, decide_eq_false_iff_not, beq_iff_eq, beq_eq_false_iff_ne, bne_iff_ne, bne_eq_false_iff_eq, ne_eq, Decidable.not_not, Bool.not_eq_true, Bool.not_eq_false, gt_iff_lt, ge_iff_le, Int.not_lt, Int.not_le] at h6q
      refine gF rfl (by decide) ?_
      refine gF rfl (by decide) ?_
      refine aN rfl rfl (by constructor) ?_
      refine sE ?_
      show AW _ (.cond _ _ _) _ _ _
      refine cT rfl ?_
      show AWl _ _ _ _ _
      refine aLdA st 1 rfl rfl (by first | decide | simp [*]) (by repeat constructor) ?_
      refine aC (desc_call hs) fun v38 H7 ⟨ob38, hv, st1⟩ => ?_
      subst hv
      replace st := st.call st1 rfl
      clear st1
      refine aN rfl rfl (by constructor) ?_
      refine aExtA rfl rfl ?_
      refine aN rfl rfl (by constructor) ?_
      refine aMovA rfl ?_
      refine aN rfl rfl (by constructor) ?_
      refine sE ?_
      refine AW_cutK (b := .seq (.list (⟨some 43, _, _⟩ :: _)) _) (fun t1 H1 => ∃ (ps : List Int) (ob : Nat), (Enc s ps) ∧ (ByteL ps ∧ ps.length ≤ 28 ∧ 0 < ps.length) ∧ t1 9 = .slice (some ⟨ob, 0, none⟩) ps.length 1 ∧ Stt [] H H1 [⟨some ob, true, ⟨true, 5, ps.map (Value.int .u8)⟩⟩, ⟨some b4, true, ⟨true, 25, [.int .u8 s.key, .int .u16 s.code, .int .u64 s.info, .bool s.hi, .int .i64 s.fld, .int .i64 s.bit, .bool s.hf, .bool s.ic]⟩⟩]) [8, 41, 42] (by decide) ?_ fun t1 H1 hk hI => ?_
      · show AWl _ _ _ _ _
        refine aN rfl rfl (by constructor) ?_
        refine aN rfl rfl (by constructor) ?_
        refine sE ?_
        show AW _ (.cond _ _ _) _ _ _
        refine cC' rfl (fun h8 => ?_) (fun h8 => ?_)
        · have h8q := h8; try simp only [decide_eq_true_eq, decide_eq_false_iff_not, beq_iff_eq, beq_eq_false_iff_ne, bne_iff_ne, bne_eq_false_iff_eq, ne_eq, Decidable.not_not, Bool.not_eq_true, Bool.not_eq_false, gt_iff_lt, ge_iff_le, Int.not_lt, Int.not_le] at h8q
          show AWl _ _ _ _ _
          refine aN rfl rfl (by constructor) ?_
          refine sE ?_
          refine ⟨_, out1 (r_tmp rfl (by constructor)), ?_⟩
          rfl
        · have h8q := h8; try simp only [decide_eq_true_eq, decide_eq_false_iff_not, beq_iff_eq, beq_eq_false_iff_ne, bne_iff_ne, bne_eq_false_iff_eq, ne_eq, Decidable.not_not, Bool.not_eq_true, Bool.not_eq_false, gt_iff_lt, ge_iff_le, Int.not_lt, Int.not_le] at h8q
          have hE : descE s = 0 := by omega
          have f2 : descR s = descB s := by unfold descR; rw [if_pos hE]
          have f3 := desc_enc hs hE f2
          have f4 : 0 < (descR s).length := by rw [f2, descB_len]; omega
          obtain ⟨b0, rfl⟩ := st.isSome 0 rfl (ne_nil_map f4)
          exact ⟨descR s, b0, by rw [f2]; exact f3, ⟨descR_bytes hs, by have := descR_len s; omega, f4⟩, rfl, st.sel [0, 2] (by decide)⟩
      · obtain ⟨ps, ob, pe, pb, ht9, st⟩ := hI
        obtain ⟨u, rfl⟩ : ∃ u, t1 = (upd (mix [8, 41, 42] _ u) (some 9) _) := ⟨t1, by rw [← hk, upd_self ht9]⟩
        clear hk ht9
        show AWl _ _ _ _ _
        refine aN rfl rfl (by constructor) ?_
        refine aN rfl rfl (by constructor) ?_
        refine aN rfl rfl (by constructor) ?_
        refine aN rfl rfl (by constructor) ?_
        refine aN rfl (e_rem rfl rfl (by omega)) (by constructor) ?_
        obtain ⟨k, hk, hkl⟩ : ∃ k : Nat, (IntKind.i64.wrap at_).tmod (ps.length : Int) = k ∧ k < ps.length := by
          rw [wi _ (by omega), Int.tmod_eq_emod_of_nonneg (by omega)]
          have h1 := Int.emod_nonneg at_ (b := (ps.length : Int)) (by omega)
          have h2 := Int.emod_lt_of_pos at_ (b := (ps.length : Int)) (by omega)
          exact ⟨(at_ % (ps.length : Int)).toNat, by omega, by omega⟩
        rw [hk]
        refine aN rfl rfl (by constructor) ?_
        refine sE ?_
        show AWl _ _ _ _ _
        refine aN rfl rfl (by constructor) ?_
        refine sE ?_
        show AWl _ _ _ _ _
        refine aN rfl rfl (by constructor) ?_
        refine aN rfl rfl (by constructor) ?_
        have st := st.nil 5
        have hnil : (Value.slice none 0 0) = accV none 0 1 := rfl
        refine aAppP st 0 (ob := none) (n := 0) rfl rfl rfl (by decide) (rfl) (st.rowAll 1 rfl (by simp)).src (by simp) (by omega) (by omega) (by omega) (NfL.any _) fun b50 H9 st => ?_
        rw [show 0 + ps.length = ps.length from Nat.zero_add _]
        refine aN rfl rfl (by constructor) ?_
        refine sE ?_
        show AWl _ _ _ _ _
        refine aN rfl rfl (by constructor) ?_
        refine aN rfl rfl (by constructor) ?_
        refine aN rfl rfl (by constructor) ?_
        refine aN rfl rfl (by constructor) ?_
        refine aIxB (st.rowAll 0 rfl (by simp)) rfl rfl (by omega) fun b55 o55 g55 => ?_
        refine aLdG rfl g55 ?_
        refine aN rfl rfl (by constructor) ?_
        refine aN rfl rfl (by constructor) ?_
        refine aIxL rfl rfl (by omega) ?_
        refine aStAt st 0 rfl rfl rfl rfl rfl (by simp; omega) (cs := (ps.set k (bits .xor .u8 (ps.getD k 0) by_)).map (Value.int .u8)) (by rw [List.map_set, show 0 + ((k : Nat) : Int).toNat * 1 = k by omega]; rfl) fun H10 st => ?_
        refine sE ?_
        show AWl _ _ _ _ _
        refine aN rfl rfl (by constructor) ?_
        refine aC (dec_call (xs := ps.set k (bits .xor .u8 (ps.getD k 0) by_)) (by rw [List.length_set]; exact (st.rowAll (n := ps.length) (sz := 1) 0 rfl (by simp))) (pb.1.set (xor_8 (pb.1.getD k) hby h0).1) (by rw [List.length_set]; omega)) fun v62 H11 ⟨o62, ok62, hv, st1⟩ => ?_
        unfold snV at hv; subst hv
        replace st := st.call st1 rfl
        clear st1
        have hT : ¬ Enc s (ps.set k (bits .xor .u8 (ps.getD k 0) by_)) := enc_turned pe (List.length_set ..) (set_ne hkl (xor_8 (pb.1.getD k) hby h0).2)
        rcases o62 with _ | t
        · refine aN rfl rfl (by constructor) ?_
          refine aN rfl rfl (by constructor) ?_
          refine aN rfl rfl (by constructor) ?_
          refine aNewP st rfl rfl (by repeat constructor) fun b13 H12 st => ?_
          refine aSt st 0 rfl rfl rfl rfl (by first | rfl | simp [cellsOf, *]) (by first | decide | simp [*]) (by repeat constructor) fun H13 st => ?_
          refine aN rfl rfl (by constructor) ?_
          refine sE ?_
          show AWl _ _ _ _ _
          refine aN rfl rfl (by constructor) ?_
          refine aN rfl rfl (by constructor) ?_
          refine aCutH (st.rowAll 2 rfl (by simp)) rfl rfl (by omega) fun v68 s68 => ?_
          refine aC (dec_call (xs := ps.take k) (by rw [show (ps.take k).length = k by rw [List.length_take]; omega]; exact (s68 _ (st.rowAll 2 rfl (by simp)))) (pb.1.take _) (by rw [List.length_take]; omega)) fun v69 H14 ⟨o69, ok69, hv, st1⟩ => ?_
          unfold snV at hv; subst hv
          replace st := st.call st1 rfl
          clear st1
          obtain rfl := no_opt ok69 fun t k => enc_cut pe hkl (by simpa using k)
          refine aN rfl rfl (by constructor) ?_
          refine aN rfl rfl (by constructor) ?_
          refine aN rfl rfl (by constructor) ?_
          refine aNewP st rfl rfl (by repeat constructor) fun b15 H15 st => ?_
          refine aSt st 0 rfl rfl rfl rfl (by first | rfl | simp [cellsOf, *]) (by first | decide | simp [*]) (by repeat constructor) fun H16 st => ?_
          refine aN rfl rfl (by constructor) ?_
          refine sE ?_
          show AWl _ _ _ _ _
          refine aN rfl rfl (by constructor) ?_
          refine aLit st rfl (by repeat constructor) fun b73 H17 st => ?_
          refine aAppP st 3 (ob := some b50) rfl rfl rfl (by decide) (by simp) (st.rowAll 0 rfl (by first | rfl | (simp [beB_len, *]; done) | (simp [beB_len, *]; omega))).src (by first | rfl | (simp; done)) (by first | decide | (simp; done) | (simp; omega)) (by first | decide | (simp; done) | (simp; omega)) (by first | decide | (simp; done) | (simp; omega)) (NfL.any _) fun b74 H18 st => ?_
          refine aN rfl rfl (by constructor) ?_
          refine sE ?_
          show AWl _ _ _ _ _
          refine aN rfl rfl (by constructor) ?_
          refine aC (dec_call (xs := ps.set k (bits .xor .u8 (ps.getD k 0) by_) ++ [0]) (by rw [show (ps.set k (bits .xor .u8 (ps.getD k 0) by_) ++ ([0] : List Int)).length = ps.length + 1 by simp, List.map_append]; exact (st.rowAll (n := ps.length + 1) (sz := 1) 3 rfl (by simp))) ((pb.1.set (xor_8 (pb.1.getD k) hby h0).1).app (by simp only [byteL_cons, byteL_nil, and_true]; decide)) (by simp; omega)) fun v77 H19 ⟨o77, ok77, hv, st1⟩ => ?_
          unfold snV at hv; subst hv
          replace st := st.call st1 rfl
          clear st1
          obtain rfl := no_opt ok77 fun t k => enc_more pe (by simp) k
          refine aN rfl rfl (by constructor) ?_
          refine aN rfl rfl (by constructor) ?_
          refine aN rfl rfl (by constructor) ?_
          refine aNewP st rfl rfl (by repeat constructor) fun b17 H20 st => ?_
          refine aSt st 0 rfl rfl rfl rfl (by first | rfl | simp [cellsOf, *]) (by first | decide | simp [*]) (by repeat constructor) fun H21 st => ?_
          refine aN rfl rfl (by constructor) ?_
          refine sE ?_
          show AWl _ _ _ _ _
          refine aN rfl rfl (by constructor) ?_
          refine aBinV (.bool true) (u := .int .i64 3) (u' := .int .i64 3) rfl rfl (rfl) ?_
          refine aN rfl rfl (by constructor) ?_
          refine gF rfl (by decide) ?_
          refine gF rfl (by decide) ?_
          refine gF rfl (by decide) ?_
          refine gU rfl ?_
          refine gU rfl ?_
          refine gU rfl ?_
          refine gF rfl (by decide) ?_
          refine aN rfl rfl (by constructor) ?_
          refine aN rfl rfl (by constructor) ?_
          refine gT rfl ?_
          refine aN rfl rfl (by constructor) ?_
          refine gT rfl ?_
          refine aBinV (.bool true) (u := .int .i64 3) (u' := .int .i64 3) rfl rfl (rfl) ?_
          refine aN rfl rfl (by constructor) ?_
          refine aN rfl rfl (by constructor) ?_
          refine gT rfl ?_
          refine aN rfl rfl (by constructor) ?_
          refine gT rfl ?_
          refine aBinV (.bool true) (u := .int .i64 3) (u' := .int .i64 3) rfl rfl (rfl) ?_
          refine aN rfl rfl (by constructor) ?_
          refine aN rfl rfl (by constructor) ?_
          refine sE ?_
          refine ⟨_, out1 (r_tmp rfl (by constructor)), ?_⟩
          rfl
        · have hts : t ≠ s := fun e => hT (e ▸ (ok62 t).2 rfl)
          refine aN rfl rfl (by constructor) ?_
          refine aN rfl rfl (by constructor) ?_
          refine aN rfl rfl (by constructor) ?_
          refine aNewP st rfl rfl (by repeat constructor) fun b13 H22 st => ?_
          refine aSt st 0 rfl rfl rfl rfl (by first | rfl | simp [cellsOf, *]) (by first | decide | simp [*]) (by repeat constructor) fun H23 st => ?_
          refine aN rfl rfl (by constructor) ?_
          refine sE ?_
          show AWl _ _ _ _ _
          refine aN rfl rfl (by constructor) ?_
          refine aN rfl rfl (by constructor) ?_
          refine aCutH (st.rowAll 2 rfl (by simp)) rfl rfl (by omega) fun v68 s68 => ?_
          refine aC (dec_call (xs := ps.take k) (by rw [show (ps.take k).length = k by rw [List.length_take]; omega]; exact (s68 _ (st.rowAll 2 rfl (by simp)))) (pb.1.take _) (by rw [List.length_take]; omega)) fun v69 H24 ⟨o69, ok69, hv, st1⟩ => ?_
          unfold snV at hv; subst hv
          replace st := st.call st1 rfl
          clear st1
          obtain rfl := no_opt ok69 fun t k => enc_cut pe hkl (by simpa using k)
          refine aN rfl rfl (by constructor) ?_
          refine aN rfl rfl (by constructor) ?_
          refine aN rfl rfl (by constructor) ?_
          refine aNewP st rfl rfl (by repeat constructor) fun b15 H25 st => ?_
          refine aSt st 0 rfl rfl rfl rfl (by first | rfl | simp [cellsOf, *]) (by first | decide | simp [*]) (by repeat constructor) fun H26 st => ?_
          refine aN rfl rfl (by constructor) ?_
          refine sE ?_
          show AWl _ _ _ _ _
          refine aN rfl rfl (by constructor) ?_
          refine aLit st rfl (by repeat constructor) fun b73 H27 st => ?_
          refine aAppP st 3 (ob := some b50) rfl rfl rfl (by decide) (by simp) (st.rowAll 0 rfl (by first | rfl | (simp [beB_len, *]; done) | (simp [beB_len, *]; omega))).src (by first | rfl | (simp; done)) (by first | decide | (simp; done) | (simp; omega)) (by first | decide | (simp; done) | (simp; omega)) (by first | decide | (simp; done) | (simp; omega)) (NfL.any _) fun b74 H28 st => ?_
          refine aN rfl rfl (by constructor) ?_
          refine sE ?_
          show AWl _ _ _ _ _
          refine aN rfl rfl (by constructor) ?_
          refine aC (dec_call (xs := ps.set k (bits .xor .u8 (ps.getD k 0) by_) ++ [0]) (by rw [show (ps.set k (bits .xor .u8 (ps.getD k 0) by_) ++ ([0] : List Int)).length = ps.length + 1 by simp, List.map_append]; exact (st.rowAll (n := ps.length + 1) (sz := 1) 3 rfl (by simp))) ((pb.1.set (xor_8 (pb.1.getD k) hby h0).1).app (by simp only [byteL_cons, byteL_nil, and_true]; decide)) (by simp; omega)) fun v77 H29 ⟨o77, ok77, hv, st1⟩ => ?_
          unfold snV at hv; subst hv
          replace st := st.call st1 rfl
          clear st1
          obtain rfl := no_opt ok77 fun t k => enc_more pe (by simp) k
          refine aN rfl rfl (by constructor) ?_
          refine aN rfl rfl (by constructor) ?_
          refine aN rfl rfl (by constructor) ?_
          refine aNewP st rfl rfl (by repeat constructor) fun b17 H30 st => ?_
          refine aSt st 0 rfl rfl rfl rfl (by first | rfl | simp [cellsOf, *]) (by first | decide | simp [*]) (by repeat constructor) fun H31 st => ?_
          refine aN rfl rfl (by constructor) ?_
          refine sE ?_
          show AWl _ _ _ _ _
          refine aN rfl rfl (by constructor) ?_
          refine aBinV (.bool false) (u := .int .i64 0) (u' := .int .i64 3) rfl rfl (rfl) ?_
          refine aN rfl rfl (by constructor) ?_
          refine gT rfl ?_
          refine aN rfl rfl (by constructor) ?_
          refine gT rfl ?_
          refine aBinV (.bool true) (u := .int .i64 0) (u' := .int .i64 0) rfl rfl (rfl) ?_
          refine gT rfl ?_
          refine aN rfl rfl (by constructor) ?_
          refine gT rfl ?_
          refine aLdA st 3 rfl rfl (by first | decide | simp [*]) (by repeat constructor) ?_
          refine gT rfl ?_
          refine aLdA st 6 rfl rfl (by first | decide | simp [*]) (by repeat constructor) ?_
          refine gT rfl ?_
          refine aEqAV (decide (t = s)) rfl rfl (sn_eqL _ _) ?_
          rw [decide_eq_false hts]
          refine gT rfl ?_
          refine aN rfl rfl (by constructor) ?_
          refine aN rfl rfl (by constructor) ?_
          refine aN rfl rfl (by constructor) ?_
          refine gT rfl ?_
          refine aN rfl rfl (by constructor) ?_
          refine gT rfl ?_
          refine aBinV (.bool true) (u := .int .i64 3) (u' := .int .i64 3) rfl rfl (rfl) ?_
          refine aN rfl rfl (by constructor) ?_
          refine aN rfl rfl (by constructor) ?_
          refine gT rfl ?_
          refine aN rfl rfl (by constructor) ?_
          refine gT rfl ?_
          refine aBinV (.bool true) (u := .int .i64 3) (u' := .int .i64 3) rfl rfl (rfl) ?_
          refine aN rfl rfl (by constructor) ?_
          refine aN rfl rfl (by constructor) ?_
          refine sE ?_
          refine ⟨_, out1 (r_tmp rfl (by constructor)), ?_⟩
          rfl
    · have h6q := h6; try simp only [decide_eq_true_eq, decide_eq_false_iff_not, beq_iff_eq, beq_eq_false_iff_ne, bne_iff_ne, bne_eq_false_iff_eq, ne_eq, Decidable.not_not, Bool.not_eq_true, Bool.not_eq_false, gt_iff_lt, ge_iff_le, Int.not_lt, Int.not_le] at h6q
      refine gT rfl ?_
      refine aN rfl rfl (by constructor) ?_
      refine gT rfl ?_
      refine aN rfl rfl (by constructor) ?_
      refine aN rfl rfl (by constructor) ?_
      refine sE ?_
      show AW _ (.cond _ _ _) _ _ _
      refine cC' rfl (fun h32 => ?_) (fun h32 => ?_)
      · have h32q := h32; try simp only [decide_eq_true_eq, decide_eq_false_iff_not, beq_iff_eq, beq_eq_false_iff_ne, bne_iff_ne, bne_eq_false_iff_eq, ne_eq, Decidable.not_not, Bool.not_eq_true, Bool.not_eq_false, gt_iff_lt, ge_iff_le, Int.not_lt, Int.not_le] at h32q
        show AWl _ _ _ _ _
        refine aLdA st 1 rfl rfl (by first | decide | simp [*]) (by repeat constructor) ?_
        refine aC (desc_call hs) fun v38 H33 ⟨ob38, hv, st1⟩ => ?_
        subst hv
        replace st := st.call st1 rfl
        clear st1
        refine aN rfl rfl (by constructor) ?_
        refine aExtA rfl rfl ?_
        refine aN rfl rfl (by constructor) ?_
        refine aMovA rfl ?_
        refine aN rfl rfl (by constructor) ?_
        refine sE ?_
        refine AW_cutK (b := .seq (.list (⟨some 43, _, _⟩ :: _)) _) (fun t1 H1 => ∃ (ps : List Int) (ob : Nat), (Enc s ps) ∧ (ByteL ps ∧ ps.length ≤ 28 ∧ 0 < ps.length) ∧ t1 9 = .slice (some ⟨ob, 0, none⟩) ps.length 1 ∧ Stt [] H H1 [⟨some ob, true, ⟨true, 5, ps.map (Value.int .u8)⟩⟩, ⟨some b4, true, ⟨true, 25, [.int .u8 s.key, .int .u16 s.code, .int .u64 s.info, .bool s.hi, .int .i64 s.fld, .int .i64 s.bit, .bool s.hf, .bool s.ic]⟩⟩]) [8, 41, 42] (by decide) ?_ fun t1 H1 hk hI => ?_
        · show AWl _ _ _ _ _
          refine aN rfl rfl (by constructor) ?_
          refine aN rfl rfl (by constructor) ?_
          refine sE ?_
          show AW _ (.cond _ _ _) _ _ _
          refine cC' rfl (fun h34 => ?_) (fun h34 => ?_)
          · have h34q := h34; try simp only [decide_eq_true_eq, decide_eq_false_iff_not, beq_iff_eq, beq_eq_false_iff_ne, bne_iff_ne, bne_eq_false_iff_eq, ne_eq, Decidable.not_not, Bool.not_eq_true, Bool.not_eq_false, gt_iff_lt, ge_iff_le, Int.not_lt, Int.not_le] at h34q
            show AWl _ _ _ _ _
            refine aN rfl rfl (by constructor) ?_
            refine sE ?_
            refine ⟨_, out1 (r_tmp rfl (by constructor)), ?_⟩
            rfl
          · have h34q := h34; try simp only [decide_eq_true_eq, decide_eq_false_iff_not, beq_iff_eq, beq_eq_false_iff_ne, bne_iff_ne, bne_eq_false_iff_eq, ne_eq, Decidable.not_not, Bool.not_eq_true, Bool.not_eq_false, gt_iff_lt, ge_iff_le, Int.not_lt, Int.not_le] at h34q
            have hE : descE s = 0 := by omega
            have f2 : descR s = descB s := by unfold descR; rw [if_pos hE]
            have f3 := desc_enc hs hE f2
            have f4 : 0 < (descR s).length := by rw [f2, descB_len]; omega
            obtain ⟨b0, rfl⟩ := st.isSome 0 rfl (ne_nil_map f4)
            exact ⟨descR s, b0, by rw [f2]; exact f3, ⟨descR_bytes hs, by have := descR_len s; omega, f4⟩, rfl, st.sel [0, 2] (by decide)⟩
        · obtain ⟨ps, ob, pe, pb, ht9, st⟩ := hI
          obtain ⟨u, rfl⟩ : ∃ u, t1 = (upd (mix [8, 41, 42] _ u) (some 9) _) := ⟨t1, by rw [← hk, upd_self ht9]⟩
          clear hk ht9
          show AWl _ _ _ _ _
          refine aN rfl rfl (by constructor) ?_
          refine aN rfl rfl (by constructor) ?_
          refine aN rfl rfl (by constructor) ?_
          refine aN rfl rfl (by constructor) ?_
          refine aN rfl (e_rem rfl rfl (by omega)) (by constructor) ?_
          obtain ⟨k, hk, hkl⟩ : ∃ k : Nat, (IntKind.i64.wrap at_).tmod (ps.length : Int) = k ∧ k < ps.length := by
            rw [wi _ (by omega), Int.tmod_eq_emod_of_nonneg (by omega)]
            have h1 := Int.emod_nonneg at_ (b := (ps.length : Int)) (by omega)
            have h2 := Int.emod_lt_of_pos at_ (b := (ps.length : Int)) (by omega)
            exact ⟨(at_ % (ps.length : Int)).toNat, by omega, by omega⟩
          rw [hk]
          refine aN rfl rfl (by constructor) ?_
          refine sE ?_
          show AWl _ _ _ _ _
          refine aN rfl rfl (by constructor) ?_
          refine sE ?_
          show AWl _ _ _ _ _
          refine aN rfl rfl (by constructor) ?_
          refine aN rfl rfl (by constructor) ?_
          have st := st.nil 5
          have hnil : (Value.slice none 0 0) = accV none 0 1 := rfl
          refine aAppP st 0 (ob := none) (n := 0) rfl rfl rfl (by decide) (rfl) (st.rowAll 1 rfl (by simp)).src (by simp) (by omega) (by omega) (by omega) (NfL.any _) fun b50 H35 st => ?_
          rw [show 0 + ps.length = ps.length from Nat.zero_add _]
          refine aN rfl rfl (by constructor) ?_
          refine sE ?_
          show AWl _ _ _ _ _
          refine aN rfl rfl (by constructor) ?_
          refine aN rfl rfl (by constructor) ?_
          refine aN rfl rfl (by constructor) ?_
          refine aN rfl rfl (by constructor) ?_
          refine aIxB (st.rowAll 0 rfl (by simp)) rfl rfl (by omega) fun b55 o55 g55 => ?_
          refine aLdG rfl g55 ?_
          refine aN rfl rfl (by constructor) ?_
          refine aN rfl rfl (by constructor) ?_
          refine aIxL rfl rfl (by omega) ?_
          refine aStAt st 0 rfl rfl rfl rfl rfl (by simp; omega) (cs := (ps.set k (bits .xor .u8 (ps.getD k 0) by_)).map (Value.int .u8)) (by rw [List.map_set, show 0 + ((k : Nat) : Int).toNat * 1 = k by omega]; rfl) fun H36 st => ?_
          refine sE ?_
          show AWl _ _ _ _ _
          refine aN rfl rfl (by constructor) ?_
          refine aC (dec_call (xs := ps.set k (bits .xor .u8 (ps.getD k 0) by_)) (by rw [List.length_set]; exact (st.rowAll (n := ps.length) (sz := 1) 0 rfl (by simp))) (pb.1.set (xor_8 (pb.1.getD k) hby h0).1) (by rw [List.length_set]; omega)) fun v62 H37 ⟨o62, ok62, hv, st1⟩ => ?_
          unfold snV at hv; subst hv
          replace st := st.call st1 rfl
          clear st1
          have hT : ¬ Enc s (ps.set k (bits .xor .u8 (ps.getD k 0) by_)) := enc_turned pe (List.length_set ..) (set_ne hkl (xor_8 (pb.1.getD k) hby h0).2)
          rcases o62 with _ | t
          · refine aN rfl rfl (by constructor) ?_
            refine aN rfl rfl (by constructor) ?_
            refine aN rfl rfl (by constructor) ?_
            refine aNewP st rfl rfl (by repeat constructor) fun b13 H38 st => ?_
            refine aSt st 0 rfl rfl rfl rfl (by first | rfl | simp [cellsOf, *]) (by first | decide | simp [*]) (by repeat constructor) fun H39 st => ?_
            refine aN rfl rfl (by constructor) ?_
            refine sE ?_
            show AWl _ _ _ _ _
            refine aN rfl rfl (by constructor) ?_
            refine aN rfl rfl (by constructor) ?_
            refine aCutH (st.rowAll 2 rfl (by simp)) rfl rfl (by omega) fun v68 s68 => ?_
            refine aC (dec_call (xs := ps.take k) (by rw [show (ps.take k).length = k by rw [List.length_take]; omega]; exact (s68 _ (st.rowAll 2 rfl (by simp)))) (pb.1.take _) (by rw [List.length_take]; omega)) fun v69 H40 ⟨o69, ok69, hv, st1⟩ => ?_
            unfold snV at hv; subst hv
            replace st := st.call st1 rfl
            clear st1
            obtain rfl := no_opt ok69 fun t k => enc_cut pe hkl (by simpa using k)
            refine aN rfl rfl (by constructor) ?_
            refine aN rfl rfl (by constructor) ?_
            refine aN rfl rfl (by constructor) ?_
            refine aNewP st rfl rfl (by repeat constructor) fun b15 H41 st => ?_
            refine aSt st 0 rfl rfl rfl rfl (by first | rfl | simp [cellsOf, *]) (by first | decide | simp [*]) (by repeat constructor) fun H42 st => ?_
            refine aN rfl rfl (by constructor) ?_
            refine sE ?_
            show AWl _ _ _ _ _
            refine aN rfl rfl (by constructor) ?_
            refine aLit st rfl (by repeat constructor) fun b73 H43 st => ?_
            refine aAppP st 3 (ob := some b50) rfl rfl rfl (by decide) (by simp) (st.rowAll 0 rfl (by first | rfl | (simp [beB_len, *]; done) | (simp [beB_len, *]; omega))).src (by first | rfl | (simp; done)) (by first | decide | (simp; done) | (simp; omega)) (by first | decide | (simp; done) | (simp; omega)) (by first | decide | (simp; done) | (simp; omega)) (NfL.any _) fun b74 H44 st => ?_
            refine aN rfl rfl (by constructor) ?_
            refine sE ?_
            show AWl _ _ _ _ _
            refine aN rfl rfl (by constructor) ?_
            refine aC (dec_call (xs := ps.set k (bits .xor .u8 (ps.getD k 0) by_) ++ [0]) (by rw [show (ps.set k (bits .xor .u8 (ps.getD k 0) by_) ++ ([0] : List Int)).length = ps.length + 1 by simp, List.map_append]; exact (st.rowAll (n := ps.length + 1) (sz := 1) 3 rfl (by simp))) ((pb.1.set (xor_8 (pb.1.getD k) hby h0).1).app (by simp only [byteL_cons, byteL_nil, and_true]; decide)) (by simp; omega)) fun v77 H45 ⟨o77, ok77, hv, st1⟩ => ?_
            unfold snV at hv; subst hv
            replace st := st.call st1 rfl
            clear st1
            obtain rfl := no_opt ok77 fun t k => enc_more pe (by simp) k
            refine aN rfl rfl (by constructor) ?_
            refine aN rfl rfl (by constructor) ?_
            refine aN rfl rfl (by constructor) ?_
            refine aNewP st rfl rfl (by repeat constructor) fun b17 H46 st => ?_
            refine aSt st 0 rfl rfl rfl rfl (by first | rfl | simp [cellsOf, *]) (by first | decide | simp [*]) (by repeat constructor) fun H47 st => ?_
            refine aN rfl rfl (by constructor) ?_
            refine sE ?_
            show AWl _ _ _ _ _
            refine aN rfl rfl (by constructor) ?_
            refine aBinV (.bool true) (u := .int .i64 3) (u' := .int .i64 3) rfl rfl (rfl) ?_
            refine aN rfl rfl (by constructor) ?_
            refine gF rfl (by decide) ?_
            refine gF rfl (by decide) ?_
            refine gF rfl (by decide) ?_
            refine gU rfl ?_
            refine gU rfl ?_
            refine gU rfl ?_
            refine gF rfl (by decide) ?_
            refine aN rfl rfl (by constructor) ?_
            refine aN rfl rfl (by constructor) ?_
            refine gT rfl ?_
            refine aN rfl rfl (by constructor) ?_
            refine gT rfl ?_
            refine aBinV (.bool true) (u := .int .i64 3) (u' := .int .i64 3) rfl rfl (rfl) ?_
            refine aN rfl rfl (by constructor) ?_
            refine aN rfl rfl (by constructor) ?_
            refine gT rfl ?_
            refine aN rfl rfl (by constructor) ?_
            refine gT rfl ?_
            refine aBinV (.bool true) (u := .int .i64 3) (u' := .int .i64 3) rfl rfl (rfl) ?_
            refine aN rfl rfl (by constructor) ?_
            refine aN rfl rfl (by constructor) ?_
            refine sE ?_
            refine ⟨_, out1 (r_tmp rfl (by constructor)), ?_⟩
            rfl
          · have hts : t ≠ s := fun e => hT (e ▸ (ok62 t).2 rfl)
            refine aN rfl rfl (by constructor) ?_
            refine aN rfl rfl (by constructor) ?_
            refine aN rfl rfl (by constructor) ?_
            refine aNewP st rfl rfl (by repeat constructor) fun b13 H48 st => ?_
            refine aSt st 0 rfl rfl rfl rfl (by first | rfl | simp [cellsOf, *]) (by first | decide | simp [*]) (by repeat constructor) fun H49 st => ?_
            refine aN rfl rfl (by constructor) ?_
            refine sE ?_
            show AWl _ _ _ _ _
            refine aN rfl rfl (by constructor) ?_
            refine aN rfl rfl (by constructor) ?_
            refine aCutH (st.rowAll 2 rfl (by simp)) rfl rfl (by omega) fun v68 s68 => ?_
            refine aC (dec_call (xs := ps.take k) (by rw [show (ps.take k).length = k by rw [List.length_take]; omega]; exact (s68 _ (st.rowAll 2 rfl (by simp)))) (pb.1.take _) (by rw [List.length_take]; omega)) fun v69 H50 ⟨o69, ok69, hv, st1⟩ => ?_
            unfold snV at hv; subst hv
            replace st := st.call st1 rfl
            clear st1
            obtain rfl := no_opt ok69 fun t k => enc_cut pe hkl (by simpa using k)
            refine aN rfl rfl (by constructor) ?_
            refine aN rfl rfl (by constructor) ?_
            refine aN rfl rfl (by constructor) ?_
            refine aNewP st rfl rfl (by repeat constructor) fun b15 H51 st => ?_
            refine aSt st 0 rfl rfl rfl rfl (by first | rfl | simp [cellsOf, *]) (by first | decide | simp [*]) (by repeat constructor) fun H52 st => ?_
            refine aN rfl rfl (by constructor) ?_
            refine sE ?_
            show AWl _ _ _ _ _
            refine aN rfl rfl (by constructor) ?_
            refine aLit st rfl (by repeat constructor) fun b73 H53 st => ?_
            refine aAppP st 3 (ob := some b50) rfl rfl rfl (by decide) (by simp) (st.rowAll 0 rfl (by first | rfl | (simp [beB_len, *]; done) | (simp [beB_len, *]; omega))).src (by first | rfl | (simp; done)) (by first | decide | (simp; done) | (simp; omega)) (by first | decide | (simp; done) | (simp; omega)) (by first | decide | (simp; done) | (simp; omega)) (NfL.any _) fun b74 H54 st => ?_
            refine aN rfl rfl (by constructor) ?_
            refine sE ?_
            show AWl _ _ _ _ _
            refine aN rfl rfl (by constructor) ?_
            refine aC (dec_call (xs := ps.set k (bits .xor .u8 (ps.getD k 0) by_) ++ [0]) (by rw [show (ps.set k (bits .xor .u8 (ps.getD k 0) by_) ++ ([0] : List Int)).length = ps.length + 1 by simp, List.map_append]; exact (st.rowAll (n := ps.length + 1) (sz := 1) 3 rfl (by simp))) ((pb.1.set (xor_8 (pb.1.getD k) hby h0).1).app (by simp only [byteL_cons, byteL_nil, and_true]; decide)) (by simp; omega)) fun v77 H55 ⟨o77, ok77, hv, st1⟩ => ?_
            unfold snV at hv; subst hv
            replace st := st.call st1 rfl
            clear st1
            obtain rfl := no_opt ok77 fun t k => enc_more pe (by simp) k
            refine aN rfl rfl (by constructor) ?_
            refine aN rfl rfl (by constructor) ?_
            refine aN rfl rfl (by constructor) ?_
            refine aNewP st rfl rfl (by repeat constructor) fun b17 H56 st => ?_
            refine aSt st 0 rfl rfl rfl rfl (by first | rfl | simp [cellsOf, *]) (by first | decide | simp [*]) (by repeat constructor) fun H57 st => ?_
            refine aN rfl rfl (by constructor) ?_
            refine sE ?_
            show AWl _ _ _ _ _
            refine aN rfl rfl (by constructor) ?_
            refine aBinV (.bool false) (u := .int .i64 0) (u' := .int .i64 3) rfl rfl (rfl) ?_
            refine aN rfl rfl (by constructor) ?_
            refine gT rfl ?_
            refine aN rfl rfl (by constructor) ?_
            refine gT rfl ?_
            refine aBinV (.bool true) (u := .int .i64 0) (u' := .int .i64 0) rfl rfl (rfl) ?_
            refine gT rfl ?_
            refine aN rfl rfl (by constructor) ?_
            refine gT rfl ?_
            refine aLdA st 3 rfl rfl (by first | decide | simp [*]) (by repeat constructor) ?_
            refine gT rfl ?_
            refine aLdA st 6 rfl rfl (by first | decide | simp [*]) (by repeat constructor) ?_
            refine gT rfl ?_
            refine aEqAV (decide (t = s)) rfl rfl (sn_eqL _ _) ?_
            rw [decide_eq_false hts]
            refine gT rfl ?_
            refine aN rfl rfl (by constructor) ?_
            refine aN rfl rfl (by constructor) ?_
            refine aN rfl rfl (by constructor) ?_
            refine gT rfl ?_
            refine aN rfl rfl (by constructor) ?_
            refine gT rfl ?_
            refine aBinV (.bool true) (u := .int .i64 3) (u' := .int .i64 3) rfl rfl (rfl) ?_
            refine aN rfl rfl (by constructor) ?_
            refine aN rfl rfl (by constructor) ?_
            refine gT rfl ?_
            refine aN rfl rfl (by constructor) ?_
            refine gT rfl ?_
            refine aBinV (.bool true) (u := .int .i64 3) (u' := .int .i64 3) rfl rfl (rfl) ?_
            refine aN rfl rfl (by constructor) ?_
            refine aN rfl rfl (by constructor) ?_
            refine sE ?_
            refine ⟨_, out1 (r_tmp rfl (by constructor)), ?_⟩
            rfl
      · have h32q := h32; try simp only [decide_eq_true_eq, decide_eq_false_iff_not, beq_iff_eq, beq_eq_false_iff_ne, bne_iff_ne, bne_eq_false_iff_eq, ne_eq, Decidable.not_not, Bool.not_eq_true, Bool.not_eq_false, gt_iff_lt, ge_iff_le, Int.not_lt, Int.not_le] at h32q
        refine AW_cutK (b := .seq (.list (⟨some 43, _, _⟩ :: _)) _) (fun t1 H1 => ∃ (ps : List Int) (ob : Nat), (Enc s ps) ∧ (ByteL ps ∧ ps.length ≤ 28 ∧ 0 < ps.length) ∧ t1 9 = .slice (some ⟨ob, 0, none⟩) ps.length 1 ∧ Stt [] H H1 [⟨some ob, true, ⟨true, 5, ps.map (Value.int .u8)⟩⟩, ⟨some b4, true, ⟨true, 25, [.int .u8 s.key, .int .u16 s.code, .int .u64 s.info, .bool s.hi, .int .i64 s.fld, .int .i64 s.bit, .bool s.hf, .bool s.ic]⟩⟩]) [8, 41, 42] (by decide) ?_ fun t1 H1 hk hI => ?_
        · show AWl _ _ _ _ _
          refine aN rfl rfl (by constructor) ?_
          refine aN rfl rfl (by constructor) ?_
          refine sE ?_
          show AW _ (.cond _ _ _) _ _ _
          refine cC' rfl (fun h58 => ?_) (fun h58 => ?_)
          · have h58q := h58; try simp only [decide_eq_true_eq, decide_eq_false_iff_not, beq_iff_eq, beq_eq_false_iff_ne, bne_iff_ne, bne_eq_false_iff_eq, ne_eq, Decidable.not_not, Bool.not_eq_true, Bool.not_eq_false, gt_iff_lt, ge_iff_le, Int.not_lt, Int.not_le] at h58q
            show AWl _ _ _ _ _
            refine aN rfl rfl (by constructor) ?_
            refine sE ?_
            refine ⟨_, out1 (r_tmp rfl (by constructor)), ?_⟩
            rfl
          · have h58q := h58; try simp only [decide_eq_true_eq, decide_eq_false_iff_not, beq_iff_eq, beq_eq_false_iff_ne, bne_iff_ne, bne_eq_false_iff_eq, ne_eq, Decidable.not_not, Bool.not_eq_true, Bool.not_eq_false, gt_iff_lt, ge_iff_le, Int.not_lt, Int.not_le] at h58q
            have hE : fixE s = 0 := by omega
            obtain ⟨f2, f3⟩ := okF hs hE
            have f4 : 0 < (fixR s).length := by rw [f2, fixedB_len]; omega
            obtain ⟨b0, rfl⟩ := st.isSome 0 rfl (ne_nil_map f4)
            exact ⟨fixR s, b0, by rw [f2]; exact f3, ⟨fixR_bytes hs, by have := fixR_len s; omega, f4⟩, rfl, st.sel [0, 1] (by decide)⟩
        · obtain ⟨ps, ob, pe, pb, ht9, st⟩ := hI
          obtain ⟨u, rfl⟩ : ∃ u, t1 = (upd (mix [8, 41, 42] _ u) (some 9) _) := ⟨t1, by rw [← hk, upd_self ht9]⟩
          clear hk ht9
          show AWl _ _ _ _ _
          refine aN rfl rfl (by constructor) ?_
          refine aN rfl rfl (by constructor) ?_
          refine aN rfl rfl (by constructor) ?_
          refine aN rfl rfl (by constructor) ?_
          refine aN rfl (e_rem rfl rfl (by omega)) (by constructor) ?_
          obtain ⟨k, hk, hkl⟩ : ∃ k : Nat, (IntKind.i64.wrap at_).tmod (ps.length : Int) = k ∧ k < ps.length := by
            rw [wi _ (by omega), Int.tmod_eq_emod_of_nonneg (by omega)]
            have h1 := Int.emod_nonneg at_ (b := (ps.length : Int)) (by omega)
            have h2 := Int.emod_lt_of_pos at_ (b := (ps.length : Int)) (by omega)
            exact ⟨(at_ % (ps.length : Int)).toNat, by omega, by omega⟩
          rw [hk]
          refine aN rfl rfl (by constructor) ?_
          refine sE ?_
          show AWl _ _ _ _ _
          refine aN rfl rfl (by constructor) ?_
          refine sE ?_
          show AWl _ _ _ _ _
          refine aN rfl rfl (by constructor) ?_
          refine aN rfl rfl (by constructor) ?_
          have st := st.nil 5
          have hnil : (Value.slice none 0 0) = accV none 0 1 := rfl
          refine aAppP st 0 (ob := none) (n := 0) rfl rfl rfl (by decide) (rfl) (st.rowAll 1 rfl (by simp)).src (by simp) (by omega) (by omega) (by omega) (NfL.any _) fun b50 H59 st => ?_
          rw [show 0 + ps.length = ps.length from Nat.zero_add _]
          refine aN rfl rfl (by constructor) ?_
          refine sE ?_
          show AWl _ _ _ _ _
          refine aN rfl rfl (by constructor) ?_
          refine aN rfl rfl (by constructor) ?_
          refine aN rfl rfl (by constructor) ?_
          refine aN rfl rfl (by constructor) ?_
          refine aIxB (st.rowAll 0 rfl (by simp)) rfl rfl (by omega) fun b55 o55 g55 => ?_
          refine aLdG rfl g55 ?_
          refine aN rfl rfl (by constructor) ?_
          refine aN rfl rfl (by constructor) ?_
          refine aIxL rfl rfl (by omega) ?_
          refine aStAt st 0 rfl rfl rfl rfl rfl (by simp; omega) (cs := (ps.set k (bits .xor .u8 (ps.getD k 0) by_)).map (Value.int .u8)) (by rw [List.map_set, show 0 + ((k : Nat) : Int).toNat * 1 = k by omega]; rfl) fun H60 st => ?_
          refine sE ?_
          show AWl _ _ _ _ _
          refine aN rfl rfl (by constructor) ?_
          refine aC (dec_call (xs := ps.set k (bits .xor .u8 (ps.getD k 0) by_)) (by rw [List.length_set]; exact (st.rowAll (n := ps.length) (sz := 1) 0 rfl (by simp))) (pb.1.set (xor_8 (pb.1.getD k) hby h0).1) (by rw [List.length_set]; omega)) fun v62 H61 ⟨o62, ok62, hv, st1⟩ => ?_
          unfold snV at hv; subst hv
          replace st := st.call st1 rfl
          clear st1
          have hT : ¬ Enc s (ps.set k (bits .xor .u8 (ps.getD k 0) by_)) := enc_turned pe (List.length_set ..) (set_ne hkl (xor_8 (pb.1.getD k) hby h0).2)
          rcases o62 with _ | t
          · refine aN rfl rfl (by constructor) ?_
            refine aN rfl rfl (by constructor) ?_
            refine aN rfl rfl (by constructor) ?_
            refine aNewP st rfl rfl (by repeat constructor) fun b13 H62 st => ?_
            refine aSt st 0 rfl rfl rfl rfl (by first | rfl | simp [cellsOf, *]) (by first | decide | simp [*]) (by repeat constructor) fun H63 st => ?_
            refine aN rfl rfl (by constructor) ?_
            refine sE ?_
            show AWl _ _ _ _ _
            refine aN rfl rfl (by constructor) ?_
            refine aN rfl rfl (by constructor) ?_
            refine aCutH (st.rowAll 2 rfl (by simp)) rfl rfl (by omega) fun v68 s68 => ?_
            refine aC (dec_call (xs := ps.take k) (by rw [show (ps.take k).length = k by rw [List.length_take]; omega]; exact (s68 _ (st.rowAll 2 rfl (by simp)))) (pb.1.take _) (by rw [List.length_take]; omega)) fun v69 H64 ⟨o69, ok69, hv, st1⟩ => ?_
            unfold snV at hv; subst hv
            replace st := st.call st1 rfl
            clear st1
            obtain rfl := no_opt ok69 fun t k => enc_cut pe hkl (by simpa using k)
            refine aN rfl rfl (by constructor) ?_
            refine aN rfl rfl (by constructor) ?_
            refine aN rfl rfl (by constructor) ?_
            refine aNewP st rfl rfl (by repeat constructor) fun b15 H65 st => ?_
            refine aSt st 0 rfl rfl rfl rfl (by first | rfl | simp [cellsOf, *]) (by first | decide | simp [*]) (by repeat constructor) fun H66 st => ?_
            refine aN rfl rfl (by constructor) ?_
            refine sE ?_
            show AWl _ _ _ _ _
            refine aN rfl rfl (by constructor) ?_
            refine aLit st rfl (by repeat constructor) fun b73 H67 st => ?_
            refine aAppP st 3 (ob := some b50) rfl rfl rfl (by decide) (by simp) (st.rowAll 0 rfl (by first | rfl | (simp [beB_len, *]; done) | (simp [beB_len, *]; omega))).src (by first | rfl | (simp; done)) (by first | decide | (simp; done) | (simp; omega)) (by first | decide | (simp; done) | (simp; omega)) (by first | decide | (simp; done) | (simp; omega)) (NfL.any _) fun b74 H68 st => ?_
            refine aN rfl rfl (by constructor) ?_
            refine sE ?_
            show AWl _ _ _ _ _
            refine aN rfl rfl (by constructor) ?_
            refine aC (dec_call (xs := ps.set k (bits .xor .u8 (ps.getD k 0) by_) ++ [0]) (by rw [show (ps.set k (bits .xor .u8 (ps.getD k 0) by_) ++ ([0] : List Int)).length = ps.length + 1 by simp, List.map_append]; exact (st.rowAll (n := ps.length + 1) (sz := 1) 3 rfl (by simp))) ((pb.1.set (xor_8 (pb.1.getD k) hby h0).1).app (by simp only [byteL_cons, byteL_nil, and_true]; decide)) (by simp; omega)) fun v77 H69 ⟨o77, ok77, hv, st1⟩ => ?_
            unfold snV at hv; subst hv
            replace st := st.call st1 rfl
            clear st1
            obtain rfl := no_opt ok77 fun t k => enc_more pe (by simp) k
            refine aN rfl rfl (by constructor) ?_
            refine aN rfl rfl (by constructor) ?_
            refine aN rfl rfl (by constructor) ?_
            refine aNewP st rfl rfl (by repeat constructor) fun b17 H70 st => ?_
            refine aSt st 0 rfl rfl rfl rfl (by first | rfl | simp [cellsOf, *]) (by first | decide | simp [*]) (by repeat constructor) fun H71 st => ?_
            refine aN rfl rfl (by constructor) ?_
            refine sE ?_
            show AWl _ _ _ _ _
            refine aN rfl rfl (by constructor) ?_
            refine aBinV (.bool true) (u := .int .i64 3) (u' := .int .i64 3) rfl rfl (rfl) ?_
            refine aN rfl rfl (by constructor) ?_
            refine gF rfl (by decide) ?_
            refine gF rfl (by decide) ?_
            refine gF rfl (by decide) ?_
            refine gU rfl ?_
            refine gU rfl ?_
            refine gU rfl ?_
            refine gF rfl (by decide) ?_
            refine aN rfl rfl (by constructor) ?_
            refine aN rfl rfl (by constructor) ?_
            refine gT rfl ?_
            refine aN rfl rfl (by constructor) ?_
            refine gT rfl ?_
            refine aBinV (.bool true) (u := .int .i64 3) (u' := .int .i64 3) rfl rfl (rfl) ?_
            refine aN rfl rfl (by constructor) ?_
            refine aN rfl rfl (by constructor) ?_
            refine gT rfl ?_
            refine aN rfl rfl (by constructor) ?_
            refine gT rfl ?_
            refine aBinV (.bool true) (u := .int .i64 3) (u' := .int .i64 3) rfl rfl (rfl) ?_
            refine aN rfl rfl (by constructor) ?_
            refine aN rfl rfl (by constructor) ?_
            refine sE ?_
            refine ⟨_, out1 (r_tmp rfl (by constructor)), ?_⟩
            rfl
          · have hts : t ≠ s := fun e => hT (e ▸ (ok62 t).2 rfl)
            refine aN rfl rfl (by constructor) ?_
            refine aN rfl rfl (by constructor) ?_
            refine aN rfl rfl (by constructor) ?_
            refine aNewP st rfl rfl (by repeat constructor) fun b13 H72 st => ?_
            refine aSt st 0 rfl rfl rfl rfl (by first | rfl | simp [cellsOf, *]) (by first | decide | simp [*]) (by repeat constructor) fun H73 st => ?_
            refine aN rfl rfl (by constructor) ?_
            refine sE ?_
            show AWl _ _ _ _ _
            refine aN rfl rfl (by constructor) ?_
            refine aN rfl rfl (by constructor) ?_
            refine aCutH (st.rowAll 2 rfl (by simp)) rfl rfl (by omega) fun v68 s68 => ?_
            refine aC (dec_call (xs := ps.take k) (by rw [show (ps.take k).length = k by rw [List.length_take]; omega]; exact (s68 _ (st.rowAll 2 rfl (by simp)))) (pb.1.take _) (by rw [List.length_take]; omega)) fun v69 H74 ⟨o69, ok69, hv, st1⟩ => ?_
            unfold snV at hv; subst hv
            replace st := st.call st1 rfl
            clear st1
            obtain rfl := no_opt ok69 fun t k => enc_cut pe hkl (by simpa using k)
            refine aN rfl rfl (by constructor) ?_
            refine aN rfl rfl (by constructor) ?_
            refine aN rfl rfl (by constructor) ?_
            refine aNewP st rfl rfl (by repeat constructor) fun b15 H75 st => ?_
            refine aSt st 0 rfl rfl rfl rfl (by first | rfl | simp [cellsOf, *]) (by first | decide | simp [*]) (by repeat constructor) fun H76 st => ?_
            refine aN rfl rfl (by constructor) ?_
            refine sE ?_
            show AWl _ _ _ _ _
            refine aN rfl rfl (by constructor) ?_
            refine aLit st rfl (by repeat constructor) fun b73 H77 st => ?_
            refine aAppP st 3 (ob := some b50) rfl rfl rfl (by decide) (by simp) (st.rowAll 0 rfl (by first | rfl | (simp [beB_len, *]; done) | (simp [beB_len, *]; omega))).src (by first | rfl | (simp; done)) (by first | decide | (simp; done) | (simp; omega)) (by first | decide | (simp; done) | (simp; omega)) (by first | decide | (simp; done) | (simp; omega)) (NfL.any _) fun b74 H78 st => ?_
            refine aN rfl rfl (by constructor) ?_
            refine sE ?_
            show AWl _ _ _ _ _
            refine aN rfl rfl (by constructor) ?_
            refine aC (dec_call (xs := ps.set k (bits .xor .u8 (ps.getD k 0) by_) ++ [0]) (by rw [show (ps.set k (bits .xor .u8 (ps.getD k 0) by_) ++ ([0] : List Int)).length = ps.length + 1 by simp, List.map_append]; exact (st.rowAll (n := ps.length + 1) (sz := 1) 3 rfl (by simp))) ((pb.1.set (xor_8 (pb.1.getD k) hby h0).1).app (by simp only [byteL_cons, byteL_nil, and_true]; decide)) (by simp; omega)) fun v77 H79 ⟨o77, ok77, hv, st1⟩ => ?_
            unfold snV at hv; subst hv
            replace st := st.call st1 rfl
            clear st1
            obtain rfl := no_opt ok77 fun t k => enc_more pe (by simp) k
            refine aN rfl rfl (by constructor) ?_
            refine aN rfl rfl (by constructor) ?_
            refine aN rfl rfl (by constructor) ?_
            refine aNewP st rfl rfl (by repeat constructor) fun b17 H80 st => ?_
            refine aSt st 0 rfl rfl rfl rfl (by first | rfl | simp [cellsOf, *]) (by first | decide | simp [*]) (by repeat constructor) fun H81 st => ?_
            refine aN rfl rfl (by constructor) ?_
            refine sE ?_
            show AWl _ _ _ _ _
            refine aN rfl rfl (by constructor) ?_
            refine aBinV (.bool false) (u := .int .i64 0) (u' := .int .i64 3) rfl rfl (rfl) ?_
            refine aN rfl rfl (by constructor) ?_
            refine gT rfl ?_
            refine aN rfl rfl (by constructor) ?_
            refine gT rfl ?_
            refine aBinV (.bool true) (u := .int .i64 0) (u' := .int .i64 0) rfl rfl (rfl) ?_
            refine gT rfl ?_
            refine aN rfl rfl (by constructor) ?_
            refine gT rfl ?_
            refine aLdA st 3 rfl rfl (by first | decide | simp [*]) (by repeat constructor) ?_
            refine gT rfl ?_
            refine aLdA st 6 rfl rfl (by first | decide | simp [*]) (by repeat constructor) ?_
            refine gT rfl ?_
            refine aEqAV (decide (t = s)) rfl rfl (sn_eqL _ _) ?_
            rw [decide_eq_false hts]
            refine gT rfl ?_
            refine aN rfl rfl (by constructor) ?_
            refine aN rfl rfl (by constructor) ?_
            refine aN rfl rfl (by constructor) ?_
            refine gT rfl ?_
            refine aN rfl rfl (by constructor) ?_
            refine gT rfl ?_
            refine aBinV (.bool true) (u := .int .i64 3) (u' := .int .i64 3) rfl rfl (rfl) ?_
            refine aN rfl rfl (by constructor) ?_
            refine aN rfl rfl (by constructor) ?_
            refine gT rfl ?_
            refine aN rfl rfl (by constructor) ?_
            refine gT rfl ?_
            refine aBinV (.bool true) (u := .int .i64 3) (u' := .int .i64 3) rfl rfl (rfl) ?_
            refine aN rfl rfl (by constructor) ?_
            refine aN rfl rfl (by constructor) ?_
            refine sE ?_
            refine ⟨_, out1 (r_tmp rfl (by constructor)), ?_⟩
            rfl
end Go.Proofs.Ytloigiieoehimaa.Abs
