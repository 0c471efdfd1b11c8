/- PDUs: PduSpoils. -/
import Derived.Test.YtfjlniemgmimnaaU9
set_option linter.unusedVariables false
set_option linter.unusedSimpArgs false
set_option maxRecDepth 100000
namespace Go.Proofs.Ytfjlniemgmimnaa.Abs
open Go Go.RowKit
theorem xor_8 {a b : Int} (ha : 0 ≤ a ∧ a ≤ 255) (hb : 0 ≤ b ∧ b < 256) (h0 : b ≠ 0) : (0 ≤ bits .xor .u8 a b ∧ bits .xor .u8 a b ≤ 255) ∧ bits .xor .u8 a b ≠ a := by
  obtain ⟨A, rfl⟩ := Int.eq_ofNat_of_zero_le ha.1
  obtain ⟨B, rfl⟩ := Int.eq_ofNat_of_zero_le hb.1
  rw [u8_xor_nat _ _ (by omega) (by omega)]
  have hx : A ^^^ B < 2 ^ 8 := Nat.xor_lt_two_pow (by omega) (by omega)
  refine ⟨by omega, fun h => h0 ?_⟩
  have h1 : A ^^^ B = A := by omega
  have h2 : A ^^^ (A ^^^ B) = B := by rw [← Nat.xor_assoc, Nat.xor_self, Nat.zero_xor]
  rw [h1, Nat.xor_self] at h2
  omega
theorem ByteL.set {xs : List Int} (h : ByteL xs) {i : Nat} {v : Int} (hv : 0 ≤ v ∧ v ≤ 255) : ByteL (xs.set i v) := fun x hx => by
  rcases List.mem_or_eq_of_mem_set hx with h1 | h1
  · exact h x h1
  · rw [h1]; exact hv
theorem ne_nil_map {xs : List Int} (h : 0 < xs.length) : xs.map (Value.int .u8) ≠ [] := by
  intro hc; rw [List.map_eq_nil_iff] at hc; rw [hc] at h; exact absurd h (by decide)
theorem spoils_call {H : Hp} {p : Pd} {x : Value} {at_ by_ : Int} (hp : p.wf) (hx : Sl H 1 p.data.length (p.data.map (Value.int .u8)) x) (hat : 0 ≤ at_ ∧ at_ < 65536) (hby : 0 ≤ by_ ∧ by_ < 256) :
    ACalls Try.prog 5 [.agg #[.int .u8 p.op, .int .u8 p.fl, .int .u8 p.res, .int .u8 p.st, .int .u8 p.lun, .int .u32 p.tag, .int .u32 p.w0, .int .u32 p.w1, .int .u32 p.w2, .int .u32 p.w3, .int .u32 p.w4, .int .u32 p.w5, .int .u32 p.w6, x], .int .u16 at_, .int .u8 by_] H (fun v _ => v = .bool true) := by
  refine acallsW Try.func5 f5_ok (Nat.le_of_ble_eq_true rfl) fun hw => ?_
  have st : Stt [] H H [] := Stt.start hw
  unfold f5c
  show AWl _ _ _ _ _
  refine aBoxN st rfl rfl (by repeat constructor) rfl fun b3 H1 st => ?_
  refine aN rfl rfl (by constructor) ?_
  refine sE ?_
  show AWl _ _ _ _ _
  refine aC (awake_call) fun v17 H2 ⟨hv, st1⟩ => ?_
  subst hv
  replace st := st.call st1 rfl
  clear st1
  refine aN rfl rfl (by constructor) ?_
  refine aN rfl rfl (by constructor) ?_
  refine gT rfl ?_
  refine aN rfl rfl (by constructor) ?_
  refine gT rfl ?_
  refine aN rfl rfl (by constructor) ?_
  refine aN rfl rfl (by constructor) ?_
  refine sE ?_
  show AW _ (.cond _ _ _) _ _ _
  refine cC' rfl (fun h3 => ?_) (fun h3 => ?_)
  · have h3q := h3; try simp only [decide_eq_true_eq, decide_eq_false_iff_not, beq_iff_eq, beq_eq_false_iff_ne, bne_iff_ne, bne_eq_false_iff_eq, ne_eq, Decidable.not_not, Bool.not_eq_true, Bool.not_eq_false, gt_iff_lt, ge_iff_le, Int.not_lt, Int.not_le] at h3q
    show AWl _ _ _ _ _
    refine aC (awake_call) fun v23 H4 ⟨hv, st1⟩ => ?_
    subst hv
    replace st := st.call st1 rfl
    clear st1
    refine aN rfl rfl (by constructor) ?_
    refine sE ?_
    refine ⟨_, out1 (r_tmp rfl (by constructor)), ?_⟩
    rfl
  · have h3q := h3; try simp only [decide_eq_true_eq, decide_eq_false_iff_not, beq_iff_eq, beq_eq_false_iff_ne, bne_iff_ne, bne_eq_false_iff_eq, ne_eq, Decidable.not_not, Bool.not_eq_true, Bool.not_eq_false, gt_iff_lt, ge_iff_le, Int.not_lt, Int.not_le] at h3q
    have h0 : by_ ≠ 0 := h3q
    show AWl _ _ _ _ _
    refine aLdA st 0 rfl rfl (by first | decide | simp [*]) (by repeat constructor) ?_
    refine aC (enc_call hp (st.slc hx)) fun v26 H5 ⟨ob26, hv, st1⟩ => ?_
    subst hv
    replace st := st.call st1 rfl
    clear st1
    refine aN rfl rfl (by constructor) ?_
    refine aExtA rfl rfl ?_
    refine aN rfl rfl (by constructor) ?_
    refine aMovA rfl ?_
    refine aN rfl rfl (by constructor) ?_
    refine sE ?_
    show AWl _ _ _ _ _
    refine aN rfl rfl (by constructor) ?_
    refine aN rfl rfl (by constructor) ?_
    refine sE ?_
    show AW _ (.cond _ _ _) _ _ _
    refine cC' rfl (fun h6 => ?_) (fun h6 => ?_)
    · have h6q := h6; try simp only [decide_eq_true_eq, decide_eq_false_iff_not, beq_iff_eq, beq_eq_false_iff_ne, bne_iff_ne, bne_eq_false_iff_eq, ne_eq, Decidable.not_not, Bool.not_eq_true, Bool.not_eq_false, gt_iff_lt, ge_iff_le, Int.not_lt, Int.not_le] at h6q
      have hE : encE p = 2 := by have hq := h6q; unfold encE at hq ⊢; split; rfl; rename_i hc; exact absurd (if_neg hc) hq
      show AWl _ _ _ _ _
      refine aN rfl rfl (by constructor) ?_
      refine aBinV (.bool true) (u := .int .i64 (encE p)) (u' := .int .i64 2) rfl rfl (by rw [hE]; rfl) ?_
      refine aN rfl rfl (by constructor) ?_
      refine sE ?_
      refine ⟨_, out1 (r_tmp rfl (by constructor)), ?_⟩
      rfl
    · have h6q := h6; try simp only [decide_eq_true_eq, decide_eq_false_iff_not, beq_iff_eq, beq_eq_false_iff_ne, bne_iff_ne, bne_eq_false_iff_eq, ne_eq, Decidable.not_not, Bool.not_eq_true, Bool.not_eq_false, gt_iff_lt, ge_iff_le, Int.not_lt, Int.not_le] at h6q
      have hE : encE p = 0 := h6q
      have hn : p.data.length ≤ 8192 := by unfold encE at hE; split at hE; exact absurd hE (by decide); omega
      have e1 : encR p true true = encB p true true := if_neg (by omega)
      rw [e1] at st ⊢
      have hle := encB_le hn true true
      have hpos : 0 < (encB p true true).length := by rw [enc_len hp hn]; unfold endN; have := atN_le true; omega
      obtain ⟨b0, rfl⟩ := st.isSome 0 rfl (ne_nil_map hpos)
      show AWl _ _ _ _ _
      refine aN rfl rfl (by constructor) ?_
      refine aN rfl rfl (by constructor) ?_
      refine aN rfl rfl (by constructor) ?_
      refine aN rfl rfl (by constructor) ?_
      refine aN rfl (e_rem rfl rfl (by omega)) (by constructor) ?_
      obtain ⟨k, hk, hkl⟩ : ∃ k : Nat, (IntKind.i64.wrap at_).tmod ((encB p true true).length : Int) = k ∧ k < (encB p true true).length := by
        rw [wi _ (by omega), Int.tmod_eq_emod_of_nonneg (by omega)]
        have h1 := Int.emod_nonneg at_ (b := ((encB p true true).length : Int)) (by omega)
        have h2 := Int.emod_lt_of_pos at_ (b := ((encB p true true).length : Int)) (by omega)
        exact ⟨(at_ % ((encB p true true).length : Int)).toNat, by omega, by omega⟩
      rw [hk]
      have hx8 := xor_8 ((encB_bytes hp true true).getD k) hby h0
      refine aN rfl rfl (by constructor) ?_
      refine sE ?_
      show AWl _ _ _ _ _
      refine aN rfl rfl (by constructor) ?_
      refine sE ?_
      show AWl _ _ _ _ _
      refine aN rfl rfl (by constructor) ?_
      refine aN rfl rfl (by constructor) ?_
      have st := st.nil 5
      have hnil : (Value.slice none 0 0) = accV none 0 1 := rfl
      refine aAppP st 0 (ob := none) (n := 0) rfl rfl rfl (by decide) (rfl) (st.rowAll 1 rfl (by simp)).src (by simp) (by omega) (by omega) (by omega) (NfL.any _) fun b40 H7 st => ?_
      rw [show 0 + (encB p true true).length = (encB p true true).length from Nat.zero_add _]
      refine aN rfl rfl (by constructor) ?_
      refine sE ?_
      show AWl _ _ _ _ _
      refine aN rfl rfl (by constructor) ?_
      refine aN rfl rfl (by constructor) ?_
      refine aN rfl rfl (by constructor) ?_
      refine aN rfl rfl (by constructor) ?_
      refine aIxB (st.rowAll 0 rfl (by simp)) rfl rfl (by omega) fun b45 o45 g45 => ?_
      refine aLdG rfl g45 ?_
      refine aN rfl rfl (by constructor) ?_
      refine aN rfl rfl (by constructor) ?_
      refine aIxL rfl rfl (by omega) ?_
      refine aStAt st 0 rfl rfl rfl rfl rfl (by simp; omega) (cs := ((encB p true true).set k (bits .xor .u8 ((encB p true true).getD k 0) by_)).map (Value.int .u8)) (by rw [List.map_set, show 0 + ((k : Nat) : Int).toNat * 1 = k by omega]; rfl) fun H8 st => ?_
      refine sE ?_
      show AWl _ _ _ _ _
      refine aN rfl rfl (by constructor) ?_
      refine aC (pdec_call (xs := (encB p true true).set k (bits .xor .u8 ((encB p true true).getD k 0) by_)) (by rw [List.length_set]; exact (st.rowAll (n := (encB p true true).length) (sz := 1) 0 rfl (by simp))) ((encB_bytes hp true true).set hx8.1) (by rw [List.length_set]; omega)) fun v52 H9 ⟨ob52, hv, st1⟩ => ?_
      subst hv
      replace st := st.call st1 rfl
      clear st1
      have s5 := enc_spoil hp hn hkl hx8.1 hx8.2
      refine aN rfl rfl (by constructor) ?_
      refine aN rfl rfl (by constructor) ?_
      refine aN rfl rfl (by constructor) ?_
      refine aN rfl rfl (by constructor) ?_
      refine aNewP st rfl rfl (by repeat constructor) fun b11 H10 st => ?_
      refine aSt st 0 rfl rfl rfl rfl (by first | rfl | simp [cellsOf, *]) (by first | decide | simp [*]) (by repeat constructor) fun H11 st => ?_
      refine aN rfl rfl (by constructor) ?_
      refine aN rfl rfl (by constructor) ?_
      refine sE ?_
      show AWl _ _ _ _ _
      refine aN rfl rfl (by constructor) ?_
      refine aN rfl rfl (by constructor) ?_
      refine aCutH (st.rowAll 3 rfl (by simp)) rfl rfl (by omega) fun v59 s59 => ?_
      refine aC (pdec_call (xs := (encB p true true).take k) (by rw [show ((encB p true true).take k).length = k by rw [List.length_take]; omega]; exact (s59 _ (st.rowAll 3 rfl (by simp)))) ((encB_bytes hp true true).take k) (by rw [List.length_take]; omega)) fun v60 H12 ⟨ob60, hv, st1⟩ => ?_
      subst hv
      replace st := st.call st1 rfl
      clear st1
      have c8 := enc_cut hp hn hkl
      refine aN rfl rfl (by constructor) ?_
      refine aN rfl rfl (by constructor) ?_
      refine aN rfl rfl (by constructor) ?_
      refine aN rfl rfl (by constructor) ?_
      refine aNewP st rfl rfl (by repeat constructor) fun b14 H13 st => ?_
      refine aSt st 0 rfl rfl rfl rfl (by first | rfl | simp [cellsOf, *]) (by first | decide | simp [*]) (by repeat constructor) fun H14 st => ?_
      refine aN rfl rfl (by constructor) ?_
      refine aN rfl rfl (by constructor) ?_
      refine sE ?_
      show AWl _ _ _ _ _
      refine aN rfl rfl (by constructor) ?_
      refine aBinV (.bool true) (u := .int .i64 (decE ((encB p true true).set k (bits .xor .u8 ((encB p true true).getD k 0) by_)) true true)) (u' := .int .i64 5) rfl rfl (by rw [s5]; rfl) ?_
      refine aN rfl rfl (by constructor) ?_
      refine gT rfl ?_
      refine aN rfl rfl (by constructor) ?_
      refine gT rfl ?_
      refine aBinV (.bool true) (u := .int .i64 (decE ((encB p true true).take k) true true)) (u' := .int .i64 8) rfl rfl (by rw [c8]; rfl) ?_
      refine aN rfl rfl (by constructor) ?_
      refine aN rfl rfl (by constructor) ?_
      refine sE ?_
      refine ⟨_, out1 (r_tmp rfl (by constructor)), ?_⟩
      rfl
end Go.Proofs.Ytfjlniemgmimnaa.Abs
