/- Sense: field. -/
import Derived.Test.YtloigiieoehimaaE1
set_option linter.unusedVariables false
set_option linter.unusedSimpArgs false
set_option maxRecDepth 100000
namespace Go.Proofs.Ytloigiieoehimaa.Abs
open Go Go.RowKit
theorem u64id {n : Int} (h : 0 ≤ n ∧ n < 18446744073709551616) : IntKind.u64.wrap n = n := by rw [w64]; omega
theorem sen16 {n : Int} : n.fdiv (2 ^ min (8 : Int).toNat IntKind.u16.bits) = n / 256 := by rw [shr_eq]; rfl
theorem sen16b {n : Int} : n.fdiv (2 ^ min 8 IntKind.u16.bits) = n / 256 := sen16
theorem or240 : bits BinOp.or IntKind.u8 112 128 = 240 := by decide
theorem wi20 : IntKind.i64.wrap 20 = 20 ∧ IntKind.i64.wrap 12 = 12 ∧ IntKind.i64.wrap 8 = 8 ∧ IntKind.i64.wrap 0 = 0 := by decide
theorem sen8 {n : Int} (h : 0 ≤ n ∧ n < 65536) : n / 256 % 256 = n / 256 := by omega
theorem rkey_call {H : Hp} {s : Sn} (hk : 0 ≤ s.fld ∧ s.fld ≤ 65535 ∧ -1 ≤ s.bit ∧ s.bit ≤ 7) :
    ACalls Try.prog 22 [.agg #[.int .u8 s.key, .int .u16 s.code, .int .u64 s.info, .bool s.hi, .int .i64 s.fld, .int .i64 s.bit, .bool s.hf, .bool s.ic]] H (fun v H' => ∃ b, v = .slice (some ⟨b, 0, none⟩) 3 1 ∧ Stt [] H H' [⟨some b, true, ⟨true, 5, (keyB s).map (Value.int .u8)⟩⟩]) := by
  refine acallsW Try.func22 f22_ok (Nat.le_of_ble_eq_true rfl) fun hw => ?_
  have st : Stt [] H H [] := Stt.start hw
  unfold f22c
  show AWl _ _ _ _ _
  refine aBoxN st rfl rfl (by repeat constructor) rfl fun b1 H1 st => ?_
  refine aN rfl rfl (by constructor) ?_
  refine sE ?_
  show AWl _ _ _ _ _
  refine aN rfl rfl (by constructor) ?_
  refine sE ?_
  show AWl _ _ _ _ _
  refine aN rfl rfl (by constructor) ?_
  refine aLd st 0 rfl rfl rfl (by constructor) ?_
  refine sE ?_
  show AW _ (.cond _ _ _) _ _ _
  refine cC' rfl (fun h2 => ?_) (fun h2 => ?_)
  · show AWl _ _ _ _ _
    refine aN rfl rfl (by constructor) ?_
    refine aN rfl rfl (by constructor) ?_
    refine aN rfl rfl (by constructor) ?_
    refine sE ?_
    show AWl _ _ _ _ _
    refine aN rfl rfl (by constructor) ?_
    refine aLd st 0 rfl rfl rfl (by constructor) ?_
    refine aN rfl rfl (by constructor) ?_
    refine sE ?_
    show AW _ (.cond _ _ _) _ _ _
    refine cC' rfl (fun h3 => ?_) (fun h3 => ?_)
    · show AWl _ _ _ _ _
      refine aN rfl rfl (by constructor) ?_
      refine aN rfl rfl (by constructor) ?_
      refine aLd st 0 rfl rfl rfl (by constructor) ?_
      refine aN rfl rfl (by constructor) ?_
      refine aN rfl rfl (by constructor) ?_
      refine aN rfl rfl (by constructor) ?_
      refine sE ?_
      show AWl _ _ _ _ _
      refine aN rfl rfl (by constructor) ?_
      refine aN rfl rfl (by constructor) ?_
      refine aN rfl rfl (by constructor) ?_
      refine aLd st 0 rfl rfl rfl (by constructor) ?_
      refine aN rfl rfl (by constructor) ?_
      refine aN rfl rfl (by constructor) ?_
      refine aN rfl rfl (by constructor) ?_
      refine aLd st 0 rfl rfl rfl (by constructor) ?_
      refine aN rfl rfl (by constructor) ?_
      refine aN rfl rfl (by constructor) ?_
      refine aLit st rfl (by repeat constructor) fun b26 H4 st => ?_
      refine aN rfl rfl (by constructor) ?_
      refine sE ?_
      refine ⟨_, out1 (r_tmp rfl (by constructor)), ?_⟩
      have st2 := (st.pick 0 rfl).toI 0 rfl rfl (by repeat constructor)
      refine ⟨b26, rfl, ?_⟩
      have c2 : (0 ≤ s.bit) := of_decide_eq_true h3
      have d1 : IntKind.u8.wrap (IntKind.i64.wrap (s.fld.tdiv 256)) = s.fld / 256 := by rw [Int.tdiv_eq_ediv_of_nonneg (by omega), wi _ (by omega), w8]; omega
      have d2 : IntKind.u8.wrap (s.fld.tmod 256) = s.fld % 256 := by rw [Int.tmod_eq_emod_of_nonneg (by omega), w8]; omega
      rw [d1, d2] at st2
      have e : keyB s = [200 + s.bit, s.fld / 256, s.fld % 256] := by unfold keyB; rw [if_pos (h2), if_pos c2]; congr 1 <;> omega
      rw [wi (128 + 64) (by omega), wi (8 + s.bit) (by omega), wi _ (by omega), w8, show (128 + 64 + (8 + s.bit)) % 256 = 200 + s.bit by omega] at st2
      rw [e]; exact st2
    · show AWl _ _ _ _ _
      refine aN rfl rfl (by constructor) ?_
      refine aN rfl rfl (by constructor) ?_
      refine aN rfl rfl (by constructor) ?_
      refine aLd st 0 rfl rfl rfl (by constructor) ?_
      refine aN rfl rfl (by constructor) ?_
      refine aN rfl rfl (by constructor) ?_
      refine aN rfl rfl (by constructor) ?_
      refine aLd st 0 rfl rfl rfl (by constructor) ?_
      refine aN rfl rfl (by constructor) ?_
      refine aN rfl rfl (by constructor) ?_
      refine aLit st rfl (by repeat constructor) fun b26 H5 st => ?_
      refine aN rfl rfl (by constructor) ?_
      refine sE ?_
      refine ⟨_, out1 (r_tmp rfl (by constructor)), ?_⟩
      have st2 := (st.pick 0 rfl).toI 0 rfl rfl (by repeat constructor)
      refine ⟨b26, rfl, ?_⟩
      have c2 : ¬ (0 ≤ s.bit) := of_decide_eq_false h3
      have d1 : IntKind.u8.wrap (IntKind.i64.wrap (s.fld.tdiv 256)) = s.fld / 256 := by rw [Int.tdiv_eq_ediv_of_nonneg (by omega), wi _ (by omega), w8]; omega
      have d2 : IntKind.u8.wrap (s.fld.tmod 256) = s.fld % 256 := by rw [Int.tmod_eq_emod_of_nonneg (by omega), w8]; omega
      rw [d1, d2] at st2
      have e : keyB s = [192, s.fld / 256, s.fld % 256] := by unfold keyB; rw [if_pos (h2), if_neg c2]; congr 1 <;> omega
      rw [e]; exact st2
  · show AWl _ _ _ _ _
    refine aN rfl rfl (by constructor) ?_
    refine aLd st 0 rfl rfl rfl (by constructor) ?_
    refine aN rfl rfl (by constructor) ?_
    refine sE ?_
    show AW _ (.cond _ _ _) _ _ _
    refine cC' rfl (fun h6 => ?_) (fun h6 => ?_)
    · show AWl _ _ _ _ _
      refine aN rfl rfl (by constructor) ?_
      refine aN rfl rfl (by constructor) ?_
      refine aLd st 0 rfl rfl rfl (by constructor) ?_
      refine aN rfl rfl (by constructor) ?_
      refine aN rfl rfl (by constructor) ?_
      refine aN rfl rfl (by constructor) ?_
      refine sE ?_
      show AWl _ _ _ _ _
      refine aN rfl rfl (by constructor) ?_
      refine aN rfl rfl (by constructor) ?_
      refine aN rfl rfl (by constructor) ?_
      refine aLd st 0 rfl rfl rfl (by constructor) ?_
      refine aN rfl rfl (by constructor) ?_
      refine aN rfl rfl (by constructor) ?_
      refine aN rfl rfl (by constructor) ?_
      refine aLd st 0 rfl rfl rfl (by constructor) ?_
      refine aN rfl rfl (by constructor) ?_
      refine aN rfl rfl (by constructor) ?_
      refine aLit st rfl (by repeat constructor) fun b26 H7 st => ?_
      refine aN rfl rfl (by constructor) ?_
      refine sE ?_
      refine ⟨_, out1 (r_tmp rfl (by constructor)), ?_⟩
      have st2 := (st.pick 0 rfl).toI 0 rfl rfl (by repeat constructor)
      refine ⟨b26, rfl, ?_⟩
      have c2 : (0 ≤ s.bit) := of_decide_eq_true h6
      have d1 : IntKind.u8.wrap (IntKind.i64.wrap (s.fld.tdiv 256)) = s.fld / 256 := by rw [Int.tdiv_eq_ediv_of_nonneg (by omega), wi _ (by omega), w8]; omega
      have d2 : IntKind.u8.wrap (s.fld.tmod 256) = s.fld % 256 := by rw [Int.tmod_eq_emod_of_nonneg (by omega), w8]; omega
      rw [d1, d2] at st2
      have e : keyB s = [136 + s.bit, s.fld / 256, s.fld % 256] := by unfold keyB; rw [if_neg (by simp [h2]), if_pos c2]; congr 1 <;> omega
      rw [wi (8 + s.bit) (by omega), wi _ (by omega), w8, show (128 + (8 + s.bit)) % 256 = 136 + s.bit by omega] at st2
      rw [e]; exact st2
    · show AWl _ _ _ _ _
      refine aN rfl rfl (by constructor) ?_
      refine aN rfl rfl (by constructor) ?_
      refine aN rfl rfl (by constructor) ?_
      refine aLd st 0 rfl rfl rfl (by constructor) ?_
      refine aN rfl rfl (by constructor) ?_
      refine aN rfl rfl (by constructor) ?_
      refine aN rfl rfl (by constructor) ?_
      refine aLd st 0 rfl rfl rfl (by constructor) ?_
      refine aN rfl rfl (by constructor) ?_
      refine aN rfl rfl (by constructor) ?_
      refine aLit st rfl (by repeat constructor) fun b26 H8 st => ?_
      refine aN rfl rfl (by constructor) ?_
      refine sE ?_
      refine ⟨_, out1 (r_tmp rfl (by constructor)), ?_⟩
      have st2 := (st.pick 0 rfl).toI 0 rfl rfl (by repeat constructor)
      refine ⟨b26, rfl, ?_⟩
      have c2 : ¬ (0 ≤ s.bit) := of_decide_eq_false h6
      have d1 : IntKind.u8.wrap (IntKind.i64.wrap (s.fld.tdiv 256)) = s.fld / 256 := by rw [Int.tdiv_eq_ediv_of_nonneg (by omega), wi _ (by omega), w8]; omega
      have d2 : IntKind.u8.wrap (s.fld.tmod 256) = s.fld % 256 := by rw [Int.tmod_eq_emod_of_nonneg (by omega), w8]; omega
      rw [d1, d2] at st2
      have e : keyB s = [128, s.fld / 256, s.fld % 256] := by unfold keyB; rw [if_neg (by simp [h2]), if_neg c2]; congr 1 <;> omega
      rw [e]; exact st2
end Go.Proofs.Ytloigiieoehimaa.Abs
