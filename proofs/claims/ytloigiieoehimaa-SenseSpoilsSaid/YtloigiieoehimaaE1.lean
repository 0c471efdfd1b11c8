/- Sense: form, key. -/
import Derived.Test.YtloigiieoehimaaE0
set_option linter.unusedVariables false
set_option linter.unusedSimpArgs false
set_option maxRecDepth 100000
namespace Go.Proofs.Ytloigiieoehimaa.Abs
open Go Go.RowKit
theorem form_call {H : Hp} {s : Sn} (hs : s.wf) :
    ACalls Try.prog 13 [.agg #[.int .u8 s.key, .int .u16 s.code, .int .u64 s.info, .bool s.hi, .int .i64 s.fld, .int .i64 s.bit, .bool s.hf, .bool s.ic]] H (fun v H' => v = .bool (formS s) ∧ Stt [] H H' []) := by
  refine acallsW Try.func13 f13_ok (Nat.le_of_ble_eq_true rfl) fun hw => ?_
  have st : Stt [] H H [] := Stt.start hw
  unfold f13c
  show AWl _ _ _ _ _
  refine aBoxN st rfl rfl (by repeat constructor) rfl fun b1 H1 st => ?_
  refine aN rfl rfl (by constructor) ?_
  refine sE ?_
  show AWl _ _ _ _ _
  refine aN rfl rfl (by constructor) ?_
  refine aLd st 0 rfl rfl rfl (by constructor) ?_
  refine aN rfl rfl (by constructor) ?_
  refine aN rfl rfl (by constructor) ?_
  refine sE ?_
  show AW _ (.cond _ _ _) _ _ _
  refine cC' rfl (fun h2 => ?_) (fun h2 => ?_)
  · show AW _ (.cond _ _ _) _ _ _
    refine cT rfl ?_
    show AWl _ _ _ _ _
    refine aN rfl rfl (by constructor) ?_
    refine sE ?_
    refine ⟨_, out1 (r_tmp rfl (by constructor)), ?_⟩
    simp only [decide_eq_true_eq, decide_eq_false_iff_not, beq_iff_eq, beq_eq_false_iff_ne, bne_iff_ne, bne_eq_false_iff_eq, ne_eq, Decidable.not_not, Bool.not_eq_true, Bool.not_eq_false, gt_iff_lt, ge_iff_le, Int.not_lt, Int.not_le] at h2
    refine ⟨congrArg Value.bool ?_, st.drop⟩
    rw [Bool.eq_iff_iff]
    unfold formS
    repeat' split
    all_goals simp only [decide_eq_true_eq, Bool.false_eq_true, Bool.not_eq_true, false_iff, iff_false, true_iff, iff_true]
    all_goals first | omega | (simp_all; done) | (simp_all; omega)
  · show AWl _ _ _ _ _
    refine aN rfl rfl (by constructor) ?_
    refine aLd st 0 rfl rfl rfl (by constructor) ?_
    refine aN rfl rfl (by constructor) ?_
    refine aN rfl rfl (by constructor) ?_
    refine gCase 10 rfl (fun h3 => ?_) (fun h3 => ?_)
    · have h3n : s.hi = false := by simpa using h3
      refine gT rfl ?_
      refine aN rfl rfl (by constructor) ?_
      refine gT rfl ?_
      refine aLd st 0 rfl rfl rfl (by constructor) ?_
      refine gT rfl ?_
      refine aN rfl rfl (by constructor) ?_
      refine aN rfl rfl (by constructor) ?_
      refine aN rfl rfl (by constructor) ?_
      refine sE ?_
      show AW _ (.cond _ _ _) _ _ _
      refine cC' rfl (fun h4 => ?_) (fun h4 => ?_)
      · show AWl _ _ _ _ _
        refine aN rfl rfl (by constructor) ?_
        refine sE ?_
        refine ⟨_, out1 (r_tmp rfl (by constructor)), ?_⟩
        simp only [decide_eq_true_eq, decide_eq_false_iff_not, beq_iff_eq, beq_eq_false_iff_ne, bne_iff_ne, bne_eq_false_iff_eq, ne_eq, Decidable.not_not, Bool.not_eq_true, Bool.not_eq_false, gt_iff_lt, ge_iff_le, Int.not_lt, Int.not_le] at h2 h3 h4
        refine ⟨congrArg Value.bool ?_, st.drop⟩
        rw [Bool.eq_iff_iff]
        unfold formS
        repeat' split
        all_goals simp only [decide_eq_true_eq, Bool.false_eq_true, Bool.not_eq_true, false_iff, iff_false, true_iff, iff_true]
        all_goals first | omega | (simp_all; done) | (simp_all; omega)
      · show AWl _ _ _ _ _
        refine aN rfl rfl (by constructor) ?_
        refine aLd st 0 rfl rfl rfl (by constructor) ?_
        refine aN rfl rfl (by constructor) ?_
        refine aN rfl rfl (by constructor) ?_
        refine sE ?_
        show AW _ (.cond _ _ _) _ _ _
        refine cC' rfl (fun h5 => ?_) (fun h5 => ?_)
        · have h5n : s.hf = false := by simpa using h5
          show AWl _ _ _ _ _
          refine aN rfl rfl (by constructor) ?_
          refine aLd st 0 rfl rfl rfl (by constructor) ?_
          refine aN rfl rfl (by constructor) ?_
          refine aN rfl rfl (by constructor) ?_
          refine gCase 22 rfl (fun h6 => ?_) (fun h6 => ?_)
          · refine gT rfl ?_
            refine aN rfl rfl (by constructor) ?_
            refine gT rfl ?_
            refine aLd st 0 rfl rfl rfl (by constructor) ?_
            refine gT rfl ?_
            refine aN rfl rfl (by constructor) ?_
            refine aN rfl rfl (by constructor) ?_
            refine aN rfl rfl (by constructor) ?_
            refine gCase 27 rfl (fun h7 => ?_) (fun h7 => ?_)
            · refine gT rfl ?_
              refine aN rfl rfl (by constructor) ?_
              refine gT rfl ?_
              refine aLd st 0 rfl rfl rfl (by constructor) ?_
              refine gT rfl ?_
              refine aN rfl rfl (by constructor) ?_
              refine aN rfl rfl (by constructor) ?_
              refine aN rfl rfl (by constructor) ?_
              refine sE ?_
              refine ⟨_, out1 (r_tmp rfl (by constructor)), ?_⟩
              simp only [decide_eq_true_eq, decide_eq_false_iff_not, beq_iff_eq, beq_eq_false_iff_ne, bne_iff_ne, bne_eq_false_iff_eq, ne_eq, Decidable.not_not, Bool.not_eq_true, Bool.not_eq_false, gt_iff_lt, ge_iff_le, Int.not_lt, Int.not_le] at h2 h3 h4 h5 h6 h7
              refine ⟨congrArg Value.bool ?_, st.drop⟩
              rw [Bool.eq_iff_iff]
              unfold formS
              repeat' split
              all_goals simp only [decide_eq_true_eq, Bool.false_eq_true, Bool.not_eq_true, false_iff, iff_false, true_iff, iff_true]
              all_goals first | omega | (simp_all; done) | (simp_all; omega)
            · refine gF rfl (by decide) ?_
              refine gF rfl (by decide) ?_
              refine gF rfl (by decide) ?_
              refine aN rfl rfl (by constructor) ?_
              refine aN rfl rfl (by constructor) ?_
              refine sE ?_
              refine ⟨_, out1 (r_tmp rfl (by constructor)), ?_⟩
              simp only [decide_eq_true_eq, decide_eq_false_iff_not, beq_iff_eq, beq_eq_false_iff_ne, bne_iff_ne, bne_eq_false_iff_eq, ne_eq, Decidable.not_not, Bool.not_eq_true, Bool.not_eq_false, gt_iff_lt, ge_iff_le, Int.not_lt, Int.not_le] at h2 h3 h4 h5 h6 h7
              refine ⟨congrArg Value.bool ?_, st.drop⟩
              rw [Bool.eq_iff_iff]
              unfold formS
              repeat' split
              all_goals simp only [decide_eq_true_eq, Bool.false_eq_true, Bool.not_eq_true, false_iff, iff_false, true_iff, iff_true]
              all_goals first | omega | (simp_all; done) | (simp_all; omega)
          · refine gF rfl (by decide) ?_
            refine gF rfl (by decide) ?_
            refine gF rfl (by decide) ?_
            refine aN rfl rfl (by constructor) ?_
            refine aN rfl rfl (by constructor) ?_
            refine gF rfl (by decide) ?_
            refine gF rfl (by decide) ?_
            refine gF rfl (by decide) ?_
            refine aN rfl rfl (by constructor) ?_
            refine aN rfl rfl (by constructor) ?_
            refine sE ?_
            refine ⟨_, out1 (r_tmp rfl (by constructor)), ?_⟩
            simp only [decide_eq_true_eq, decide_eq_false_iff_not, beq_iff_eq, beq_eq_false_iff_ne, bne_iff_ne, bne_eq_false_iff_eq, ne_eq, Decidable.not_not, Bool.not_eq_true, Bool.not_eq_false, gt_iff_lt, ge_iff_le, Int.not_lt, Int.not_le] at h2 h3 h4 h5 h6
            refine ⟨congrArg Value.bool ?_, st.drop⟩
            rw [Bool.eq_iff_iff]
            unfold formS
            repeat' split
            all_goals simp only [decide_eq_true_eq, Bool.false_eq_true, Bool.not_eq_true, false_iff, iff_false, true_iff, iff_true]
            all_goals first | omega | (simp_all; done) | (simp_all; omega)
        · have h5n : s.hf = true := by simpa using h5
          show AWl _ _ _ _ _
          refine aN rfl rfl (by constructor) ?_
          refine aLd st 0 rfl rfl rfl (by constructor) ?_
          refine aN rfl rfl (by constructor) ?_
          refine aN rfl rfl (by constructor) ?_
          refine gCase 35 rfl (fun h8 => ?_) (fun h8 => ?_)
          · refine gT rfl ?_
            refine aN rfl rfl (by constructor) ?_
            refine gT rfl ?_
            refine aLd st 0 rfl rfl rfl (by constructor) ?_
            refine gT rfl ?_
            refine aN rfl rfl (by constructor) ?_
            refine aN rfl rfl (by constructor) ?_
            refine aN rfl rfl (by constructor) ?_
            refine gCase 40 rfl (fun h9 => ?_) (fun h9 => ?_)
            · refine gT rfl ?_
              refine aN rfl rfl (by constructor) ?_
              refine gT rfl ?_
              refine aLd st 0 rfl rfl rfl (by constructor) ?_
              refine gT rfl ?_
              refine aN rfl rfl (by constructor) ?_
              refine aN rfl rfl (by constructor) ?_
              refine aN rfl rfl (by constructor) ?_
              refine gCase 45 rfl (fun h10 => ?_) (fun h10 => ?_)
              · refine gT rfl ?_
                refine aN rfl rfl (by constructor) ?_
                refine gT rfl ?_
                refine aLd st 0 rfl rfl rfl (by constructor) ?_
                refine gT rfl ?_
                refine aN rfl rfl (by constructor) ?_
                refine aN rfl rfl (by constructor) ?_
                refine aN rfl rfl (by constructor) ?_
                refine sE ?_
                refine ⟨_, out1 (r_tmp rfl (by constructor)), ?_⟩
                simp only [decide_eq_true_eq, decide_eq_false_iff_not, beq_iff_eq, beq_eq_false_iff_ne, bne_iff_ne, bne_eq_false_iff_eq, ne_eq, Decidable.not_not, Bool.not_eq_true, Bool.not_eq_false, gt_iff_lt, ge_iff_le, Int.not_lt, Int.not_le] at h2 h3 h4 h5 h8 h9 h10
                refine ⟨congrArg Value.bool ?_, st.drop⟩
                rw [Bool.eq_iff_iff]
                unfold formS
                repeat' split
                all_goals simp only [decide_eq_true_eq, Bool.false_eq_true, Bool.not_eq_true, false_iff, iff_false, true_iff, iff_true]
                all_goals first | omega | (simp_all; done) | (simp_all; omega)
              · refine gF rfl (by decide) ?_
                refine gF rfl (by decide) ?_
                refine gF rfl (by decide) ?_
                refine aN rfl rfl (by constructor) ?_
                refine aN rfl rfl (by constructor) ?_
                refine sE ?_
                refine ⟨_, out1 (r_tmp rfl (by constructor)), ?_⟩
                simp only [decide_eq_true_eq, decide_eq_false_iff_not, beq_iff_eq, beq_eq_false_iff_ne, bne_iff_ne, bne_eq_false_iff_eq, ne_eq, Decidable.not_not, Bool.not_eq_true, Bool.not_eq_false, gt_iff_lt, ge_iff_le, Int.not_lt, Int.not_le] at h2 h3 h4 h5 h8 h9 h10
                refine ⟨congrArg Value.bool ?_, st.drop⟩
                rw [Bool.eq_iff_iff]
                unfold formS
                repeat' split
                all_goals simp only [decide_eq_true_eq, Bool.false_eq_true, Bool.not_eq_true, false_iff, iff_false, true_iff, iff_true]
                all_goals first | omega | (simp_all; done) | (simp_all; omega)
            · refine gF rfl (by decide) ?_
              refine gF rfl (by decide) ?_
              refine gF rfl (by decide) ?_
              refine aN rfl rfl (by constructor) ?_
              refine aN rfl rfl (by constructor) ?_
              refine gF rfl (by decide) ?_
              refine gF rfl (by decide) ?_
              refine gF rfl (by decide) ?_
              refine aN rfl rfl (by constructor) ?_
              refine aN rfl rfl (by constructor) ?_
              refine sE ?_
              refine ⟨_, out1 (r_tmp rfl (by constructor)), ?_⟩
              simp only [decide_eq_true_eq, decide_eq_false_iff_not, beq_iff_eq, beq_eq_false_iff_ne, bne_iff_ne, bne_eq_false_iff_eq, ne_eq, Decidable.not_not, Bool.not_eq_true, Bool.not_eq_false, gt_iff_lt, ge_iff_le, Int.not_lt, Int.not_le] at h2 h3 h4 h5 h8 h9
              refine ⟨congrArg Value.bool ?_, st.drop⟩
              rw [Bool.eq_iff_iff]
              unfold formS
              repeat' split
              all_goals simp only [decide_eq_true_eq, Bool.false_eq_true, Bool.not_eq_true, false_iff, iff_false, true_iff, iff_true]
              all_goals first | omega | (simp_all; done) | (simp_all; omega)
          · refine gF rfl (by decide) ?_
            refine gF rfl (by decide) ?_
            refine gF rfl (by decide) ?_
            refine aN rfl rfl (by constructor) ?_
            refine aN rfl rfl (by constructor) ?_
            refine gF rfl (by decide) ?_
            refine gF rfl (by decide) ?_
            refine gF rfl (by decide) ?_
            refine aN rfl rfl (by constructor) ?_
            refine aN rfl rfl (by constructor) ?_
            refine gF rfl (by decide) ?_
            refine gF rfl (by decide) ?_
            refine gF rfl (by decide) ?_
            refine aN rfl rfl (by constructor) ?_
            refine aN rfl rfl (by constructor) ?_
            refine sE ?_
            refine ⟨_, out1 (r_tmp rfl (by constructor)), ?_⟩
            simp only [decide_eq_true_eq, decide_eq_false_iff_not, beq_iff_eq, beq_eq_false_iff_ne, bne_iff_ne, bne_eq_false_iff_eq, ne_eq, Decidable.not_not, Bool.not_eq_true, Bool.not_eq_false, gt_iff_lt, ge_iff_le, Int.not_lt, Int.not_le] at h2 h3 h4 h5 h8
            refine ⟨congrArg Value.bool ?_, st.drop⟩
            rw [Bool.eq_iff_iff]
            unfold formS
            repeat' split
            all_goals simp only [decide_eq_true_eq, Bool.false_eq_true, Bool.not_eq_true, false_iff, iff_false, true_iff, iff_true]
            all_goals first | omega | (simp_all; done) | (simp_all; omega)
    · have h3n : s.hi = true := by simpa using h3
      refine gF rfl (by decide) ?_
      refine gF rfl (by decide) ?_
      refine gF rfl (by decide) ?_
      refine aN rfl rfl (by constructor) ?_
      refine aN rfl rfl (by constructor) ?_
      refine sE ?_
      show AW _ (.cond _ _ _) _ _ _
      refine cF' rfl ?_
      show AWl _ _ _ _ _
      refine aN rfl rfl (by constructor) ?_
      refine aLd st 0 rfl rfl rfl (by constructor) ?_
      refine aN rfl rfl (by constructor) ?_
      refine aN rfl rfl (by constructor) ?_
      refine sE ?_
      show AW _ (.cond _ _ _) _ _ _
      refine cC' rfl (fun h11 => ?_) (fun h11 => ?_)
      · have h11n : s.hf = false := by simpa using h11
        show AWl _ _ _ _ _
        refine aN rfl rfl (by constructor) ?_
        refine aLd st 0 rfl rfl rfl (by constructor) ?_
        refine aN rfl rfl (by constructor) ?_
        refine aN rfl rfl (by constructor) ?_
        refine gCase 22 rfl (fun h12 => ?_) (fun h12 => ?_)
        · refine gT rfl ?_
          refine aN rfl rfl (by constructor) ?_
          refine gT rfl ?_
          refine aLd st 0 rfl rfl rfl (by constructor) ?_
          refine gT rfl ?_
          refine aN rfl rfl (by constructor) ?_
          refine aN rfl rfl (by constructor) ?_
          refine aN rfl rfl (by constructor) ?_
          refine gCase 27 rfl (fun h13 => ?_) (fun h13 => ?_)
          · refine gT rfl ?_
            refine aN rfl rfl (by constructor) ?_
            refine gT rfl ?_
            refine aLd st 0 rfl rfl rfl (by constructor) ?_
            refine gT rfl ?_
            refine aN rfl rfl (by constructor) ?_
            refine aN rfl rfl (by constructor) ?_
            refine aN rfl rfl (by constructor) ?_
            refine sE ?_
            refine ⟨_, out1 (r_tmp rfl (by constructor)), ?_⟩
            simp only [decide_eq_true_eq, decide_eq_false_iff_not, beq_iff_eq, beq_eq_false_iff_ne, bne_iff_ne, bne_eq_false_iff_eq, ne_eq, Decidable.not_not, Bool.not_eq_true, Bool.not_eq_false, gt_iff_lt, ge_iff_le, Int.not_lt, Int.not_le] at h2 h3 h11 h12 h13
            refine ⟨congrArg Value.bool ?_, st.drop⟩
            rw [Bool.eq_iff_iff]
            unfold formS
            repeat' split
            all_goals simp only [decide_eq_true_eq, Bool.false_eq_true, Bool.not_eq_true, false_iff, iff_false, true_iff, iff_true]
            all_goals first | omega | (simp_all; done) | (simp_all; omega)
          · refine gF rfl (by decide) ?_
            refine gF rfl (by decide) ?_
            refine gF rfl (by decide) ?_
            refine aN rfl rfl (by constructor) ?_
            refine aN rfl rfl (by constructor) ?_
            refine sE ?_
            refine ⟨_, out1 (r_tmp rfl (by constructor)), ?_⟩
            simp only [decide_eq_true_eq, decide_eq_false_iff_not, beq_iff_eq, beq_eq_false_iff_ne, bne_iff_ne, bne_eq_false_iff_eq, ne_eq, Decidable.not_not, Bool.not_eq_true, Bool.not_eq_false, gt_iff_lt, ge_iff_le, Int.not_lt, Int.not_le] at h2 h3 h11 h12 h13
            refine ⟨congrArg Value.bool ?_, st.drop⟩
            rw [Bool.eq_iff_iff]
            unfold formS
            repeat' split
            all_goals simp only [decide_eq_true_eq, Bool.false_eq_true, Bool.not_eq_true, false_iff, iff_false, true_iff, iff_true]
            all_goals first | omega | (simp_all; done) | (simp_all; omega)
        · refine gF rfl (by decide) ?_
          refine gF rfl (by decide) ?_
          refine gF rfl (by decide) ?_
          refine aN rfl rfl (by constructor) ?_
          refine aN rfl rfl (by constructor) ?_
          refine gF rfl (by decide) ?_
          refine gF rfl (by decide) ?_
          refine gF rfl (by decide) ?_
          refine aN rfl rfl (by constructor) ?_
          refine aN rfl rfl (by constructor) ?_
          refine sE ?_
          refine ⟨_, out1 (r_tmp rfl (by constructor)), ?_⟩
          simp only [decide_eq_true_eq, decide_eq_false_iff_not, beq_iff_eq, beq_eq_false_iff_ne, bne_iff_ne, bne_eq_false_iff_eq, ne_eq, Decidable.not_not, Bool.not_eq_true, Bool.not_eq_false, gt_iff_lt, ge_iff_le, Int.not_lt, Int.not_le] at h2 h3 h11 h12
          refine ⟨congrArg Value.bool ?_, st.drop⟩
          rw [Bool.eq_iff_iff]
          unfold formS
          repeat' split
          all_goals simp only [decide_eq_true_eq, Bool.false_eq_true, Bool.not_eq_true, false_iff, iff_false, true_iff, iff_true]
          all_goals first | omega | (simp_all; done) | (simp_all; omega)
      · have h11n : s.hf = true := by simpa using h11
        show AWl _ _ _ _ _
        refine aN rfl rfl (by constructor) ?_
        refine aLd st 0 rfl rfl rfl (by constructor) ?_
        refine aN rfl rfl (by constructor) ?_
        refine aN rfl rfl (by constructor) ?_
        refine gCase 35 rfl (fun h14 => ?_) (fun h14 => ?_)
        · refine gT rfl ?_
          refine aN rfl rfl (by constructor) ?_
          refine gT rfl ?_
          refine aLd st 0 rfl rfl rfl (by constructor) ?_
          refine gT rfl ?_
          refine aN rfl rfl (by constructor) ?_
          refine aN rfl rfl (by constructor) ?_
          refine aN rfl rfl (by constructor) ?_
          refine gCase 40 rfl (fun h15 => ?_) (fun h15 => ?_)
          · refine gT rfl ?_
            refine aN rfl rfl (by constructor) ?_
            refine gT rfl ?_
            refine aLd st 0 rfl rfl rfl (by constructor) ?_
            refine gT rfl ?_
            refine aN rfl rfl (by constructor) ?_
            refine aN rfl rfl (by constructor) ?_
            refine aN rfl rfl (by constructor) ?_
            refine gCase 45 rfl (fun h16 => ?_) (fun h16 => ?_)
            · refine gT rfl ?_
              refine aN rfl rfl (by constructor) ?_
              refine gT rfl ?_
              refine aLd st 0 rfl rfl rfl (by constructor) ?_
              refine gT rfl ?_
              refine aN rfl rfl (by constructor) ?_
              refine aN rfl rfl (by constructor) ?_
              refine aN rfl rfl (by constructor) ?_
              refine sE ?_
              refine ⟨_, out1 (r_tmp rfl (by constructor)), ?_⟩
              simp only [decide_eq_true_eq, decide_eq_false_iff_not, beq_iff_eq, beq_eq_false_iff_ne, bne_iff_ne, bne_eq_false_iff_eq, ne_eq, Decidable.not_not, Bool.not_eq_true, Bool.not_eq_false, gt_iff_lt, ge_iff_le, Int.not_lt, Int.not_le] at h2 h3 h11 h14 h15 h16
              refine ⟨congrArg Value.bool ?_, st.drop⟩
              rw [Bool.eq_iff_iff]
              unfold formS
              repeat' split
              all_goals simp only [decide_eq_true_eq, Bool.false_eq_true, Bool.not_eq_true, false_iff, iff_false, true_iff, iff_true]
              all_goals first | omega | (simp_all; done) | (simp_all; omega)
            · refine gF rfl (by decide) ?_
              refine gF rfl (by decide) ?_
              refine gF rfl (by decide) ?_
              refine aN rfl rfl (by constructor) ?_
              refine aN rfl rfl (by constructor) ?_
              refine sE ?_
              refine ⟨_, out1 (r_tmp rfl (by constructor)), ?_⟩
              simp only [decide_eq_true_eq, decide_eq_false_iff_not, beq_iff_eq, beq_eq_false_iff_ne, bne_iff_ne, bne_eq_false_iff_eq, ne_eq, Decidable.not_not, Bool.not_eq_true, Bool.not_eq_false, gt_iff_lt, ge_iff_le, Int.not_lt, Int.not_le] at h2 h3 h11 h14 h15 h16
              refine ⟨congrArg Value.bool ?_, st.drop⟩
              rw [Bool.eq_iff_iff]
              unfold formS
              repeat' split
              all_goals simp only [decide_eq_true_eq, Bool.false_eq_true, Bool.not_eq_true, false_iff, iff_false, true_iff, iff_true]
              all_goals first | omega | (simp_all; done) | (simp_all; omega)
          · refine gF rfl (by decide) ?_
            refine gF rfl (by decide) ?_
            refine gF rfl (by decide) ?_
            refine aN rfl rfl (by constructor) ?_
            refine aN rfl rfl (by constructor) ?_
            refine gF rfl (by decide) ?_
            refine gF rfl (by decide) ?_
            refine gF rfl (by decide) ?_
            refine aN rfl rfl (by constructor) ?_
            refine aN rfl rfl (by constructor) ?_
            refine sE ?_
            refine ⟨_, out1 (r_tmp rfl (by constructor)), ?_⟩
            simp only [decide_eq_true_eq, decide_eq_false_iff_not, beq_iff_eq, beq_eq_false_iff_ne, bne_iff_ne, bne_eq_false_iff_eq, ne_eq, Decidable.not_not, Bool.not_eq_true, Bool.not_eq_false, gt_iff_lt, ge_iff_le, Int.not_lt, Int.not_le] at h2 h3 h11 h14 h15
            refine ⟨congrArg Value.bool ?_, st.drop⟩
            rw [Bool.eq_iff_iff]
            unfold formS
            repeat' split
            all_goals simp only [decide_eq_true_eq, Bool.false_eq_true, Bool.not_eq_true, false_iff, iff_false, true_iff, iff_true]
            all_goals first | omega | (simp_all; done) | (simp_all; omega)
        · refine gF rfl (by decide) ?_
          refine gF rfl (by decide) ?_
          refine gF rfl (by decide) ?_
          refine aN rfl rfl (by constructor) ?_
          refine aN rfl rfl (by constructor) ?_
          refine gF rfl (by decide) ?_
          refine gF rfl (by decide) ?_
          refine gF rfl (by decide) ?_
          refine aN rfl rfl (by constructor) ?_
          refine aN rfl rfl (by constructor) ?_
          refine gF rfl (by decide) ?_
          refine gF rfl (by decide) ?_
          refine gF rfl (by decide) ?_
          refine aN rfl rfl (by constructor) ?_
          refine aN rfl rfl (by constructor) ?_
          refine sE ?_
          refine ⟨_, out1 (r_tmp rfl (by constructor)), ?_⟩
          simp only [decide_eq_true_eq, decide_eq_false_iff_not, beq_iff_eq, beq_eq_false_iff_ne, bne_iff_ne, bne_eq_false_iff_eq, ne_eq, Decidable.not_not, Bool.not_eq_true, Bool.not_eq_false, gt_iff_lt, ge_iff_le, Int.not_lt, Int.not_le] at h2 h3 h11 h14
          refine ⟨congrArg Value.bool ?_, st.drop⟩
          rw [Bool.eq_iff_iff]
          unfold formS
          repeat' split
          all_goals simp only [decide_eq_true_eq, Bool.false_eq_true, Bool.not_eq_true, false_iff, iff_false, true_iff, iff_true]
          all_goals first | omega | (simp_all; done) | (simp_all; omega)
theorem rform_call {H : Hp} {s : Sn} (hs : s.wf) :
    ACalls Try.prog 14 [.agg #[.int .u8 s.key, .int .u16 s.code, .int .u64 s.info, .bool s.hi, .int .i64 s.fld, .int .i64 s.bit, .bool s.hf, .bool s.ic]] H (fun v H' => v = .bool (formS s) ∧ Stt [] H H' []) := by
  refine acallsW Try.func14 f14_ok (Nat.le_of_ble_eq_true rfl) fun hw => ?_
  have st : Stt [] H H [] := Stt.start hw
  unfold f14c
  show AWl _ _ _ _ _
  refine aBoxN st rfl rfl (by repeat constructor) rfl fun b1 H1 st => ?_
  refine aN rfl rfl (by constructor) ?_
  refine sE ?_
  show AWl _ _ _ _ _
  refine aN rfl rfl (by constructor) ?_
  refine aLd st 0 rfl rfl rfl (by constructor) ?_
  refine aN rfl rfl (by constructor) ?_
  refine aN rfl rfl (by constructor) ?_
  refine gCase 6 rfl (fun h2 => ?_) (fun h2 => ?_)
  · refine gF rfl (by decide) ?_
    refine gF rfl (by decide) ?_
    refine gF rfl (by decide) ?_
    refine gF rfl (by decide) ?_
    refine gU rfl ?_
    refine gU rfl ?_
    refine gU rfl ?_
    refine gF rfl (by decide) ?_
    refine aN rfl rfl (by constructor) ?_
    refine sE ?_
    show AW _ (.cond _ _ _) _ _ _
    refine cT rfl ?_
    show AWl _ _ _ _ _
    refine aN rfl rfl (by constructor) ?_
    refine sE ?_
    refine ⟨_, out1 (r_tmp rfl (by constructor)), ?_⟩
    simp only [decide_eq_true_eq, decide_eq_false_iff_not, beq_iff_eq, beq_eq_false_iff_ne, bne_iff_ne, bne_eq_false_iff_eq, ne_eq, Decidable.not_not, Bool.not_eq_true, Bool.not_eq_false, gt_iff_lt, ge_iff_le, Int.not_lt, Int.not_le] at h2
    refine ⟨congrArg Value.bool ?_, st.drop⟩
    rw [Bool.eq_iff_iff]
    unfold formS
    repeat' split
    all_goals simp only [decide_eq_true_eq, Bool.false_eq_true, Bool.not_eq_true, false_iff, iff_false, true_iff, iff_true]
    all_goals first | omega | (simp_all; done) | (simp_all; omega)
  · refine gT rfl ?_
    refine aN rfl rfl (by constructor) ?_
    refine gT rfl ?_
    refine aLd st 0 rfl rfl rfl (by constructor) ?_
    refine gT rfl ?_
    refine aN rfl rfl (by constructor) ?_
    refine gT rfl ?_
    refine aN rfl rfl (by constructor) ?_
    refine gCase 10 rfl (fun h3 => ?_) (fun h3 => ?_)
    · have h3n : s.hi = false := by simpa using h3
      refine gT rfl ?_
      refine aN rfl rfl (by constructor) ?_
      refine gT rfl ?_
      refine aLd st 0 rfl rfl rfl (by constructor) ?_
      refine gT rfl ?_
      refine aN rfl rfl (by constructor) ?_
      refine gT rfl ?_
      refine aN rfl rfl (by constructor) ?_
      refine aN rfl rfl (by constructor) ?_
      refine sE ?_
      show AW _ (.cond _ _ _) _ _ _
      refine cC' rfl (fun h4 => ?_) (fun h4 => ?_)
      · show AWl _ _ _ _ _
        refine aN rfl rfl (by constructor) ?_
        refine sE ?_
        refine ⟨_, out1 (r_tmp rfl (by constructor)), ?_⟩
        simp only [decide_eq_true_eq, decide_eq_false_iff_not, beq_iff_eq, beq_eq_false_iff_ne, bne_iff_ne, bne_eq_false_iff_eq, ne_eq, Decidable.not_not, Bool.not_eq_true, Bool.not_eq_false, gt_iff_lt, ge_iff_le, Int.not_lt, Int.not_le] at h2 h3 h4
        refine ⟨congrArg Value.bool ?_, st.drop⟩
        rw [Bool.eq_iff_iff]
        unfold formS
        repeat' split
        all_goals simp only [decide_eq_true_eq, Bool.false_eq_true, Bool.not_eq_true, false_iff, iff_false, true_iff, iff_true]
        all_goals first | omega | (simp_all; done) | (simp_all; omega)
      · show AWl _ _ _ _ _
        refine aN rfl rfl (by constructor) ?_
        refine aLd st 0 rfl rfl rfl (by constructor) ?_
        refine sE ?_
        show AW _ (.cond _ _ _) _ _ _
        refine cC' rfl (fun h5 => ?_) (fun h5 => ?_)
        · show AWl _ _ _ _ _
          refine aN rfl rfl (by constructor) ?_
          refine aLd st 0 rfl rfl rfl (by constructor) ?_
          refine aN rfl rfl (by constructor) ?_
          refine aN rfl rfl (by constructor) ?_
          refine gCase 21 rfl (fun h6 => ?_) (fun h6 => ?_)
          · refine gT rfl ?_
            refine aN rfl rfl (by constructor) ?_
            refine gT rfl ?_
            refine aLd st 0 rfl rfl rfl (by constructor) ?_
            refine gT rfl ?_
            refine aN rfl rfl (by constructor) ?_
            refine aN rfl rfl (by constructor) ?_
            refine aN rfl rfl (by constructor) ?_
            refine gCase 26 rfl (fun h7 => ?_) (fun h7 => ?_)
            · refine gT rfl ?_
              refine aN rfl rfl (by constructor) ?_
              refine gT rfl ?_
              refine aLd st 0 rfl rfl rfl (by constructor) ?_
              refine gT rfl ?_
              refine aN rfl rfl (by constructor) ?_
              refine aN rfl rfl (by constructor) ?_
              refine aN rfl rfl (by constructor) ?_
              refine gCase 31 rfl (fun h8 => ?_) (fun h8 => ?_)
              · refine gT rfl ?_
                refine aN rfl rfl (by constructor) ?_
                refine gT rfl ?_
                refine aLd st 0 rfl rfl rfl (by constructor) ?_
                refine gT rfl ?_
                refine aN rfl rfl (by constructor) ?_
                refine aN rfl rfl (by constructor) ?_
                refine aN rfl rfl (by constructor) ?_
                refine sE ?_
                refine ⟨_, out1 (r_tmp rfl (by constructor)), ?_⟩
                simp only [decide_eq_true_eq, decide_eq_false_iff_not, beq_iff_eq, beq_eq_false_iff_ne, bne_iff_ne, bne_eq_false_iff_eq, ne_eq, Decidable.not_not, Bool.not_eq_true, Bool.not_eq_false, gt_iff_lt, ge_iff_le, Int.not_lt, Int.not_le] at h2 h3 h4 h5 h6 h7 h8
                refine ⟨congrArg Value.bool ?_, st.drop⟩
                rw [Bool.eq_iff_iff]
                unfold formS
                repeat' split
                all_goals simp only [decide_eq_true_eq, Bool.false_eq_true, Bool.not_eq_true, false_iff, iff_false, true_iff, iff_true]
                all_goals first | omega | (simp_all; done) | (simp_all; omega)
              · refine gF rfl (by decide) ?_
                refine gF rfl (by decide) ?_
                refine gF rfl (by decide) ?_
                refine aN rfl rfl (by constructor) ?_
                refine aN rfl rfl (by constructor) ?_
                refine sE ?_
                refine ⟨_, out1 (r_tmp rfl (by constructor)), ?_⟩
                simp only [decide_eq_true_eq, decide_eq_false_iff_not, beq_iff_eq, beq_eq_false_iff_ne, bne_iff_ne, bne_eq_false_iff_eq, ne_eq, Decidable.not_not, Bool.not_eq_true, Bool.not_eq_false, gt_iff_lt, ge_iff_le, Int.not_lt, Int.not_le] at h2 h3 h4 h5 h6 h7 h8
                refine ⟨congrArg Value.bool ?_, st.drop⟩
                rw [Bool.eq_iff_iff]
                unfold formS
                repeat' split
                all_goals simp only [decide_eq_true_eq, Bool.false_eq_true, Bool.not_eq_true, false_iff, iff_false, true_iff, iff_true]
                all_goals first | omega | (simp_all; done) | (simp_all; omega)
            · refine gF rfl (by decide) ?_
              refine gF rfl (by decide) ?_
              refine gF rfl (by decide) ?_
              refine aN rfl rfl (by constructor) ?_
              refine aN rfl rfl (by constructor) ?_
              refine gF rfl (by decide) ?_
              refine gF rfl (by decide) ?_
              refine gF rfl (by decide) ?_
              refine aN rfl rfl (by constructor) ?_
              refine aN rfl rfl (by constructor) ?_
              refine sE ?_
              refine ⟨_, out1 (r_tmp rfl (by constructor)), ?_⟩
              simp only [decide_eq_true_eq, decide_eq_false_iff_not, beq_iff_eq, beq_eq_false_iff_ne, bne_iff_ne, bne_eq_false_iff_eq, ne_eq, Decidable.not_not, Bool.not_eq_true, Bool.not_eq_false, gt_iff_lt, ge_iff_le, Int.not_lt, Int.not_le] at h2 h3 h4 h5 h6 h7
              refine ⟨congrArg Value.bool ?_, st.drop⟩
              rw [Bool.eq_iff_iff]
              unfold formS
              repeat' split
              all_goals simp only [decide_eq_true_eq, Bool.false_eq_true, Bool.not_eq_true, false_iff, iff_false, true_iff, iff_true]
              all_goals first | omega | (simp_all; done) | (simp_all; omega)
          · refine gF rfl (by decide) ?_
            refine gF rfl (by decide) ?_
            refine gF rfl (by decide) ?_
            refine aN rfl rfl (by constructor) ?_
            refine aN rfl rfl (by constructor) ?_
            refine gF rfl (by decide) ?_
            refine gF rfl (by decide) ?_
            refine gF rfl (by decide) ?_
            refine aN rfl rfl (by constructor) ?_
            refine aN rfl rfl (by constructor) ?_
            refine gF rfl (by decide) ?_
            refine gF rfl (by decide) ?_
            refine gF rfl (by decide) ?_
            refine aN rfl rfl (by constructor) ?_
            refine aN rfl rfl (by constructor) ?_
            refine sE ?_
            refine ⟨_, out1 (r_tmp rfl (by constructor)), ?_⟩
            simp only [decide_eq_true_eq, decide_eq_false_iff_not, beq_iff_eq, beq_eq_false_iff_ne, bne_iff_ne, bne_eq_false_iff_eq, ne_eq, Decidable.not_not, Bool.not_eq_true, Bool.not_eq_false, gt_iff_lt, ge_iff_le, Int.not_lt, Int.not_le] at h2 h3 h4 h5 h6
            refine ⟨congrArg Value.bool ?_, st.drop⟩
            rw [Bool.eq_iff_iff]
            unfold formS
            repeat' split
            all_goals simp only [decide_eq_true_eq, Bool.false_eq_true, Bool.not_eq_true, false_iff, iff_false, true_iff, iff_true]
            all_goals first | omega | (simp_all; done) | (simp_all; omega)
        · show AWl _ _ _ _ _
          refine aN rfl rfl (by constructor) ?_
          refine aLd st 0 rfl rfl rfl (by constructor) ?_
          refine aN rfl rfl (by constructor) ?_
          refine aN rfl rfl (by constructor) ?_
          refine gCase 39 rfl (fun h9 => ?_) (fun h9 => ?_)
          · refine gT rfl ?_
            refine aN rfl rfl (by constructor) ?_
            refine gT rfl ?_
            refine aLd st 0 rfl rfl rfl (by constructor) ?_
            refine gT rfl ?_
            refine aN rfl rfl (by constructor) ?_
            refine aN rfl rfl (by constructor) ?_
            refine aN rfl rfl (by constructor) ?_
            refine gCase 44 rfl (fun h10 => ?_) (fun h10 => ?_)
            · refine gT rfl ?_
              refine aN rfl rfl (by constructor) ?_
              refine gT rfl ?_
              refine aLd st 0 rfl rfl rfl (by constructor) ?_
              refine gT rfl ?_
              refine aN rfl rfl (by constructor) ?_
              refine aN rfl rfl (by constructor) ?_
              refine aN rfl rfl (by constructor) ?_
              refine sE ?_
              refine ⟨_, out1 (r_tmp rfl (by constructor)), ?_⟩
              simp only [decide_eq_true_eq, decide_eq_false_iff_not, beq_iff_eq, beq_eq_false_iff_ne, bne_iff_ne, bne_eq_false_iff_eq, ne_eq, Decidable.not_not, Bool.not_eq_true, Bool.not_eq_false, gt_iff_lt, ge_iff_le, Int.not_lt, Int.not_le] at h2 h3 h4 h5 h9 h10
              refine ⟨congrArg Value.bool ?_, st.drop⟩
              rw [Bool.eq_iff_iff]
              unfold formS
              repeat' split
              all_goals simp only [decide_eq_true_eq, Bool.false_eq_true, Bool.not_eq_true, false_iff, iff_false, true_iff, iff_true]
              all_goals first | omega | (simp_all; done) | (simp_all; omega)
            · refine gF rfl (by decide) ?_
              refine gF rfl (by decide) ?_
              refine gF rfl (by decide) ?_
              refine aN rfl rfl (by constructor) ?_
              refine aN rfl rfl (by constructor) ?_
              refine sE ?_
              refine ⟨_, out1 (r_tmp rfl (by constructor)), ?_⟩
              simp only [decide_eq_true_eq, decide_eq_false_iff_not, beq_iff_eq, beq_eq_false_iff_ne, bne_iff_ne, bne_eq_false_iff_eq, ne_eq, Decidable.not_not, Bool.not_eq_true, Bool.not_eq_false, gt_iff_lt, ge_iff_le, Int.not_lt, Int.not_le] at h2 h3 h4 h5 h9 h10
              refine ⟨congrArg Value.bool ?_, st.drop⟩
              rw [Bool.eq_iff_iff]
              unfold formS
              repeat' split
              all_goals simp only [decide_eq_true_eq, Bool.false_eq_true, Bool.not_eq_true, false_iff, iff_false, true_iff, iff_true]
              all_goals first | omega | (simp_all; done) | (simp_all; omega)
          · refine gF rfl (by decide) ?_
            refine gF rfl (by decide) ?_
            refine gF rfl (by decide) ?_
            refine aN rfl rfl (by constructor) ?_
            refine aN rfl rfl (by constructor) ?_
            refine gF rfl (by decide) ?_
            refine gF rfl (by decide) ?_
            refine gF rfl (by decide) ?_
            refine aN rfl rfl (by constructor) ?_
            refine aN rfl rfl (by constructor) ?_
            refine sE ?_
            refine ⟨_, out1 (r_tmp rfl (by constructor)), ?_⟩
            simp only [decide_eq_true_eq, decide_eq_false_iff_not, beq_iff_eq, beq_eq_false_iff_ne, bne_iff_ne, bne_eq_false_iff_eq, ne_eq, Decidable.not_not, Bool.not_eq_true, Bool.not_eq_false, gt_iff_lt, ge_iff_le, Int.not_lt, Int.not_le] at h2 h3 h4 h5 h9
            refine ⟨congrArg Value.bool ?_, st.drop⟩
            rw [Bool.eq_iff_iff]
            unfold formS
            repeat' split
            all_goals simp only [decide_eq_true_eq, Bool.false_eq_true, Bool.not_eq_true, false_iff, iff_false, true_iff, iff_true]
            all_goals first | omega | (simp_all; done) | (simp_all; omega)
    · have h3n : s.hi = true := by simpa using h3
      refine gF rfl (by decide) ?_
      refine gF rfl (by decide) ?_
      refine gF rfl (by decide) ?_
      refine gT rfl ?_
      refine aN rfl rfl (by constructor) ?_
      refine aN rfl rfl (by constructor) ?_
      refine sE ?_
      show AW _ (.cond _ _ _) _ _ _
      refine cF' rfl ?_
      show AWl _ _ _ _ _
      refine aN rfl rfl (by constructor) ?_
      refine aLd st 0 rfl rfl rfl (by constructor) ?_
      refine sE ?_
      show AW _ (.cond _ _ _) _ _ _
      refine cC' rfl (fun h11 => ?_) (fun h11 => ?_)
      · show AWl _ _ _ _ _
        refine aN rfl rfl (by constructor) ?_
        refine aLd st 0 rfl rfl rfl (by constructor) ?_
        refine aN rfl rfl (by constructor) ?_
        refine aN rfl rfl (by constructor) ?_
        refine gCase 21 rfl (fun h12 => ?_) (fun h12 => ?_)
        · refine gT rfl ?_
          refine aN rfl rfl (by constructor) ?_
          refine gT rfl ?_
          refine aLd st 0 rfl rfl rfl (by constructor) ?_
          refine gT rfl ?_
          refine aN rfl rfl (by constructor) ?_
          refine aN rfl rfl (by constructor) ?_
          refine aN rfl rfl (by constructor) ?_
          refine gCase 26 rfl (fun h13 => ?_) (fun h13 => ?_)
          · refine gT rfl ?_
            refine aN rfl rfl (by constructor) ?_
            refine gT rfl ?_
            refine aLd st 0 rfl rfl rfl (by constructor) ?_
            refine gT rfl ?_
            refine aN rfl rfl (by constructor) ?_
            refine aN rfl rfl (by constructor) ?_
            refine aN rfl rfl (by constructor) ?_
            refine gCase 31 rfl (fun h14 => ?_) (fun h14 => ?_)
            · refine gT rfl ?_
              refine aN rfl rfl (by constructor) ?_
              refine gT rfl ?_
              refine aLd st 0 rfl rfl rfl (by constructor) ?_
              refine gT rfl ?_
              refine aN rfl rfl (by constructor) ?_
              refine aN rfl rfl (by constructor) ?_
              refine aN rfl rfl (by constructor) ?_
              refine sE ?_
              refine ⟨_, out1 (r_tmp rfl (by constructor)), ?_⟩
              simp only [decide_eq_true_eq, decide_eq_false_iff_not, beq_iff_eq, beq_eq_false_iff_ne, bne_iff_ne, bne_eq_false_iff_eq, ne_eq, Decidable.not_not, Bool.not_eq_true, Bool.not_eq_false, gt_iff_lt, ge_iff_le, Int.not_lt, Int.not_le] at h2 h3 h11 h12 h13 h14
              refine ⟨congrArg Value.bool ?_, st.drop⟩
              rw [Bool.eq_iff_iff]
              unfold formS
              repeat' split
              all_goals simp only [decide_eq_true_eq, Bool.false_eq_true, Bool.not_eq_true, false_iff, iff_false, true_iff, iff_true]
              all_goals first | omega | (simp_all; done) | (simp_all; omega)
            · refine gF rfl (by decide) ?_
              refine gF rfl (by decide) ?_
              refine gF rfl (by decide) ?_
              refine aN rfl rfl (by constructor) ?_
              refine aN rfl rfl (by constructor) ?_
              refine sE ?_
              refine ⟨_, out1 (r_tmp rfl (by constructor)), ?_⟩
              simp only [decide_eq_true_eq, decide_eq_false_iff_not, beq_iff_eq, beq_eq_false_iff_ne, bne_iff_ne, bne_eq_false_iff_eq, ne_eq, Decidable.not_not, Bool.not_eq_true, Bool.not_eq_false, gt_iff_lt, ge_iff_le, Int.not_lt, Int.not_le] at h2 h3 h11 h12 h13 h14
              refine ⟨congrArg Value.bool ?_, st.drop⟩
              rw [Bool.eq_iff_iff]
              unfold formS
              repeat' split
              all_goals simp only [decide_eq_true_eq, Bool.false_eq_true, Bool.not_eq_true, false_iff, iff_false, true_iff, iff_true]
              all_goals first | omega | (simp_all; done) | (simp_all; omega)
          · refine gF rfl (by decide) ?_
            refine gF rfl (by decide) ?_
            refine gF rfl (by decide) ?_
            refine aN rfl rfl (by constructor) ?_
            refine aN rfl rfl (by constructor) ?_
            refine gF rfl (by decide) ?_
            refine gF rfl (by decide) ?_
            refine gF rfl (by decide) ?_
            refine aN rfl rfl (by constructor) ?_
            refine aN rfl rfl (by constructor) ?_
            refine sE ?_
            refine ⟨_, out1 (r_tmp rfl (by constructor)), ?_⟩
            simp only [decide_eq_true_eq, decide_eq_false_iff_not, beq_iff_eq, beq_eq_false_iff_ne, bne_iff_ne, bne_eq_false_iff_eq, ne_eq, Decidable.not_not, Bool.not_eq_true, Bool.not_eq_false, gt_iff_lt, ge_iff_le, Int.not_lt, Int.not_le] at h2 h3 h11 h12 h13
            refine ⟨congrArg Value.bool ?_, st.drop⟩
            rw [Bool.eq_iff_iff]
            unfold formS
            repeat' split
            all_goals simp only [decide_eq_true_eq, Bool.false_eq_true, Bool.not_eq_true, false_iff, iff_false, true_iff, iff_true]
            all_goals first | omega | (simp_all; done) | (simp_all; omega)
        · refine gF rfl (by decide) ?_
          refine gF rfl (by decide) ?_
          refine gF rfl (by decide) ?_
          refine aN rfl rfl (by constructor) ?_
          refine aN rfl rfl (by constructor) ?_
          refine gF rfl (by decide) ?_
          refine gF rfl (by decide) ?_
          refine gF rfl (by decide) ?_
          refine aN rfl rfl (by constructor) ?_
          refine aN rfl rfl (by constructor) ?_
          refine gF rfl (by decide) ?_
          refine gF rfl (by decide) ?_
          refine gF rfl (by decide) ?_
          refine aN rfl rfl (by constructor) ?_
          refine aN rfl rfl (by constructor) ?_
          refine sE ?_
          refine ⟨_, out1 (r_tmp rfl (by constructor)), ?_⟩
          simp only [decide_eq_true_eq, decide_eq_false_iff_not, beq_iff_eq, beq_eq_false_iff_ne, bne_iff_ne, bne_eq_false_iff_eq, ne_eq, Decidable.not_not, Bool.not_eq_true, Bool.not_eq_false, gt_iff_lt, ge_iff_le, Int.not_lt, Int.not_le] at h2 h3 h11 h12
          refine ⟨congrArg Value.bool ?_, st.drop⟩
          rw [Bool.eq_iff_iff]
          unfold formS
          repeat' split
          all_goals simp only [decide_eq_true_eq, Bool.false_eq_true, Bool.not_eq_true, false_iff, iff_false, true_iff, iff_true]
          all_goals first | omega | (simp_all; done) | (simp_all; omega)
      · show AWl _ _ _ _ _
        refine aN rfl rfl (by constructor) ?_
        refine aLd st 0 rfl rfl rfl (by constructor) ?_
        refine aN rfl rfl (by constructor) ?_
        refine aN rfl rfl (by constructor) ?_
        refine gCase 39 rfl (fun h15 => ?_) (fun h15 => ?_)
        · refine gT rfl ?_
          refine aN rfl rfl (by constructor) ?_
          refine gT rfl ?_
          refine aLd st 0 rfl rfl rfl (by constructor) ?_
          refine gT rfl ?_
          refine aN rfl rfl (by constructor) ?_
          refine aN rfl rfl (by constructor) ?_
          refine aN rfl rfl (by constructor) ?_
          refine gCase 44 rfl (fun h16 => ?_) (fun h16 => ?_)
          · refine gT rfl ?_
            refine aN rfl rfl (by constructor) ?_
            refine gT rfl ?_
            refine aLd st 0 rfl rfl rfl (by constructor) ?_
            refine gT rfl ?_
            refine aN rfl rfl (by constructor) ?_
            refine aN rfl rfl (by constructor) ?_
            refine aN rfl rfl (by constructor) ?_
            refine sE ?_
            refine ⟨_, out1 (r_tmp rfl (by constructor)), ?_⟩
            simp only [decide_eq_true_eq, decide_eq_false_iff_not, beq_iff_eq, beq_eq_false_iff_ne, bne_iff_ne, bne_eq_false_iff_eq, ne_eq, Decidable.not_not, Bool.not_eq_true, Bool.not_eq_false, gt_iff_lt, ge_iff_le, Int.not_lt, Int.not_le] at h2 h3 h11 h15 h16
            refine ⟨congrArg Value.bool ?_, st.drop⟩
            rw [Bool.eq_iff_iff]
            unfold formS
            repeat' split
            all_goals simp only [decide_eq_true_eq, Bool.false_eq_true, Bool.not_eq_true, false_iff, iff_false, true_iff, iff_true]
            all_goals first | omega | (simp_all; done) | (simp_all; omega)
          · refine gF rfl (by decide) ?_
            refine gF rfl (by decide) ?_
            refine gF rfl (by decide) ?_
            refine aN rfl rfl (by constructor) ?_
            refine aN rfl rfl (by constructor) ?_
            refine sE ?_
            refine ⟨_, out1 (r_tmp rfl (by constructor)), ?_⟩
            simp only [decide_eq_true_eq, decide_eq_false_iff_not, beq_iff_eq, beq_eq_false_iff_ne, bne_iff_ne, bne_eq_false_iff_eq, ne_eq, Decidable.not_not, Bool.not_eq_true, Bool.not_eq_false, gt_iff_lt, ge_iff_le, Int.not_lt, Int.not_le] at h2 h3 h11 h15 h16
            refine ⟨congrArg Value.bool ?_, st.drop⟩
            rw [Bool.eq_iff_iff]
            unfold formS
            repeat' split
            all_goals simp only [decide_eq_true_eq, Bool.false_eq_true, Bool.not_eq_true, false_iff, iff_false, true_iff, iff_true]
            all_goals first | omega | (simp_all; done) | (simp_all; omega)
        · refine gF rfl (by decide) ?_
          refine gF rfl (by decide) ?_
          refine gF rfl (by decide) ?_
          refine aN rfl rfl (by constructor) ?_
          refine aN rfl rfl (by constructor) ?_
          refine gF rfl (by decide) ?_
          refine gF rfl (by decide) ?_
          refine gF rfl (by decide) ?_
          refine aN rfl rfl (by constructor) ?_
          refine aN rfl rfl (by constructor) ?_
          refine sE ?_
          refine ⟨_, out1 (r_tmp rfl (by constructor)), ?_⟩
          simp only [decide_eq_true_eq, decide_eq_false_iff_not, beq_iff_eq, beq_eq_false_iff_ne, bne_iff_ne, bne_eq_false_iff_eq, ne_eq, Decidable.not_not, Bool.not_eq_true, Bool.not_eq_false, gt_iff_lt, ge_iff_le, Int.not_lt, Int.not_le] at h2 h3 h11 h15
          refine ⟨congrArg Value.bool ?_, st.drop⟩
          rw [Bool.eq_iff_iff]
          unfold formS
          repeat' split
          all_goals simp only [decide_eq_true_eq, Bool.false_eq_true, Bool.not_eq_true, false_iff, iff_false, true_iff, iff_true]
          all_goals first | omega | (simp_all; done) | (simp_all; omega)
theorem key_call {H : Hp} {s : Sn} (hk : 0 ≤ s.fld ∧ s.fld ≤ 65535 ∧ -1 ≤ s.bit ∧ s.bit ≤ 7) :
    ACalls Try.prog 20 [.agg #[.int .u8 s.key, .int .u16 s.code, .int .u64 s.info, .bool s.hi, .int .i64 s.fld, .int .i64 s.bit, .bool s.hf, .bool s.ic]] H (fun v H' => ∃ b, v = .slice (some ⟨b, 0, none⟩) 3 1 ∧ Stt [] H H' [⟨some b, true, ⟨true, 5, (keyB s).map (Value.int .u8)⟩⟩]) := by
  refine acallsW Try.func20 f20_ok (Nat.le_of_ble_eq_true rfl) fun hw => ?_
  have st : Stt [] H H [] := Stt.start hw
  unfold f20c
  show AWl _ _ _ _ _
  refine aBoxN st rfl rfl (by repeat constructor) rfl fun b1 H1 st => ?_
  refine aN rfl rfl (by constructor) ?_
  refine sE ?_
  show AWl _ _ _ _ _
  refine aN rfl rfl (by constructor) ?_
  refine sE ?_
  show AWl _ _ _ _ _
  refine aN rfl rfl (by constructor) ?_
  refine aLd st 0 rfl rfl rfl (by constructor) ?_
  refine sE ?_
  show AW _ (.cond _ _ _) _ _ _
  refine cC' rfl (fun h2 => ?_) (fun h2 => ?_)
  · show AWl _ _ _ _ _
    refine aN rfl rfl (by constructor) ?_
    refine aN rfl rfl (by constructor) ?_
    refine aN rfl rfl (by constructor) ?_
    refine sE ?_
    show AWl _ _ _ _ _
    refine aN rfl rfl (by constructor) ?_
    refine aLd st 0 rfl rfl rfl (by constructor) ?_
    refine aN rfl rfl (by constructor) ?_
    refine sE ?_
    show AW _ (.cond _ _ _) _ _ _
    refine cC' rfl (fun h3 => ?_) (fun h3 => ?_)
    · show AWl _ _ _ _ _
      refine aN rfl rfl (by constructor) ?_
      refine aN rfl rfl (by constructor) ?_
      refine aLd st 0 rfl rfl rfl (by constructor) ?_
      refine aN rfl rfl (by constructor) ?_
      refine aN rfl rfl (by constructor) ?_
      refine aN rfl rfl (by constructor) ?_
      refine aN rfl rfl (by constructor) ?_
      refine aN rfl rfl (by constructor) ?_
      refine sE ?_
      show AWl _ _ _ _ _
      refine aN rfl rfl (by constructor) ?_
      refine aN rfl rfl (by constructor) ?_
      refine aLd st 0 rfl rfl rfl (by constructor) ?_
      refine aN rfl rfl (by constructor) ?_
      refine aN rfl rfl (by constructor) ?_
      refine aN rfl rfl (by constructor) ?_
      refine aLd st 0 rfl rfl rfl (by constructor) ?_
      refine aN rfl rfl (by constructor) ?_
      refine aLit st rfl (by repeat constructor) fun b26 H4 st => ?_
      refine aN rfl rfl (by constructor) ?_
      refine sE ?_
      refine ⟨_, out1 (r_tmp rfl (by constructor)), ?_⟩
      have st2 := (st.pick 0 rfl).toI 0 rfl rfl (by repeat constructor)
      refine ⟨b26, rfl, ?_⟩
      rw [fldB ⟨hk.1, hk.2.1⟩, w8 s.fld] at st2
      have c2 : (0 ≤ s.bit) := of_decide_eq_true h3
      obtain ⟨q1, q2⟩ := key_or (b := s.bit) (by omega)
      rw [show bits .or .u8 128 64 = 192 by decide, q2] at st2
      have e : keyB s = [200 + s.bit, s.fld / 256, s.fld % 256] := by unfold keyB; rw [if_pos (h2), if_pos c2]; congr 1 <;> omega
      rw [e]; exact st2
    · show AWl _ _ _ _ _
      refine aN rfl rfl (by constructor) ?_
      refine aN rfl rfl (by constructor) ?_
      refine aLd st 0 rfl rfl rfl (by constructor) ?_
      refine aN rfl rfl (by constructor) ?_
      refine aN rfl rfl (by constructor) ?_
      refine aN rfl rfl (by constructor) ?_
      refine aLd st 0 rfl rfl rfl (by constructor) ?_
      refine aN rfl rfl (by constructor) ?_
      refine aLit st rfl (by repeat constructor) fun b26 H5 st => ?_
      refine aN rfl rfl (by constructor) ?_
      refine sE ?_
      refine ⟨_, out1 (r_tmp rfl (by constructor)), ?_⟩
      have st2 := (st.pick 0 rfl).toI 0 rfl rfl (by repeat constructor)
      refine ⟨b26, rfl, ?_⟩
      rw [fldB ⟨hk.1, hk.2.1⟩, w8 s.fld] at st2
      have c2 : ¬ (0 ≤ s.bit) := of_decide_eq_false h3
      rw [show bits .or .u8 128 64 = 192 by decide] at st2
      have e : keyB s = [192, s.fld / 256, s.fld % 256] := by unfold keyB; rw [if_pos (h2), if_neg c2]; congr 1 <;> omega
      rw [e]; exact st2
  · show AWl _ _ _ _ _
    refine aN rfl rfl (by constructor) ?_
    refine aLd st 0 rfl rfl rfl (by constructor) ?_
    refine aN rfl rfl (by constructor) ?_
    refine sE ?_
    show AW _ (.cond _ _ _) _ _ _
    refine cC' rfl (fun h6 => ?_) (fun h6 => ?_)
    · show AWl _ _ _ _ _
      refine aN rfl rfl (by constructor) ?_
      refine aN rfl rfl (by constructor) ?_
      refine aLd st 0 rfl rfl rfl (by constructor) ?_
      refine aN rfl rfl (by constructor) ?_
      refine aN rfl rfl (by constructor) ?_
      refine aN rfl rfl (by constructor) ?_
      refine aN rfl rfl (by constructor) ?_
      refine aN rfl rfl (by constructor) ?_
      refine sE ?_
      show AWl _ _ _ _ _
      refine aN rfl rfl (by constructor) ?_
      refine aN rfl rfl (by constructor) ?_
      refine aLd st 0 rfl rfl rfl (by constructor) ?_
      refine aN rfl rfl (by constructor) ?_
      refine aN rfl rfl (by constructor) ?_
      refine aN rfl rfl (by constructor) ?_
      refine aLd st 0 rfl rfl rfl (by constructor) ?_
      refine aN rfl rfl (by constructor) ?_
      refine aLit st rfl (by repeat constructor) fun b26 H7 st => ?_
      refine aN rfl rfl (by constructor) ?_
      refine sE ?_
      refine ⟨_, out1 (r_tmp rfl (by constructor)), ?_⟩
      have st2 := (st.pick 0 rfl).toI 0 rfl rfl (by repeat constructor)
      refine ⟨b26, rfl, ?_⟩
      rw [fldB ⟨hk.1, hk.2.1⟩, w8 s.fld] at st2
      have c2 : (0 ≤ s.bit) := of_decide_eq_true h6
      obtain ⟨q1, q2⟩ := key_or (b := s.bit) (by omega)
      rw [q1] at st2
      have e : keyB s = [136 + s.bit, s.fld / 256, s.fld % 256] := by unfold keyB; rw [if_neg (by simp [h2]), if_pos c2]; congr 1 <;> omega
      rw [e]; exact st2
    · show AWl _ _ _ _ _
      refine aN rfl rfl (by constructor) ?_
      refine aN rfl rfl (by constructor) ?_
      refine aLd st 0 rfl rfl rfl (by constructor) ?_
      refine aN rfl rfl (by constructor) ?_
      refine aN rfl rfl (by constructor) ?_
      refine aN rfl rfl (by constructor) ?_
      refine aLd st 0 rfl rfl rfl (by constructor) ?_
      refine aN rfl rfl (by constructor) ?_
      refine aLit st rfl (by repeat constructor) fun b26 H8 st => ?_
      refine aN rfl rfl (by constructor) ?_
      refine sE ?_
      refine ⟨_, out1 (r_tmp rfl (by constructor)), ?_⟩
      have st2 := (st.pick 0 rfl).toI 0 rfl rfl (by repeat constructor)
      refine ⟨b26, rfl, ?_⟩
      rw [fldB ⟨hk.1, hk.2.1⟩, w8 s.fld] at st2
      have c2 : ¬ (0 ≤ s.bit) := of_decide_eq_false h6
      have e : keyB s = [128, s.fld / 256, s.fld % 256] := by unfold keyB; rw [if_neg (by simp [h2]), if_neg c2]; congr 1 <;> omega
      rw [e]; exact st2
end Go.Proofs.Ytloigiieoehimaa.Abs
