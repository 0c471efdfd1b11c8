/- Commands: the kinds. -/
import Derived.Test.YtlbmfcbcmfcjbaaM0
set_option linter.unusedVariables false
set_option linter.unusedSimpArgs false
set_option maxRecDepth 100000
namespace Go.Proofs.Ytlbmfcbcmfcjbaa.Abs
open Go Go.RowKit
theorem kind_call {H : Hp} {op : Int}  :
    ACalls Try.prog 18 [.int .u8 op] H (fun v H' => v = .int .u8 (kindL op) ∧ Stt [] H H' []) := by
  refine acallsW Try.func18 f18_ok (Nat.le_of_ble_eq_true rfl) fun hw => ?_
  have st : Stt [] H H [] := Stt.start hw
  unfold f18c
  show AWl _ _ _ _ _
  refine aN rfl rfl (by constructor) ?_
  refine sE ?_
  show AWl _ _ _ _ _
  refine aN rfl rfl (by constructor) ?_
  refine sE ?_
  show AWl _ _ _ _ _
  refine aN rfl rfl (by constructor) ?_
  refine aN rfl rfl (by constructor) ?_
  refine sE ?_
  show AW _ (.cond _ _ _) _ _ _
  refine cC' rfl (fun h1 => ?_) (fun h1 => ?_)
  · have h1q := h1; try simp only [decide_eq_true_eq, decide_eq_false_iff_not, beq_iff_eq, beq_eq_false_iff_ne, bne_iff_ne, bne_eq_false_iff_eq, ne_eq, Decidable.not_not, Bool.not_eq_true, Bool.not_eq_false, gt_iff_lt, ge_iff_le, Int.not_lt, Int.not_le] at h1q
    subst h1q
    show AWl _ _ _ _ _
    refine aN rfl rfl (by constructor) ?_
    refine sE ?_
    refine ⟨_, out1 (r_tmp rfl (by constructor)), ?_⟩
    exact ⟨congrArg (Value.int .u8) (by unfold kindL; first | rfl | simp [*]), st.drop⟩
  · have h1q := h1; try simp only [decide_eq_true_eq, decide_eq_false_iff_not, beq_iff_eq, beq_eq_false_iff_ne, bne_iff_ne, bne_eq_false_iff_eq, ne_eq, Decidable.not_not, Bool.not_eq_true, Bool.not_eq_false, gt_iff_lt, ge_iff_le, Int.not_lt, Int.not_le] at h1q
    show AWl _ _ _ _ _
    refine aN rfl rfl (by constructor) ?_
    refine aN rfl rfl (by constructor) ?_
    refine sE ?_
    show AW _ (.cond _ _ _) _ _ _
    refine cC' rfl (fun h2 => ?_) (fun h2 => ?_)
    · have h2q := h2; try simp only [decide_eq_true_eq, decide_eq_false_iff_not, beq_iff_eq, beq_eq_false_iff_ne, bne_iff_ne, bne_eq_false_iff_eq, ne_eq, Decidable.not_not, Bool.not_eq_true, Bool.not_eq_false, gt_iff_lt, ge_iff_le, Int.not_lt, Int.not_le] at h2q
      subst h2q
      show AWl _ _ _ _ _
      refine aN rfl rfl (by constructor) ?_
      refine sE ?_
      refine ⟨_, out1 (r_tmp rfl (by constructor)), ?_⟩
      exact ⟨congrArg (Value.int .u8) (by unfold kindL; first | rfl | simp [*]), st.drop⟩
    · have h2q := h2; try simp only [decide_eq_true_eq, decide_eq_false_iff_not, beq_iff_eq, beq_eq_false_iff_ne, bne_iff_ne, bne_eq_false_iff_eq, ne_eq, Decidable.not_not, Bool.not_eq_true, Bool.not_eq_false, gt_iff_lt, ge_iff_le, Int.not_lt, Int.not_le] at h2q
      show AWl _ _ _ _ _
      refine aN rfl rfl (by constructor) ?_
      refine aN rfl rfl (by constructor) ?_
      refine sE ?_
      show AW _ (.cond _ _ _) _ _ _
      refine cC' rfl (fun h3 => ?_) (fun h3 => ?_)
      · have h3q := h3; try simp only [decide_eq_true_eq, decide_eq_false_iff_not, beq_iff_eq, beq_eq_false_iff_ne, bne_iff_ne, bne_eq_false_iff_eq, ne_eq, Decidable.not_not, Bool.not_eq_true, Bool.not_eq_false, gt_iff_lt, ge_iff_le, Int.not_lt, Int.not_le] at h3q
        subst h3q
        show AWl _ _ _ _ _
        refine aN rfl rfl (by constructor) ?_
        refine sE ?_
        refine ⟨_, out1 (r_tmp rfl (by constructor)), ?_⟩
        exact ⟨congrArg (Value.int .u8) (by unfold kindL; first | rfl | simp [*]), st.drop⟩
      · have h3q := h3; try simp only [decide_eq_true_eq, decide_eq_false_iff_not, beq_iff_eq, beq_eq_false_iff_ne, bne_iff_ne, bne_eq_false_iff_eq, ne_eq, Decidable.not_not, Bool.not_eq_true, Bool.not_eq_false, gt_iff_lt, ge_iff_le, Int.not_lt, Int.not_le] at h3q
        show AWl _ _ _ _ _
        refine aN rfl rfl (by constructor) ?_
        refine aN rfl rfl (by constructor) ?_
        refine sE ?_
        show AW _ (.cond _ _ _) _ _ _
        refine cC' rfl (fun h4 => ?_) (fun h4 => ?_)
        · have h4q := h4; try simp only [decide_eq_true_eq, decide_eq_false_iff_not, beq_iff_eq, beq_eq_false_iff_ne, bne_iff_ne, bne_eq_false_iff_eq, ne_eq, Decidable.not_not, Bool.not_eq_true, Bool.not_eq_false, gt_iff_lt, ge_iff_le, Int.not_lt, Int.not_le] at h4q
          subst h4q
          show AW _ (.cond _ _ _) _ _ _
          refine cT rfl ?_
          show AWl _ _ _ _ _
          refine aN rfl rfl (by constructor) ?_
          refine sE ?_
          refine ⟨_, out1 (r_tmp rfl (by constructor)), ?_⟩
          exact ⟨congrArg (Value.int .u8) (by unfold kindL; first | rfl | simp [*]), st.drop⟩
        · have h4q := h4; try simp only [decide_eq_true_eq, decide_eq_false_iff_not, beq_iff_eq, beq_eq_false_iff_ne, bne_iff_ne, bne_eq_false_iff_eq, ne_eq, Decidable.not_not, Bool.not_eq_true, Bool.not_eq_false, gt_iff_lt, ge_iff_le, Int.not_lt, Int.not_le] at h4q
          show AWl _ _ _ _ _
          refine aN rfl rfl (by constructor) ?_
          refine aN rfl rfl (by constructor) ?_
          refine sE ?_
          show AW _ (.cond _ _ _) _ _ _
          refine cC' rfl (fun h5 => ?_) (fun h5 => ?_)
          · have h5q := h5; try simp only [decide_eq_true_eq, decide_eq_false_iff_not, beq_iff_eq, beq_eq_false_iff_ne, bne_iff_ne, bne_eq_false_iff_eq, ne_eq, Decidable.not_not, Bool.not_eq_true, Bool.not_eq_false, gt_iff_lt, ge_iff_le, Int.not_lt, Int.not_le] at h5q
            subst h5q
            show AWl _ _ _ _ _
            refine aN rfl rfl (by constructor) ?_
            refine sE ?_
            refine ⟨_, out1 (r_tmp rfl (by constructor)), ?_⟩
            exact ⟨congrArg (Value.int .u8) (by unfold kindL; first | rfl | simp [*]), st.drop⟩
          · have h5q := h5; try simp only [decide_eq_true_eq, decide_eq_false_iff_not, beq_iff_eq, beq_eq_false_iff_ne, bne_iff_ne, bne_eq_false_iff_eq, ne_eq, Decidable.not_not, Bool.not_eq_true, Bool.not_eq_false, gt_iff_lt, ge_iff_le, Int.not_lt, Int.not_le] at h5q
            show AWl _ _ _ _ _
            refine aN rfl rfl (by constructor) ?_
            refine aN rfl rfl (by constructor) ?_
            refine sE ?_
            show AW _ (.cond _ _ _) _ _ _
            refine cC' rfl (fun h6 => ?_) (fun h6 => ?_)
            · have h6q := h6; try simp only [decide_eq_true_eq, decide_eq_false_iff_not, beq_iff_eq, beq_eq_false_iff_ne, bne_iff_ne, bne_eq_false_iff_eq, ne_eq, Decidable.not_not, Bool.not_eq_true, Bool.not_eq_false, gt_iff_lt, ge_iff_le, Int.not_lt, Int.not_le] at h6q
              subst h6q
              show AW _ (.cond _ _ _) _ _ _
              refine cT rfl ?_
              show AWl _ _ _ _ _
              refine aN rfl rfl (by constructor) ?_
              refine sE ?_
              refine ⟨_, out1 (r_tmp rfl (by constructor)), ?_⟩
              exact ⟨congrArg (Value.int .u8) (by unfold kindL; first | rfl | simp [*]), st.drop⟩
            · have h6q := h6; try simp only [decide_eq_true_eq, decide_eq_false_iff_not, beq_iff_eq, beq_eq_false_iff_ne, bne_iff_ne, bne_eq_false_iff_eq, ne_eq, Decidable.not_not, Bool.not_eq_true, Bool.not_eq_false, gt_iff_lt, ge_iff_le, Int.not_lt, Int.not_le] at h6q
              show AWl _ _ _ _ _
              refine aN rfl rfl (by constructor) ?_
              refine aN rfl rfl (by constructor) ?_
              refine sE ?_
              show AW _ (.cond _ _ _) _ _ _
              refine cC' rfl (fun h7 => ?_) (fun h7 => ?_)
              · have h7q := h7; try simp only [decide_eq_true_eq, decide_eq_false_iff_not, beq_iff_eq, beq_eq_false_iff_ne, bne_iff_ne, bne_eq_false_iff_eq, ne_eq, Decidable.not_not, Bool.not_eq_true, Bool.not_eq_false, gt_iff_lt, ge_iff_le, Int.not_lt, Int.not_le] at h7q
                subst h7q
                show AWl _ _ _ _ _
                refine aN rfl rfl (by constructor) ?_
                refine sE ?_
                refine ⟨_, out1 (r_tmp rfl (by constructor)), ?_⟩
                exact ⟨congrArg (Value.int .u8) (by unfold kindL; first | rfl | simp [*]), st.drop⟩
              · have h7q := h7; try simp only [decide_eq_true_eq, decide_eq_false_iff_not, beq_iff_eq, beq_eq_false_iff_ne, bne_iff_ne, bne_eq_false_iff_eq, ne_eq, Decidable.not_not, Bool.not_eq_true, Bool.not_eq_false, gt_iff_lt, ge_iff_le, Int.not_lt, Int.not_le] at h7q
                show AWl _ _ _ _ _
                refine aN rfl rfl (by constructor) ?_
                refine aN rfl rfl (by constructor) ?_
                refine sE ?_
                show AW _ (.cond _ _ _) _ _ _
                refine cC' rfl (fun h8 => ?_) (fun h8 => ?_)
                · have h8q := h8; try simp only [decide_eq_true_eq, decide_eq_false_iff_not, beq_iff_eq, beq_eq_false_iff_ne, bne_iff_ne, bne_eq_false_iff_eq, ne_eq, Decidable.not_not, Bool.not_eq_true, Bool.not_eq_false, gt_iff_lt, ge_iff_le, Int.not_lt, Int.not_le] at h8q
                  subst h8q
                  show AW _ (.cond _ _ _) _ _ _
                  refine cT rfl ?_
                  show AWl _ _ _ _ _
                  refine aN rfl rfl (by constructor) ?_
                  refine sE ?_
                  refine ⟨_, out1 (r_tmp rfl (by constructor)), ?_⟩
                  exact ⟨congrArg (Value.int .u8) (by unfold kindL; first | rfl | simp [*]), st.drop⟩
                · have h8q := h8; try simp only [decide_eq_true_eq, decide_eq_false_iff_not, beq_iff_eq, beq_eq_false_iff_ne, bne_iff_ne, bne_eq_false_iff_eq, ne_eq, Decidable.not_not, Bool.not_eq_true, Bool.not_eq_false, gt_iff_lt, ge_iff_le, Int.not_lt, Int.not_le] at h8q
                  show AWl _ _ _ _ _
                  refine aN rfl rfl (by constructor) ?_
                  refine aN rfl rfl (by constructor) ?_
                  refine sE ?_
                  show AW _ (.cond _ _ _) _ _ _
                  refine cC' rfl (fun h9 => ?_) (fun h9 => ?_)
                  · have h9q := h9; try simp only [decide_eq_true_eq, decide_eq_false_iff_not, beq_iff_eq, beq_eq_false_iff_ne, bne_iff_ne, bne_eq_false_iff_eq, ne_eq, Decidable.not_not, Bool.not_eq_true, Bool.not_eq_false, gt_iff_lt, ge_iff_le, Int.not_lt, Int.not_le] at h9q
                    subst h9q
                    show AWl _ _ _ _ _
                    refine aN rfl rfl (by constructor) ?_
                    refine sE ?_
                    refine ⟨_, out1 (r_tmp rfl (by constructor)), ?_⟩
                    exact ⟨congrArg (Value.int .u8) (by unfold kindL; first | rfl | simp [*]), st.drop⟩
                  · have h9q := h9; try simp only [decide_eq_true_eq, decide_eq_false_iff_not, beq_iff_eq, beq_eq_false_iff_ne, bne_iff_ne, bne_eq_false_iff_eq, ne_eq, Decidable.not_not, Bool.not_eq_true, Bool.not_eq_false, gt_iff_lt, ge_iff_le, Int.not_lt, Int.not_le] at h9q
                    show AWl _ _ _ _ _
                    refine aN rfl rfl (by constructor) ?_
                    refine aN rfl rfl (by constructor) ?_
                    refine sE ?_
                    show AW _ (.cond _ _ _) _ _ _
                    refine cC' rfl (fun h10 => ?_) (fun h10 => ?_)
                    · have h10q := h10; try simp only [decide_eq_true_eq, decide_eq_false_iff_not, beq_iff_eq, beq_eq_false_iff_ne, bne_iff_ne, bne_eq_false_iff_eq, ne_eq, Decidable.not_not, Bool.not_eq_true, Bool.not_eq_false, gt_iff_lt, ge_iff_le, Int.not_lt, Int.not_le] at h10q
                      subst h10q
                      show AW _ (.cond _ _ _) _ _ _
                      refine cT rfl ?_
                      show AWl _ _ _ _ _
                      refine aN rfl rfl (by constructor) ?_
                      refine sE ?_
                      refine ⟨_, out1 (r_tmp rfl (by constructor)), ?_⟩
                      exact ⟨congrArg (Value.int .u8) (by unfold kindL; first | rfl | simp [*]), st.drop⟩
                    · have h10q := h10; try simp only [decide_eq_true_eq, decide_eq_false_iff_not, beq_iff_eq, beq_eq_false_iff_ne, bne_iff_ne, bne_eq_false_iff_eq, ne_eq, Decidable.not_not, Bool.not_eq_true, Bool.not_eq_false, gt_iff_lt, ge_iff_le, Int.not_lt, Int.not_le] at h10q
                      show AWl _ _ _ _ _
                      refine aN rfl rfl (by constructor) ?_
                      refine aN rfl rfl (by constructor) ?_
                      refine sE ?_
                      show AW _ (.cond _ _ _) _ _ _
                      refine cC' rfl (fun h11 => ?_) (fun h11 => ?_)
                      · have h11q := h11; try simp only [decide_eq_true_eq, decide_eq_false_iff_not, beq_iff_eq, beq_eq_false_iff_ne, bne_iff_ne, bne_eq_false_iff_eq, ne_eq, Decidable.not_not, Bool.not_eq_true, Bool.not_eq_false, gt_iff_lt, ge_iff_le, Int.not_lt, Int.not_le] at h11q
                        subst h11q
                        show AW _ (.cond _ _ _) _ _ _
                        refine cT rfl ?_
                        show AWl _ _ _ _ _
                        refine aN rfl rfl (by constructor) ?_
                        refine sE ?_
                        refine ⟨_, out1 (r_tmp rfl (by constructor)), ?_⟩
                        exact ⟨congrArg (Value.int .u8) (by unfold kindL; first | rfl | simp [*]), st.drop⟩
                      · have h11q := h11; try simp only [decide_eq_true_eq, decide_eq_false_iff_not, beq_iff_eq, beq_eq_false_iff_ne, bne_iff_ne, bne_eq_false_iff_eq, ne_eq, Decidable.not_not, Bool.not_eq_true, Bool.not_eq_false, gt_iff_lt, ge_iff_le, Int.not_lt, Int.not_le] at h11q
                        show AWl _ _ _ _ _
                        refine aN rfl rfl (by constructor) ?_
                        refine aN rfl rfl (by constructor) ?_
                        refine sE ?_
                        show AW _ (.cond _ _ _) _ _ _
                        refine cC' rfl (fun h12 => ?_) (fun h12 => ?_)
                        · have h12q := h12; try simp only [decide_eq_true_eq, decide_eq_false_iff_not, beq_iff_eq, beq_eq_false_iff_ne, bne_iff_ne, bne_eq_false_iff_eq, ne_eq, Decidable.not_not, Bool.not_eq_true, Bool.not_eq_false, gt_iff_lt, ge_iff_le, Int.not_lt, Int.not_le] at h12q
                          subst h12q
                          show AWl _ _ _ _ _
                          refine aN rfl rfl (by constructor) ?_
                          refine sE ?_
                          refine ⟨_, out1 (r_tmp rfl (by constructor)), ?_⟩
                          exact ⟨congrArg (Value.int .u8) (by unfold kindL; first | rfl | simp [*]), st.drop⟩
                        · have h12q := h12; try simp only [decide_eq_true_eq, decide_eq_false_iff_not, beq_iff_eq, beq_eq_false_iff_ne, bne_iff_ne, bne_eq_false_iff_eq, ne_eq, Decidable.not_not, Bool.not_eq_true, Bool.not_eq_false, gt_iff_lt, ge_iff_le, Int.not_lt, Int.not_le] at h12q
                          show AWl _ _ _ _ _
                          refine aN rfl rfl (by constructor) ?_
                          refine aN rfl rfl (by constructor) ?_
                          refine sE ?_
                          show AW _ (.cond _ _ _) _ _ _
                          refine cC' rfl (fun h13 => ?_) (fun h13 => ?_)
                          · have h13q := h13; try simp only [decide_eq_true_eq, decide_eq_false_iff_not, beq_iff_eq, beq_eq_false_iff_ne, bne_iff_ne, bne_eq_false_iff_eq, ne_eq, Decidable.not_not, Bool.not_eq_true, Bool.not_eq_false, gt_iff_lt, ge_iff_le, Int.not_lt, Int.not_le] at h13q
                            subst h13q
                            show AW _ (.cond _ _ _) _ _ _
                            refine cT rfl ?_
                            show AWl _ _ _ _ _
                            refine aN rfl rfl (by constructor) ?_
                            refine sE ?_
                            refine ⟨_, out1 (r_tmp rfl (by constructor)), ?_⟩
                            exact ⟨congrArg (Value.int .u8) (by unfold kindL; first | rfl | simp [*]), st.drop⟩
                          · have h13q := h13; try simp only [decide_eq_true_eq, decide_eq_false_iff_not, beq_iff_eq, beq_eq_false_iff_ne, bne_iff_ne, bne_eq_false_iff_eq, ne_eq, Decidable.not_not, Bool.not_eq_true, Bool.not_eq_false, gt_iff_lt, ge_iff_le, Int.not_lt, Int.not_le] at h13q
                            show AWl _ _ _ _ _
                            refine aN rfl rfl (by constructor) ?_
                            refine aN rfl rfl (by constructor) ?_
                            refine sE ?_
                            show AW _ (.cond _ _ _) _ _ _
                            refine cC' rfl (fun h14 => ?_) (fun h14 => ?_)
                            · have h14q := h14; try simp only [decide_eq_true_eq, decide_eq_false_iff_not, beq_iff_eq, beq_eq_false_iff_ne, bne_iff_ne, bne_eq_false_iff_eq, ne_eq, Decidable.not_not, Bool.not_eq_true, Bool.not_eq_false, gt_iff_lt, ge_iff_le, Int.not_lt, Int.not_le] at h14q
                              subst h14q
                              show AW _ (.cond _ _ _) _ _ _
                              refine cT rfl ?_
                              show AWl _ _ _ _ _
                              refine aN rfl rfl (by constructor) ?_
                              refine sE ?_
                              refine ⟨_, out1 (r_tmp rfl (by constructor)), ?_⟩
                              exact ⟨congrArg (Value.int .u8) (by unfold kindL; first | rfl | simp [*]), st.drop⟩
                            · have h14q := h14; try simp only [decide_eq_true_eq, decide_eq_false_iff_not, beq_iff_eq, beq_eq_false_iff_ne, bne_iff_ne, bne_eq_false_iff_eq, ne_eq, Decidable.not_not, Bool.not_eq_true, Bool.not_eq_false, gt_iff_lt, ge_iff_le, Int.not_lt, Int.not_le] at h14q
                              show AWl _ _ _ _ _
                              refine aN rfl rfl (by constructor) ?_
                              refine aN rfl rfl (by constructor) ?_
                              refine sE ?_
                              show AW _ (.cond _ _ _) _ _ _
                              refine cC' rfl (fun h15 => ?_) (fun h15 => ?_)
                              · have h15q := h15; try simp only [decide_eq_true_eq, decide_eq_false_iff_not, beq_iff_eq, beq_eq_false_iff_ne, bne_iff_ne, bne_eq_false_iff_eq, ne_eq, Decidable.not_not, Bool.not_eq_true, Bool.not_eq_false, gt_iff_lt, ge_iff_le, Int.not_lt, Int.not_le] at h15q
                                subst h15q
                                show AWl _ _ _ _ _
                                refine aN rfl rfl (by constructor) ?_
                                refine sE ?_
                                refine ⟨_, out1 (r_tmp rfl (by constructor)), ?_⟩
                                exact ⟨congrArg (Value.int .u8) (by unfold kindL; first | rfl | simp [*]), st.drop⟩
                              · have h15q := h15; try simp only [decide_eq_true_eq, decide_eq_false_iff_not, beq_iff_eq, beq_eq_false_iff_ne, bne_iff_ne, bne_eq_false_iff_eq, ne_eq, Decidable.not_not, Bool.not_eq_true, Bool.not_eq_false, gt_iff_lt, ge_iff_le, Int.not_lt, Int.not_le] at h15q
                                show AWl _ _ _ _ _
                                refine aN rfl rfl (by constructor) ?_
                                refine aN rfl rfl (by constructor) ?_
                                refine sE ?_
                                show AW _ (.cond _ _ _) _ _ _
                                refine cC' rfl (fun h16 => ?_) (fun h16 => ?_)
                                · have h16q := h16; try simp only [decide_eq_true_eq, decide_eq_false_iff_not, beq_iff_eq, beq_eq_false_iff_ne, bne_iff_ne, bne_eq_false_iff_eq, ne_eq, Decidable.not_not, Bool.not_eq_true, Bool.not_eq_false, gt_iff_lt, ge_iff_le, Int.not_lt, Int.not_le] at h16q
                                  subst h16q
                                  show AWl _ _ _ _ _
                                  refine aN rfl rfl (by constructor) ?_
                                  refine sE ?_
                                  refine ⟨_, out1 (r_tmp rfl (by constructor)), ?_⟩
                                  exact ⟨congrArg (Value.int .u8) (by unfold kindL; first | rfl | simp [*]), st.drop⟩
                                · have h16q := h16; try simp only [decide_eq_true_eq, decide_eq_false_iff_not, beq_iff_eq, beq_eq_false_iff_ne, bne_iff_ne, bne_eq_false_iff_eq, ne_eq, Decidable.not_not, Bool.not_eq_true, Bool.not_eq_false, gt_iff_lt, ge_iff_le, Int.not_lt, Int.not_le] at h16q
                                  show AWl _ _ _ _ _
                                  refine aN rfl rfl (by constructor) ?_
                                  refine aN rfl rfl (by constructor) ?_
                                  refine sE ?_
                                  show AW _ (.cond _ _ _) _ _ _
                                  refine cC' rfl (fun h17 => ?_) (fun h17 => ?_)
                                  · have h17q := h17; try simp only [decide_eq_true_eq, decide_eq_false_iff_not, beq_iff_eq, beq_eq_false_iff_ne, bne_iff_ne, bne_eq_false_iff_eq, ne_eq, Decidable.not_not, Bool.not_eq_true, Bool.not_eq_false, gt_iff_lt, ge_iff_le, Int.not_lt, Int.not_le] at h17q
                                    subst h17q
                                    show AWl _ _ _ _ _
                                    refine aN rfl rfl (by constructor) ?_
                                    refine sE ?_
                                    refine ⟨_, out1 (r_tmp rfl (by constructor)), ?_⟩
                                    exact ⟨congrArg (Value.int .u8) (by unfold kindL; first | rfl | simp [*]), st.drop⟩
                                  · have h17q := h17; try simp only [decide_eq_true_eq, decide_eq_false_iff_not, beq_iff_eq, beq_eq_false_iff_ne, bne_iff_ne, bne_eq_false_iff_eq, ne_eq, Decidable.not_not, Bool.not_eq_true, Bool.not_eq_false, gt_iff_lt, ge_iff_le, Int.not_lt, Int.not_le] at h17q
                                    show AWl _ _ _ _ _
                                    refine aN rfl rfl (by constructor) ?_
                                    refine aN rfl rfl (by constructor) ?_
                                    refine sE ?_
                                    show AW _ (.cond _ _ _) _ _ _
                                    refine cC' rfl (fun h18 => ?_) (fun h18 => ?_)
                                    · have h18q := h18; try simp only [decide_eq_true_eq, decide_eq_false_iff_not, beq_iff_eq, beq_eq_false_iff_ne, bne_iff_ne, bne_eq_false_iff_eq, ne_eq, Decidable.not_not, Bool.not_eq_true, Bool.not_eq_false, gt_iff_lt, ge_iff_le, Int.not_lt, Int.not_le] at h18q
                                      subst h18q
                                      show AW _ (.cond _ _ _) _ _ _
                                      refine cT rfl ?_
                                      show AWl _ _ _ _ _
                                      refine aN rfl rfl (by constructor) ?_
                                      refine sE ?_
                                      refine ⟨_, out1 (r_tmp rfl (by constructor)), ?_⟩
                                      exact ⟨congrArg (Value.int .u8) (by unfold kindL; first | rfl | simp [*]), st.drop⟩
                                    · have h18q := h18; try simp only [decide_eq_true_eq, decide_eq_false_iff_not, beq_iff_eq, beq_eq_false_iff_ne, bne_iff_ne, bne_eq_false_iff_eq, ne_eq, Decidable.not_not, Bool.not_eq_true, Bool.not_eq_false, gt_iff_lt, ge_iff_le, Int.not_lt, Int.not_le] at h18q
                                      show AWl _ _ _ _ _
                                      refine aN rfl rfl (by constructor) ?_
                                      refine aN rfl rfl (by constructor) ?_
                                      refine sE ?_
                                      show AW _ (.cond _ _ _) _ _ _
                                      refine cC' rfl (fun h19 => ?_) (fun h19 => ?_)
                                      · have h19q := h19; try simp only [decide_eq_true_eq, decide_eq_false_iff_not, beq_iff_eq, beq_eq_false_iff_ne, bne_iff_ne, bne_eq_false_iff_eq, ne_eq, Decidable.not_not, Bool.not_eq_true, Bool.not_eq_false, gt_iff_lt, ge_iff_le, Int.not_lt, Int.not_le] at h19q
                                        subst h19q
                                        show AWl _ _ _ _ _
                                        refine aN rfl rfl (by constructor) ?_
                                        refine sE ?_
                                        refine ⟨_, out1 (r_tmp rfl (by constructor)), ?_⟩
                                        exact ⟨congrArg (Value.int .u8) (by unfold kindL; first | rfl | simp [*]), st.drop⟩
                                      · have h19q := h19; try simp only [decide_eq_true_eq, decide_eq_false_iff_not, beq_iff_eq, beq_eq_false_iff_ne, bne_iff_ne, bne_eq_false_iff_eq, ne_eq, Decidable.not_not, Bool.not_eq_true, Bool.not_eq_false, gt_iff_lt, ge_iff_le, Int.not_lt, Int.not_le] at h19q
                                        show AWl _ _ _ _ _
                                        refine aN rfl rfl (by constructor) ?_
                                        refine aN rfl rfl (by constructor) ?_
                                        refine sE ?_
                                        show AW _ (.cond _ _ _) _ _ _
                                        refine cC' rfl (fun h20 => ?_) (fun h20 => ?_)
                                        · have h20q := h20; try simp only [decide_eq_true_eq, decide_eq_false_iff_not, beq_iff_eq, beq_eq_false_iff_ne, bne_iff_ne, bne_eq_false_iff_eq, ne_eq, Decidable.not_not, Bool.not_eq_true, Bool.not_eq_false, gt_iff_lt, ge_iff_le, Int.not_lt, Int.not_le] at h20q
                                          subst h20q
                                          show AW _ (.cond _ _ _) _ _ _
                                          refine cT rfl ?_
                                          show AWl _ _ _ _ _
                                          refine aN rfl rfl (by constructor) ?_
                                          refine sE ?_
                                          refine ⟨_, out1 (r_tmp rfl (by constructor)), ?_⟩
                                          exact ⟨congrArg (Value.int .u8) (by unfold kindL; first | rfl | simp [*]), st.drop⟩
                                        · have h20q := h20; try simp only [decide_eq_true_eq, decide_eq_false_iff_not, beq_iff_eq, beq_eq_false_iff_ne, bne_iff_ne, bne_eq_false_iff_eq, ne_eq, Decidable.not_not, Bool.not_eq_true, Bool.not_eq_false, gt_iff_lt, ge_iff_le, Int.not_lt, Int.not_le] at h20q
                                          show AWl _ _ _ _ _
                                          refine aN rfl rfl (by constructor) ?_
                                          refine aN rfl rfl (by constructor) ?_
                                          refine sE ?_
                                          show AW _ (.cond _ _ _) _ _ _
                                          refine cC' rfl (fun h21 => ?_) (fun h21 => ?_)
                                          · have h21q := h21; try simp only [decide_eq_true_eq, decide_eq_false_iff_not, beq_iff_eq, beq_eq_false_iff_ne, bne_iff_ne, bne_eq_false_iff_eq, ne_eq, Decidable.not_not, Bool.not_eq_true, Bool.not_eq_false, gt_iff_lt, ge_iff_le, Int.not_lt, Int.not_le] at h21q
                                            subst h21q
                                            show AWl _ _ _ _ _
                                            refine aN rfl rfl (by constructor) ?_
                                            refine sE ?_
                                            refine ⟨_, out1 (r_tmp rfl (by constructor)), ?_⟩
                                            exact ⟨congrArg (Value.int .u8) (by unfold kindL; first | rfl | simp [*]), st.drop⟩
                                          · have h21q := h21; try simp only [decide_eq_true_eq, decide_eq_false_iff_not, beq_iff_eq, beq_eq_false_iff_ne, bne_iff_ne, bne_eq_false_iff_eq, ne_eq, Decidable.not_not, Bool.not_eq_true, Bool.not_eq_false, gt_iff_lt, ge_iff_le, Int.not_lt, Int.not_le] at h21q
                                            show AWl _ _ _ _ _
                                            refine aN rfl rfl (by constructor) ?_
                                            refine aN rfl rfl (by constructor) ?_
                                            refine sE ?_
                                            show AW _ (.cond _ _ _) _ _ _
                                            refine cC' rfl (fun h22 => ?_) (fun h22 => ?_)
                                            · have h22q := h22; try simp only [decide_eq_true_eq, decide_eq_false_iff_not, beq_iff_eq, beq_eq_false_iff_ne, bne_iff_ne, bne_eq_false_iff_eq, ne_eq, Decidable.not_not, Bool.not_eq_true, Bool.not_eq_false, gt_iff_lt, ge_iff_le, Int.not_lt, Int.not_le] at h22q
                                              subst h22q
                                              show AWl _ _ _ _ _
                                              refine aN rfl rfl (by constructor) ?_
                                              refine sE ?_
                                              refine ⟨_, out1 (r_tmp rfl (by constructor)), ?_⟩
                                              exact ⟨congrArg (Value.int .u8) (by unfold kindL; first | rfl | simp [*]), st.drop⟩
                                            · have h22q := h22; try simp only [decide_eq_true_eq, decide_eq_false_iff_not, beq_iff_eq, beq_eq_false_iff_ne, bne_iff_ne, bne_eq_false_iff_eq, ne_eq, Decidable.not_not, Bool.not_eq_true, Bool.not_eq_false, gt_iff_lt, ge_iff_le, Int.not_lt, Int.not_le] at h22q
                                              show AWl _ _ _ _ _
                                              refine aN rfl rfl (by constructor) ?_
                                              refine aN rfl rfl (by constructor) ?_
                                              refine sE ?_
                                              show AW _ (.cond _ _ _) _ _ _
                                              refine cC' rfl (fun h23 => ?_) (fun h23 => ?_)
                                              · have h23q := h23; try simp only [decide_eq_true_eq, decide_eq_false_iff_not, beq_iff_eq, beq_eq_false_iff_ne, bne_iff_ne, bne_eq_false_iff_eq, ne_eq, Decidable.not_not, Bool.not_eq_true, Bool.not_eq_false, gt_iff_lt, ge_iff_le, Int.not_lt, Int.not_le] at h23q
                                                subst h23q
                                                show AWl _ _ _ _ _
                                                refine aN rfl rfl (by constructor) ?_
                                                refine sE ?_
                                                refine ⟨_, out1 (r_tmp rfl (by constructor)), ?_⟩
                                                exact ⟨congrArg (Value.int .u8) (by unfold kindL; first | rfl | simp [*]), st.drop⟩
                                              · have h23q := h23; try simp only [decide_eq_true_eq, decide_eq_false_iff_not, beq_iff_eq, beq_eq_false_iff_ne, bne_iff_ne, bne_eq_false_iff_eq, ne_eq, Decidable.not_not, Bool.not_eq_true, Bool.not_eq_false, gt_iff_lt, ge_iff_le, Int.not_lt, Int.not_le] at h23q
                                                show AWl _ _ _ _ _
                                                refine aN rfl rfl (by constructor) ?_
                                                refine aN rfl rfl (by constructor) ?_
                                                refine sE ?_
                                                show AW _ (.cond _ _ _) _ _ _
                                                refine cC' rfl (fun h24 => ?_) (fun h24 => ?_)
                                                · have h24q := h24; try simp only [decide_eq_true_eq, decide_eq_false_iff_not, beq_iff_eq, beq_eq_false_iff_ne, bne_iff_ne, bne_eq_false_iff_eq, ne_eq, Decidable.not_not, Bool.not_eq_true, Bool.not_eq_false, gt_iff_lt, ge_iff_le, Int.not_lt, Int.not_le] at h24q
                                                  subst h24q
                                                  show AWl _ _ _ _ _
                                                  refine aN rfl rfl (by constructor) ?_
                                                  refine sE ?_
                                                  refine ⟨_, out1 (r_tmp rfl (by constructor)), ?_⟩
                                                  exact ⟨congrArg (Value.int .u8) (by unfold kindL; first | rfl | simp [*]), st.drop⟩
                                                · have h24q := h24; try simp only [decide_eq_true_eq, decide_eq_false_iff_not, beq_iff_eq, beq_eq_false_iff_ne, bne_iff_ne, bne_eq_false_iff_eq, ne_eq, Decidable.not_not, Bool.not_eq_true, Bool.not_eq_false, gt_iff_lt, ge_iff_le, Int.not_lt, Int.not_le] at h24q
                                                  show AWl _ _ _ _ _
                                                  refine aN rfl rfl (by constructor) ?_
                                                  refine aN rfl rfl (by constructor) ?_
                                                  refine sE ?_
                                                  show AW _ (.cond _ _ _) _ _ _
                                                  refine cC' rfl (fun h25 => ?_) (fun h25 => ?_)
                                                  · have h25q := h25; try simp only [decide_eq_true_eq, decide_eq_false_iff_not, beq_iff_eq, beq_eq_false_iff_ne, bne_iff_ne, bne_eq_false_iff_eq, ne_eq, Decidable.not_not, Bool.not_eq_true, Bool.not_eq_false, gt_iff_lt, ge_iff_le, Int.not_lt, Int.not_le] at h25q
                                                    subst h25q
                                                    show AWl _ _ _ _ _
                                                    refine aN rfl rfl (by constructor) ?_
                                                    refine sE ?_
                                                    refine ⟨_, out1 (r_tmp rfl (by constructor)), ?_⟩
                                                    exact ⟨congrArg (Value.int .u8) (by unfold kindL; first | rfl | simp [*]), st.drop⟩
                                                  · have h25q := h25; try simp only [decide_eq_true_eq, decide_eq_false_iff_not, beq_iff_eq, beq_eq_false_iff_ne, bne_iff_ne, bne_eq_false_iff_eq, ne_eq, Decidable.not_not, Bool.not_eq_true, Bool.not_eq_false, gt_iff_lt, ge_iff_le, Int.not_lt, Int.not_le] at h25q
                                                    show AWl _ _ _ _ _
                                                    refine aN rfl rfl (by constructor) ?_
                                                    refine aN rfl rfl (by constructor) ?_
                                                    refine sE ?_
                                                    show AW _ (.cond _ _ _) _ _ _
                                                    refine cC' rfl (fun h26 => ?_) (fun h26 => ?_)
                                                    · have h26q := h26; try simp only [decide_eq_true_eq, decide_eq_false_iff_not, beq_iff_eq, beq_eq_false_iff_ne, bne_iff_ne, bne_eq_false_iff_eq, ne_eq, Decidable.not_not, Bool.not_eq_true, Bool.not_eq_false, gt_iff_lt, ge_iff_le, Int.not_lt, Int.not_le] at h26q
                                                      subst h26q
                                                      show AWl _ _ _ _ _
                                                      refine aN rfl rfl (by constructor) ?_
                                                      refine sE ?_
                                                      refine ⟨_, out1 (r_tmp rfl (by constructor)), ?_⟩
                                                      exact ⟨congrArg (Value.int .u8) (by unfold kindL; first | rfl | simp [*]), st.drop⟩
                                                    · have h26q := h26; try simp only [decide_eq_true_eq, decide_eq_false_iff_not, beq_iff_eq, beq_eq_false_iff_ne, bne_iff_ne, bne_eq_false_iff_eq, ne_eq, Decidable.not_not, Bool.not_eq_true, Bool.not_eq_false, gt_iff_lt, ge_iff_le, Int.not_lt, Int.not_le] at h26q
                                                      show AWl _ _ _ _ _
                                                      refine aN rfl rfl (by constructor) ?_
                                                      refine aN rfl rfl (by constructor) ?_
                                                      refine sE ?_
                                                      show AW _ (.cond _ _ _) _ _ _
                                                      refine cC' rfl (fun h27 => ?_) (fun h27 => ?_)
                                                      · have h27q := h27; try simp only [decide_eq_true_eq, decide_eq_false_iff_not, beq_iff_eq, beq_eq_false_iff_ne, bne_iff_ne, bne_eq_false_iff_eq, ne_eq, Decidable.not_not, Bool.not_eq_true, Bool.not_eq_false, gt_iff_lt, ge_iff_le, Int.not_lt, Int.not_le] at h27q
                                                        subst h27q
                                                        show AWl _ _ _ _ _
                                                        refine aN rfl rfl (by constructor) ?_
                                                        refine sE ?_
                                                        refine ⟨_, out1 (r_tmp rfl (by constructor)), ?_⟩
                                                        exact ⟨congrArg (Value.int .u8) (by unfold kindL; first | rfl | simp [*]), st.drop⟩
                                                      · have h27q := h27; try simp only [decide_eq_true_eq, decide_eq_false_iff_not, beq_iff_eq, beq_eq_false_iff_ne, bne_iff_ne, bne_eq_false_iff_eq, ne_eq, Decidable.not_not, Bool.not_eq_true, Bool.not_eq_false, gt_iff_lt, ge_iff_le, Int.not_lt, Int.not_le] at h27q
                                                        show AWl _ _ _ _ _
                                                        refine aN rfl rfl (by constructor) ?_
                                                        refine sE ?_
                                                        refine ⟨_, out1 (r_tmp rfl (by constructor)), ?_⟩
                                                        exact ⟨congrArg (Value.int .u8) (by unfold kindL; first | rfl | simp [*]), st.drop⟩
def opsL : List Int := [0, 3, 18, 21, 85, 26, 90, 37, 158, 8, 40, 136, 10, 42, 138, 46, 47, 53, 145, 65, 147, 66, 137, 94, 95, 160, 131]
def kindsL : List Int := [1, 2, 3, 4, 4, 5, 5, 6, 6, 7, 7, 7, 8, 8, 8, 9, 10, 11, 11, 12, 12, 13, 14, 15, 16, 17, 18]
theorem map_at {k : IntKind} {l : List Int} {j : Nat} (h : j < l.length) : (l.map (Value.int k))[0 + ((j : Int)).toNat * 1]? = some (.int k (l.getD j 0)) := by
  simp [List.getElem?_map, List.getElem?_eq_getElem h, List.getD]
theorem ops_kind : ∀ i, i < 27 → kindL (opsL.getD i 0) = kindsL.getD i 0 := by decide
theorem ops_no {op : Int} (h : ∀ j, j < 27 → opsL.getD j 0 ≠ op) : kindL op = 0 := by
  have h0 : op ≠ 0 := (h 0 (by decide)).symm
  have h1 : op ≠ 3 := (h 1 (by decide)).symm
  have h2 : op ≠ 18 := (h 2 (by decide)).symm
  have h3 : op ≠ 21 := (h 3 (by decide)).symm
  have h4 : op ≠ 85 := (h 4 (by decide)).symm
  have h5 : op ≠ 26 := (h 5 (by decide)).symm
  have h6 : op ≠ 90 := (h 6 (by decide)).symm
  have h7 : op ≠ 37 := (h 7 (by decide)).symm
  have h8 : op ≠ 158 := (h 8 (by decide)).symm
  have h9 : op ≠ 8 := (h 9 (by decide)).symm
  have h10 : op ≠ 40 := (h 10 (by decide)).symm
  have h11 : op ≠ 136 := (h 11 (by decide)).symm
  have h12 : op ≠ 10 := (h 12 (by decide)).symm
  have h13 : op ≠ 42 := (h 13 (by decide)).symm
  have h14 : op ≠ 138 := (h 14 (by decide)).symm
  have h15 : op ≠ 46 := (h 15 (by decide)).symm
  have h16 : op ≠ 47 := (h 16 (by decide)).symm
  have h17 : op ≠ 53 := (h 17 (by decide)).symm
  have h18 : op ≠ 145 := (h 18 (by decide)).symm
  have h19 : op ≠ 65 := (h 19 (by decide)).symm
  have h20 : op ≠ 147 := (h 20 (by decide)).symm
  have h21 : op ≠ 66 := (h 21 (by decide)).symm
  have h22 : op ≠ 137 := (h 22 (by decide)).symm
  have h23 : op ≠ 94 := (h 23 (by decide)).symm
  have h24 : op ≠ 95 := (h 24 (by decide)).symm
  have h25 : op ≠ 160 := (h 25 (by decide)).symm
  have h26 : op ≠ 131 := (h 26 (by decide)).symm
  simp [kindL, *]
theorem rkind_call {H : Hp} {op : Int}  :
    ACalls Try.prog 27 [.int .u8 op] H (fun v H' => v = .int .i64 (kindL op) ∧ Stt [] H H' []) := by
  refine acallsW Try.func27 f27_ok (Nat.le_of_ble_eq_true rfl) fun hw => ?_
  have st : Stt [] H H [] := Stt.start hw
  unfold f27c
  show AWl _ _ _ _ _
  refine aN rfl rfl (by constructor) ?_
  refine sE ?_
  show AWl _ _ _ _ _
  refine aLit st rfl (by repeat constructor) fun b6 H1 st => ?_
  refine aN rfl rfl (by constructor) ?_
  refine sE ?_
  show AWl _ _ _ _ _
  refine aLit st rfl (by repeat constructor) fun b7 H2 st => ?_
  refine aN rfl rfl (by constructor) ?_
  refine sE ?_
  show AWl _ _ _ _ _
  refine aN rfl rfl (by constructor) ?_
  refine sE ?_
  show AW _ (.loop _) _ _ _
  refine AW_loopN (fun m t1 H1 => ∃ (i : Nat), m = 27 - i ∧ (i ≤ 27) ∧ (∀ j, j < i → opsL.getD j 0 ≠ op) ∧ t1 5 = .int .i64 (i : Int) ∧ Stt [] H H1 [⟨some b6, true, ⟨true, 5, opsL.map (Value.int .u8)⟩⟩, ⟨some b7, true, ⟨true, 3, kindsL.map (Value.int .i64)⟩⟩]) (27 - 0) ⟨0, rfl, by omega, fun j hj => by omega, rfl, (st.sel [1, 0] (by decide))⟩ [2, 5, 8, 9, 10, 11, 12, 13, 14, 15, 16, 17, 18, 19, 20, 21, 22, 23] (by decide) ?_
  rintro m t1 H1 hk hI
  obtain ⟨i, rfl, hi, hno, ht5, st⟩ := hI
  obtain ⟨u, rfl⟩ : ∃ u, t1 = (upd (mix [2, 5, 8, 9, 10, 11, 12, 13, 14, 15, 16, 17, 18, 19, 20, 21, 22, 23] _ u) (some 5) _) := ⟨t1, by rw [← hk, upd_self ht5]⟩
  clear hk ht5
  show AWl _ _ _ _ _
  refine aN rfl rfl (by constructor) ?_
  refine aN rfl rfl (by constructor) ?_
  refine aN rfl rfl (by constructor) ?_
  refine aN rfl rfl (by constructor) ?_
  refine sE ?_
  show AW _ (.cond _ _ _) _ _ _
  refine cC' rfl (fun h3 => ?_) (fun h3 => ?_)
  · have hlt : i < 27 := by have := of_decide_eq_true h3; simp at this; omega
    show AWl _ _ _ _ _
    refine aN rfl rfl (by constructor) ?_
    refine aN rfl rfl (by constructor) ?_
    refine aIxL rfl rfl (by omega) ?_
    refine aLd st 0 rfl rfl (map_at (l := opsL) hlt) (by constructor) ?_
    refine aN rfl rfl (by constructor) ?_
    refine aN rfl rfl (by constructor) ?_
    refine sE ?_
    show AW _ (.cond _ _ _) _ _ _
    refine cC' rfl (fun h4 => ?_) (fun h4 => ?_)
    · have hq : opsL.getD i 0 = op := by simpa using h4
      show AWl _ _ _ _ _
      refine aN rfl rfl (by constructor) ?_
      refine aN rfl rfl (by constructor) ?_
      refine aIxL rfl rfl (by omega) ?_
      refine aLd st 1 rfl rfl (map_at (l := kindsL) hlt) (by constructor) ?_
      refine aN rfl rfl (by constructor) ?_
      refine sE ?_
      refine ⟨_, out1 (r_tmp rfl (by constructor)), ?_⟩
      exact ⟨congrArg (Value.int .i64) (by rw [← hq]; exact (ops_kind i hlt).symm), st.drop⟩
    · have hq : opsL.getD i 0 ≠ op := by simpa using h4
      show AWl _ _ _ _ _
      refine aN rfl rfl (by constructor) ?_
      refine aN rfl rfl (by constructor) ?_
      refine aN rfl rfl (by constructor) ?_
      refine sE ?_
      exact ⟨_, by omega, i + 1, rfl, by omega, fun j hj => by { rcases Nat.lt_succ_iff_lt_or_eq.1 hj with h | h; exact hno j h; subst h; exact hq }, congrArg (Value.int .i64) (wi _ (by omega)), (st.sel [0, 1] (by decide))⟩
  · have hge : i = 27 := by have := of_decide_eq_false h3; simp at this; omega
    subst hge
    show AWl _ _ _ _ _
    refine aN rfl rfl (by constructor) ?_
    refine sE ?_
    refine ⟨_, out1 (r_tmp rfl (by constructor)), ?_⟩
    exact ⟨congrArg (Value.int .i64) (ops_no hno).symm, st.drop⟩
end Go.Proofs.Ytlbmfcbcmfcjbaa.Abs
