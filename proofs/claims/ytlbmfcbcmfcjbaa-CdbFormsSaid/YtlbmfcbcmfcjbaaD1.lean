/- Commands: which bits are looked at. -/
import Derived.Test.YtlbmfcbcmfcjbaaS3
import Derived.Test.YtlbmfcbcmfcjbaaP2
set_option linter.unusedVariables false
set_option linter.unusedSimpArgs false
set_option maxRecDepth 100000
namespace Go.Proofs.Ytlbmfcbcmfcjbaa.Abs
open Go Go.RowKit
def useL (op : Int) : List Int := if op = 0 then [0, 0, 0, 0, 0, 0] else if op = 3 then [3, 1, 0, 0, 255, 0] else if op = 8 then [8, 31, 255, 255, 255, 0] else if op = 10 then [10, 31, 255, 255, 255, 0] else if op = 18 then [18, 1, 255, 255, 255, 0] else if op = 21 then [21, 17, 0, 0, 255, 0] else if op = 26 then [26, 8, 255, 0, 255, 0] else if op = 37 then [37, 0, 0, 0, 0, 0, 0, 0, 0, 0] else if op = 40 then [40, 248, 255, 255, 255, 255, 0, 255, 255, 0] else if op = 42 then [42, 248, 255, 255, 255, 255, 0, 255, 255, 0] else if op = 46 then [46, 240, 255, 255, 255, 255, 0, 255, 255, 0] else if op = 47 then [47, 242, 255, 255, 255, 255, 0, 255, 255, 0] else if op = 53 then [53, 0, 255, 255, 255, 255, 0, 255, 255, 0] else if op = 65 then [65, 232, 255, 255, 255, 255, 0, 255, 255, 0] else if op = 66 then [66, 0, 0, 0, 0, 0, 0, 255, 255, 0] else if op = 85 then [85, 17, 0, 0, 0, 0, 0, 255, 255, 0] else if op = 90 then [90, 8, 255, 0, 0, 0, 0, 255, 255, 0] else if op = 94 then [94, 31, 0, 0, 0, 0, 0, 255, 255, 0] else if op = 95 then [95, 31, 15, 0, 0, 255, 255, 255, 255, 0] else if op = 131 then [131, 31, 0, 0, 0, 0, 0, 0, 0, 0, 255, 255, 255, 255, 0, 0] else if op = 136 then [136, 248, 255, 255, 255, 255, 255, 255, 255, 255, 255, 255, 255, 255, 0, 0] else if op = 138 then [138, 248, 255, 255, 255, 255, 255, 255, 255, 255, 255, 255, 255, 255, 0, 0] else if op = 137 then [137, 248, 255, 255, 255, 255, 255, 255, 255, 255, 0, 0, 0, 255, 0, 0] else if op = 145 then [145, 0, 255, 255, 255, 255, 255, 255, 255, 255, 255, 255, 255, 255, 0, 0] else if op = 147 then [147, 232, 255, 255, 255, 255, 255, 255, 255, 255, 255, 255, 255, 255, 0, 0] else if op = 158 then [158, 31, 0, 0, 0, 0, 0, 0, 0, 0, 255, 255, 255, 255, 0, 0] else if op = 160 then [160, 0, 3, 0, 0, 0, 255, 255, 255, 255, 0, 0] else []
def serveB (op sv : Int) : Bool := if op = 94 then decide (sv ≤ 3) else if op = 95 then decide (sv ≤ 6) else if op = 131 then sv == 0 else if op = 158 then sv == 16 else !(useL op).isEmpty
theorem usage_call {H : Hp} {op sv : Int} (ho : 0 ≤ op ∧ op < 256) :
    ACalls Try.prog 12 [.int .u8 op, .int .u8 sv] H (fun v H' => ∃ ob, v = .tuple #[accV ob (useL op).length 1, .bool (serveB op sv)] ∧ Stt [] H H' [⟨ob, true, ⟨true, 5, (useL op).map (Value.int .u8)⟩⟩] ∧ (useL op = [] → ob = none)) := by
  refine acallsW Try.func12 f12_ok (Nat.le_of_ble_eq_true rfl) fun hw => ?_
  have st : Stt [] H H [] := Stt.start hw
  unfold f12c
  show AWl _ _ _ _ _
  refine aN rfl rfl (by constructor) ?_
  refine aN rfl rfl (by constructor) ?_
  refine sE ?_
  show AWl _ _ _ _ _
  refine aLit st rfl (by repeat constructor) fun b7 H1 st => ?_
  have st := st.toI 0 rfl rfl (by repeat constructor)
  refine aN rfl rfl (by constructor) ?_
  refine sE ?_
  show AWl _ _ _ _ _
  refine aN rfl rfl (by constructor) ?_
  refine sE ?_
  show AWl _ _ _ _ _
  refine aN rfl rfl (by constructor) ?_
  refine aN rfl rfl (by constructor) ?_
  refine sE ?_
  show AW _ (.cond _ _ _) _ _ _
  refine cC' rfl (fun h2 => ?_) (fun h2 => ?_)
  · have h2q := h2; try simp only [decide_eq_true_eq, decide_eq_false_iff_not, beq_iff_eq, beq_eq_false_iff_ne, bne_iff_ne, bne_eq_false_iff_eq, ne_eq, Decidable.not_not, Bool.not_eq_true, Bool.not_eq_false, gt_iff_lt, ge_iff_le, Int.not_lt, Int.not_le] at h2q
    subst h2q
    show AWl _ _ _ _ _
    refine aN rfl rfl (by constructor) ?_
    refine aLit st rfl (by repeat constructor) fun b12 H3 st => ?_
    refine aN rfl rfl (by constructor) ?_
    refine aN rfl rfl (by constructor) ?_
    refine sE ?_
    refine ⟨_, out2 (r_tmp rfl (by constructor)) (r_tmp rfl (by constructor)) ⟨rfl, rfl⟩, ?_⟩
    refine ⟨some b12, ?_, ?_, fun h => absurd h (by decide)⟩
    · first | rfl | (simp [serveB, useL]; done)
    · have st2 := st.pick 0 rfl; exact st2
  · have h2q := h2; try simp only [decide_eq_true_eq, decide_eq_false_iff_not, beq_iff_eq, beq_eq_false_iff_ne, bne_iff_ne, bne_eq_false_iff_eq, ne_eq, Decidable.not_not, Bool.not_eq_true, Bool.not_eq_false, gt_iff_lt, ge_iff_le, Int.not_lt, Int.not_le] at h2q
    show AWl _ _ _ _ _
    refine aN rfl rfl (by constructor) ?_
    refine aN rfl rfl (by constructor) ?_
    refine sE ?_
    show AW _ (.cond _ _ _) _ _ _
    refine cC' rfl (fun h4 => ?_) (fun h4 => ?_)
    · have h4q := h4; try simp only [decide_eq_true_eq, decide_eq_false_iff_not, beq_iff_eq, beq_eq_false_iff_ne, bne_iff_ne, bne_eq_false_iff_eq, ne_eq, Decidable.not_not, Bool.not_eq_true, Bool.not_eq_false, gt_iff_lt, ge_iff_le, Int.not_lt, Int.not_le] at h4q
      subst h4q
      show AWl _ _ _ _ _
      refine aN rfl rfl (by constructor) ?_
      refine aLit st rfl (by repeat constructor) fun b16 H5 st => ?_
      refine aN rfl rfl (by constructor) ?_
      refine aN rfl rfl (by constructor) ?_
      refine sE ?_
      refine ⟨_, out2 (r_tmp rfl (by constructor)) (r_tmp rfl (by constructor)) ⟨rfl, rfl⟩, ?_⟩
      refine ⟨some b16, ?_, ?_, fun h => absurd h (by decide)⟩
      · first | rfl | (simp [serveB, useL]; done)
      · have st2 := st.pick 0 rfl; exact st2
    · have h4q := h4; try simp only [decide_eq_true_eq, decide_eq_false_iff_not, beq_iff_eq, beq_eq_false_iff_ne, bne_iff_ne, bne_eq_false_iff_eq, ne_eq, Decidable.not_not, Bool.not_eq_true, Bool.not_eq_false, gt_iff_lt, ge_iff_le, Int.not_lt, Int.not_le] at h4q
      show AWl _ _ _ _ _
      refine aN rfl rfl (by constructor) ?_
      refine aN rfl rfl (by constructor) ?_
      refine sE ?_
      show AW _ (.cond _ _ _) _ _ _
      refine cC' rfl (fun h6 => ?_) (fun h6 => ?_)
      · have h6q := h6; try simp only [decide_eq_true_eq, decide_eq_false_iff_not, beq_iff_eq, beq_eq_false_iff_ne, bne_iff_ne, bne_eq_false_iff_eq, ne_eq, Decidable.not_not, Bool.not_eq_true, Bool.not_eq_false, gt_iff_lt, ge_iff_le, Int.not_lt, Int.not_le] at h6q
        subst h6q
        show AW _ (.cond _ _ _) _ _ _
        refine cT rfl ?_
        show AWl _ _ _ _ _
        refine aN rfl rfl (by constructor) ?_
        refine aLit st rfl (by repeat constructor) fun b21 H7 st => ?_
        refine aN rfl rfl (by constructor) ?_
        refine aN rfl rfl (by constructor) ?_
        refine sE ?_
        refine ⟨_, out2 (r_tmp rfl (by constructor)) (r_tmp rfl (by constructor)) ⟨rfl, rfl⟩, ?_⟩
        refine ⟨some b21, ?_, ?_, fun h => absurd h (by decide)⟩
        · first | rfl | (simp [serveB, useL]; done)
        · have st2 := st.pick 0 rfl; exact st2
      · have h6q := h6; try simp only [decide_eq_true_eq, decide_eq_false_iff_not, beq_iff_eq, beq_eq_false_iff_ne, bne_iff_ne, bne_eq_false_iff_eq, ne_eq, Decidable.not_not, Bool.not_eq_true, Bool.not_eq_false, gt_iff_lt, ge_iff_le, Int.not_lt, Int.not_le] at h6q
        show AWl _ _ _ _ _
        refine aN rfl rfl (by constructor) ?_
        refine aN rfl rfl (by constructor) ?_
        refine sE ?_
        show AW _ (.cond _ _ _) _ _ _
        refine cC' rfl (fun h8 => ?_) (fun h8 => ?_)
        · have h8q := h8; try simp only [decide_eq_true_eq, decide_eq_false_iff_not, beq_iff_eq, beq_eq_false_iff_ne, bne_iff_ne, bne_eq_false_iff_eq, ne_eq, Decidable.not_not, Bool.not_eq_true, Bool.not_eq_false, gt_iff_lt, ge_iff_le, Int.not_lt, Int.not_le] at h8q
          subst h8q
          show AWl _ _ _ _ _
          refine aN rfl rfl (by constructor) ?_
          refine aLit st rfl (by repeat constructor) fun b21 H9 st => ?_
          refine aN rfl rfl (by constructor) ?_
          refine aN rfl rfl (by constructor) ?_
          refine sE ?_
          refine ⟨_, out2 (r_tmp rfl (by constructor)) (r_tmp rfl (by constructor)) ⟨rfl, rfl⟩, ?_⟩
          refine ⟨some b21, ?_, ?_, fun h => absurd h (by decide)⟩
          · first | rfl | (simp [serveB, useL]; done)
          · have st2 := st.pick 0 rfl; exact st2
        · have h8q := h8; try simp only [decide_eq_true_eq, decide_eq_false_iff_not, beq_iff_eq, beq_eq_false_iff_ne, bne_iff_ne, bne_eq_false_iff_eq, ne_eq, Decidable.not_not, Bool.not_eq_true, Bool.not_eq_false, gt_iff_lt, ge_iff_le, Int.not_lt, Int.not_le] at h8q
          show AWl _ _ _ _ _
          refine aN rfl rfl (by constructor) ?_
          refine aN rfl rfl (by constructor) ?_
          refine sE ?_
          show AW _ (.cond _ _ _) _ _ _
          refine cC' rfl (fun h10 => ?_) (fun h10 => ?_)
          · have h10q := h10; try simp only [decide_eq_true_eq, decide_eq_false_iff_not, beq_iff_eq, beq_eq_false_iff_ne, bne_iff_ne, bne_eq_false_iff_eq, ne_eq, Decidable.not_not, Bool.not_eq_true, Bool.not_eq_false, gt_iff_lt, ge_iff_le, Int.not_lt, Int.not_le] at h10q
            subst h10q
            show AWl _ _ _ _ _
            refine aN rfl rfl (by constructor) ?_
            refine aLit st rfl (by repeat constructor) fun b25 H11 st => ?_
            refine aN rfl rfl (by constructor) ?_
            refine aN rfl rfl (by constructor) ?_
            refine sE ?_
            refine ⟨_, out2 (r_tmp rfl (by constructor)) (r_tmp rfl (by constructor)) ⟨rfl, rfl⟩, ?_⟩
            refine ⟨some b25, ?_, ?_, fun h => absurd h (by decide)⟩
            · first | rfl | (simp [serveB, useL]; done)
            · have st2 := st.pick 0 rfl; exact st2
          · have h10q := h10; try simp only [decide_eq_true_eq, decide_eq_false_iff_not, beq_iff_eq, beq_eq_false_iff_ne, bne_iff_ne, bne_eq_false_iff_eq, ne_eq, Decidable.not_not, Bool.not_eq_true, Bool.not_eq_false, gt_iff_lt, ge_iff_le, Int.not_lt, Int.not_le] at h10q
            show AWl _ _ _ _ _
            refine aN rfl rfl (by constructor) ?_
            refine aN rfl rfl (by constructor) ?_
            refine sE ?_
            show AW _ (.cond _ _ _) _ _ _
            refine cC' rfl (fun h12 => ?_) (fun h12 => ?_)
            · have h12q := h12; try simp only [decide_eq_true_eq, decide_eq_false_iff_not, beq_iff_eq, beq_eq_false_iff_ne, bne_iff_ne, bne_eq_false_iff_eq, ne_eq, Decidable.not_not, Bool.not_eq_true, Bool.not_eq_false, gt_iff_lt, ge_iff_le, Int.not_lt, Int.not_le] at h12q
              subst h12q
              show AWl _ _ _ _ _
              refine aN rfl rfl (by constructor) ?_
              refine aLit st rfl (by repeat constructor) fun b29 H13 st => ?_
              refine aN rfl rfl (by constructor) ?_
              refine aN rfl rfl (by constructor) ?_
              refine sE ?_
              refine ⟨_, out2 (r_tmp rfl (by constructor)) (r_tmp rfl (by constructor)) ⟨rfl, rfl⟩, ?_⟩
              refine ⟨some b29, ?_, ?_, fun h => absurd h (by decide)⟩
              · first | rfl | (simp [serveB, useL]; done)
              · have st2 := st.pick 0 rfl; exact st2
            · have h12q := h12; try simp only [decide_eq_true_eq, decide_eq_false_iff_not, beq_iff_eq, beq_eq_false_iff_ne, bne_iff_ne, bne_eq_false_iff_eq, ne_eq, Decidable.not_not, Bool.not_eq_true, Bool.not_eq_false, gt_iff_lt, ge_iff_le, Int.not_lt, Int.not_le] at h12q
              show AWl _ _ _ _ _
              refine aN rfl rfl (by constructor) ?_
              refine aN rfl rfl (by constructor) ?_
              refine sE ?_
              show AW _ (.cond _ _ _) _ _ _
              refine cC' rfl (fun h14 => ?_) (fun h14 => ?_)
              · have h14q := h14; try simp only [decide_eq_true_eq, decide_eq_false_iff_not, beq_iff_eq, beq_eq_false_iff_ne, bne_iff_ne, bne_eq_false_iff_eq, ne_eq, Decidable.not_not, Bool.not_eq_true, Bool.not_eq_false, gt_iff_lt, ge_iff_le, Int.not_lt, Int.not_le] at h14q
                subst h14q
                show AWl _ _ _ _ _
                refine aN rfl rfl (by constructor) ?_
                refine aLit st rfl (by repeat constructor) fun b33 H15 st => ?_
                refine aN rfl rfl (by constructor) ?_
                refine aN rfl rfl (by constructor) ?_
                refine sE ?_
                refine ⟨_, out2 (r_tmp rfl (by constructor)) (r_tmp rfl (by constructor)) ⟨rfl, rfl⟩, ?_⟩
                refine ⟨some b33, ?_, ?_, fun h => absurd h (by decide)⟩
                · first | rfl | (simp [serveB, useL]; done)
                · have st2 := st.pick 0 rfl; exact st2
              · have h14q := h14; try simp only [decide_eq_true_eq, decide_eq_false_iff_not, beq_iff_eq, beq_eq_false_iff_ne, bne_iff_ne, bne_eq_false_iff_eq, ne_eq, Decidable.not_not, Bool.not_eq_true, Bool.not_eq_false, gt_iff_lt, ge_iff_le, Int.not_lt, Int.not_le] at h14q
                show AWl _ _ _ _ _
                refine aN rfl rfl (by constructor) ?_
                refine aN rfl rfl (by constructor) ?_
                refine sE ?_
                show AW _ (.cond _ _ _) _ _ _
                refine cC' rfl (fun h16 => ?_) (fun h16 => ?_)
                · have h16q := h16; try simp only [decide_eq_true_eq, decide_eq_false_iff_not, beq_iff_eq, beq_eq_false_iff_ne, bne_iff_ne, bne_eq_false_iff_eq, ne_eq, Decidable.not_not, Bool.not_eq_true, Bool.not_eq_false, gt_iff_lt, ge_iff_le, Int.not_lt, Int.not_le] at h16q
                  subst h16q
                  show AWl _ _ _ _ _
                  refine aN rfl rfl (by constructor) ?_
                  refine aLit st rfl (by repeat constructor) fun b37 H17 st => ?_
                  refine aN rfl rfl (by constructor) ?_
                  refine aN rfl rfl (by constructor) ?_
                  refine sE ?_
                  refine ⟨_, out2 (r_tmp rfl (by constructor)) (r_tmp rfl (by constructor)) ⟨rfl, rfl⟩, ?_⟩
                  refine ⟨some b37, ?_, ?_, fun h => absurd h (by decide)⟩
                  · first | rfl | (simp [serveB, useL]; done)
                  · have st2 := st.pick 0 rfl; exact st2
                · have h16q := h16; try simp only [decide_eq_true_eq, decide_eq_false_iff_not, beq_iff_eq, beq_eq_false_iff_ne, bne_iff_ne, bne_eq_false_iff_eq, ne_eq, Decidable.not_not, Bool.not_eq_true, Bool.not_eq_false, gt_iff_lt, ge_iff_le, Int.not_lt, Int.not_le] at h16q
                  show AWl _ _ _ _ _
                  refine aN rfl rfl (by constructor) ?_
                  refine aN rfl rfl (by constructor) ?_
                  refine sE ?_
                  show AW _ (.cond _ _ _) _ _ _
                  refine cC' rfl (fun h18 => ?_) (fun h18 => ?_)
                  · have h18q := h18; try simp only [decide_eq_true_eq, decide_eq_false_iff_not, beq_iff_eq, beq_eq_false_iff_ne, bne_iff_ne, bne_eq_false_iff_eq, ne_eq, Decidable.not_not, Bool.not_eq_true, Bool.not_eq_false, gt_iff_lt, ge_iff_le, Int.not_lt, Int.not_le] at h18q
                    subst h18q
                    show AW _ (.cond _ _ _) _ _ _
                    refine cT rfl ?_
                    show AWl _ _ _ _ _
                    refine aN rfl rfl (by constructor) ?_
                    refine aLit st rfl (by repeat constructor) fun b42 H19 st => ?_
                    refine aN rfl rfl (by constructor) ?_
                    refine aN rfl rfl (by constructor) ?_
                    refine sE ?_
                    refine ⟨_, out2 (r_tmp rfl (by constructor)) (r_tmp rfl (by constructor)) ⟨rfl, rfl⟩, ?_⟩
                    refine ⟨some b42, ?_, ?_, fun h => absurd h (by decide)⟩
                    · first | rfl | (simp [serveB, useL]; done)
                    · have st2 := st.pick 0 rfl; exact st2
                  · have h18q := h18; try simp only [decide_eq_true_eq, decide_eq_false_iff_not, beq_iff_eq, beq_eq_false_iff_ne, bne_iff_ne, bne_eq_false_iff_eq, ne_eq, Decidable.not_not, Bool.not_eq_true, Bool.not_eq_false, gt_iff_lt, ge_iff_le, Int.not_lt, Int.not_le] at h18q
                    show AWl _ _ _ _ _
                    refine aN rfl rfl (by constructor) ?_
                    refine aN rfl rfl (by constructor) ?_
                    refine sE ?_
                    show AW _ (.cond _ _ _) _ _ _
                    refine cC' rfl (fun h20 => ?_) (fun h20 => ?_)
                    · have h20q := h20; try simp only [decide_eq_true_eq, decide_eq_false_iff_not, beq_iff_eq, beq_eq_false_iff_ne, bne_iff_ne, bne_eq_false_iff_eq, ne_eq, Decidable.not_not, Bool.not_eq_true, Bool.not_eq_false, gt_iff_lt, ge_iff_le, Int.not_lt, Int.not_le] at h20q
                      subst h20q
                      show AWl _ _ _ _ _
                      refine aN rfl rfl (by constructor) ?_
                      refine aLit st rfl (by repeat constructor) fun b42 H21 st => ?_
                      refine aN rfl rfl (by constructor) ?_
                      refine aN rfl rfl (by constructor) ?_
                      refine sE ?_
                      refine ⟨_, out2 (r_tmp rfl (by constructor)) (r_tmp rfl (by constructor)) ⟨rfl, rfl⟩, ?_⟩
                      refine ⟨some b42, ?_, ?_, fun h => absurd h (by decide)⟩
                      · first | rfl | (simp [serveB, useL]; done)
                      · have st2 := st.pick 0 rfl; exact st2
                    · have h20q := h20; try simp only [decide_eq_true_eq, decide_eq_false_iff_not, beq_iff_eq, beq_eq_false_iff_ne, bne_iff_ne, bne_eq_false_iff_eq, ne_eq, Decidable.not_not, Bool.not_eq_true, Bool.not_eq_false, gt_iff_lt, ge_iff_le, Int.not_lt, Int.not_le] at h20q
                      show AWl _ _ _ _ _
                      refine aN rfl rfl (by constructor) ?_
                      refine aN rfl rfl (by constructor) ?_
                      refine sE ?_
                      show AW _ (.cond _ _ _) _ _ _
                      refine cC' rfl (fun h22 => ?_) (fun h22 => ?_)
                      · have h22q := h22; try simp only [decide_eq_true_eq, decide_eq_false_iff_not, beq_iff_eq, beq_eq_false_iff_ne, bne_iff_ne, bne_eq_false_iff_eq, ne_eq, Decidable.not_not, Bool.not_eq_true, Bool.not_eq_false, gt_iff_lt, ge_iff_le, Int.not_lt, Int.not_le] at h22q
                        subst h22q
                        show AWl _ _ _ _ _
                        refine aN rfl rfl (by constructor) ?_
                        refine aLit st rfl (by repeat constructor) fun b46 H23 st => ?_
                        refine aN rfl rfl (by constructor) ?_
                        refine aN rfl rfl (by constructor) ?_
                        refine sE ?_
                        refine ⟨_, out2 (r_tmp rfl (by constructor)) (r_tmp rfl (by constructor)) ⟨rfl, rfl⟩, ?_⟩
                        refine ⟨some b46, ?_, ?_, fun h => absurd h (by decide)⟩
                        · first | rfl | (simp [serveB, useL]; done)
                        · have st2 := st.pick 0 rfl; exact st2
                      · have h22q := h22; try simp only [decide_eq_true_eq, decide_eq_false_iff_not, beq_iff_eq, beq_eq_false_iff_ne, bne_iff_ne, bne_eq_false_iff_eq, ne_eq, Decidable.not_not, Bool.not_eq_true, Bool.not_eq_false, gt_iff_lt, ge_iff_le, Int.not_lt, Int.not_le] at h22q
                        show AWl _ _ _ _ _
                        refine aN rfl rfl (by constructor) ?_
                        refine aN rfl rfl (by constructor) ?_
                        refine sE ?_
                        show AW _ (.cond _ _ _) _ _ _
                        refine cC' rfl (fun h24 => ?_) (fun h24 => ?_)
                        · have h24q := h24; try simp only [decide_eq_true_eq, decide_eq_false_iff_not, beq_iff_eq, beq_eq_false_iff_ne, bne_iff_ne, bne_eq_false_iff_eq, ne_eq, Decidable.not_not, Bool.not_eq_true, Bool.not_eq_false, gt_iff_lt, ge_iff_le, Int.not_lt, Int.not_le] at h24q
                          subst h24q
                          show AWl _ _ _ _ _
                          refine aN rfl rfl (by constructor) ?_
                          refine aLit st rfl (by repeat constructor) fun b50 H25 st => ?_
                          refine aN rfl rfl (by constructor) ?_
                          refine aN rfl rfl (by constructor) ?_
                          refine sE ?_
                          refine ⟨_, out2 (r_tmp rfl (by constructor)) (r_tmp rfl (by constructor)) ⟨rfl, rfl⟩, ?_⟩
                          refine ⟨some b50, ?_, ?_, fun h => absurd h (by decide)⟩
                          · first | rfl | (simp [serveB, useL]; done)
                          · have st2 := st.pick 0 rfl; exact st2
                        · have h24q := h24; try simp only [decide_eq_true_eq, decide_eq_false_iff_not, beq_iff_eq, beq_eq_false_iff_ne, bne_iff_ne, bne_eq_false_iff_eq, ne_eq, Decidable.not_not, Bool.not_eq_true, Bool.not_eq_false, gt_iff_lt, ge_iff_le, Int.not_lt, Int.not_le] at h24q
                          show AWl _ _ _ _ _
                          refine aN rfl rfl (by constructor) ?_
                          refine aN rfl rfl (by constructor) ?_
                          refine sE ?_
                          show AW _ (.cond _ _ _) _ _ _
                          refine cC' rfl (fun h26 => ?_) (fun h26 => ?_)
                          · have h26q := h26; try simp only [decide_eq_true_eq, decide_eq_false_iff_not, beq_iff_eq, beq_eq_false_iff_ne, bne_iff_ne, bne_eq_false_iff_eq, ne_eq, Decidable.not_not, Bool.not_eq_true, Bool.not_eq_false, gt_iff_lt, ge_iff_le, Int.not_lt, Int.not_le] at h26q
                            subst h26q
                            show AWl _ _ _ _ _
                            refine aN rfl rfl (by constructor) ?_
                            refine aLit st rfl (by repeat constructor) fun b54 H27 st => ?_
                            refine aN rfl rfl (by constructor) ?_
                            refine aN rfl rfl (by constructor) ?_
                            refine sE ?_
                            refine ⟨_, out2 (r_tmp rfl (by constructor)) (r_tmp rfl (by constructor)) ⟨rfl, rfl⟩, ?_⟩
                            refine ⟨some b54, ?_, ?_, fun h => absurd h (by decide)⟩
                            · first | rfl | (simp [serveB, useL]; done)
                            · have st2 := st.pick 0 rfl; exact st2
                          · have h26q := h26; try simp only [decide_eq_true_eq, decide_eq_false_iff_not, beq_iff_eq, beq_eq_false_iff_ne, bne_iff_ne, bne_eq_false_iff_eq, ne_eq, Decidable.not_not, Bool.not_eq_true, Bool.not_eq_false, gt_iff_lt, ge_iff_le, Int.not_lt, Int.not_le] at h26q
                            show AWl _ _ _ _ _
                            refine aN rfl rfl (by constructor) ?_
                            refine aN rfl rfl (by constructor) ?_
                            refine sE ?_
                            show AW _ (.cond _ _ _) _ _ _
                            refine cC' rfl (fun h28 => ?_) (fun h28 => ?_)
                            · have h28q := h28; try simp only [decide_eq_true_eq, decide_eq_false_iff_not, beq_iff_eq, beq_eq_false_iff_ne, bne_iff_ne, bne_eq_false_iff_eq, ne_eq, Decidable.not_not, Bool.not_eq_true, Bool.not_eq_false, gt_iff_lt, ge_iff_le, Int.not_lt, Int.not_le] at h28q
                              subst h28q
                              show AWl _ _ _ _ _
                              refine aN rfl rfl (by constructor) ?_
                              refine aLit st rfl (by repeat constructor) fun b58 H29 st => ?_
                              refine aN rfl rfl (by constructor) ?_
                              refine aN rfl rfl (by constructor) ?_
                              refine sE ?_
                              refine ⟨_, out2 (r_tmp rfl (by constructor)) (r_tmp rfl (by constructor)) ⟨rfl, rfl⟩, ?_⟩
                              refine ⟨some b58, ?_, ?_, fun h => absurd h (by decide)⟩
                              · first | rfl | (simp [serveB, useL]; done)
                              · have st2 := st.pick 0 rfl; exact st2
                            · have h28q := h28; try simp only [decide_eq_true_eq, decide_eq_false_iff_not, beq_iff_eq, beq_eq_false_iff_ne, bne_iff_ne, bne_eq_false_iff_eq, ne_eq, Decidable.not_not, Bool.not_eq_true, Bool.not_eq_false, gt_iff_lt, ge_iff_le, Int.not_lt, Int.not_le] at h28q
                              show AWl _ _ _ _ _
                              refine aN rfl rfl (by constructor) ?_
                              refine aN rfl rfl (by constructor) ?_
                              refine sE ?_
                              show AW _ (.cond _ _ _) _ _ _
                              refine cC' rfl (fun h30 => ?_) (fun h30 => ?_)
                              · have h30q := h30; try simp only [decide_eq_true_eq, decide_eq_false_iff_not, beq_iff_eq, beq_eq_false_iff_ne, bne_iff_ne, bne_eq_false_iff_eq, ne_eq, Decidable.not_not, Bool.not_eq_true, Bool.not_eq_false, gt_iff_lt, ge_iff_le, Int.not_lt, Int.not_le] at h30q
                                subst h30q
                                show AWl _ _ _ _ _
                                refine aN rfl rfl (by constructor) ?_
                                refine aLit st rfl (by repeat constructor) fun b62 H31 st => ?_
                                refine aN rfl rfl (by constructor) ?_
                                refine aN rfl rfl (by constructor) ?_
                                refine sE ?_
                                refine ⟨_, out2 (r_tmp rfl (by constructor)) (r_tmp rfl (by constructor)) ⟨rfl, rfl⟩, ?_⟩
                                refine ⟨some b62, ?_, ?_, fun h => absurd h (by decide)⟩
                                · first | rfl | (simp [serveB, useL]; done)
                                · have st2 := st.pick 0 rfl; exact st2
                              · have h30q := h30; try simp only [decide_eq_true_eq, decide_eq_false_iff_not, beq_iff_eq, beq_eq_false_iff_ne, bne_iff_ne, bne_eq_false_iff_eq, ne_eq, Decidable.not_not, Bool.not_eq_true, Bool.not_eq_false, gt_iff_lt, ge_iff_le, Int.not_lt, Int.not_le] at h30q
                                show AWl _ _ _ _ _
                                refine aN rfl rfl (by constructor) ?_
                                refine aN rfl rfl (by constructor) ?_
                                refine sE ?_
                                show AW _ (.cond _ _ _) _ _ _
                                refine cC' rfl (fun h32 => ?_) (fun h32 => ?_)
                                · have h32q := h32; try simp only [decide_eq_true_eq, decide_eq_false_iff_not, beq_iff_eq, beq_eq_false_iff_ne, bne_iff_ne, bne_eq_false_iff_eq, ne_eq, Decidable.not_not, Bool.not_eq_true, Bool.not_eq_false, gt_iff_lt, ge_iff_le, Int.not_lt, Int.not_le] at h32q
                                  subst h32q
                                  show AWl _ _ _ _ _
                                  refine aN rfl rfl (by constructor) ?_
                                  refine aLit st rfl (by repeat constructor) fun b66 H33 st => ?_
                                  refine aN rfl rfl (by constructor) ?_
                                  refine aN rfl rfl (by constructor) ?_
                                  refine sE ?_
                                  refine ⟨_, out2 (r_tmp rfl (by constructor)) (r_tmp rfl (by constructor)) ⟨rfl, rfl⟩, ?_⟩
                                  refine ⟨some b66, ?_, ?_, fun h => absurd h (by decide)⟩
                                  · first | rfl | (simp [serveB, useL]; done)
                                  · have st2 := st.pick 0 rfl; exact st2
                                · have h32q := h32; try simp only [decide_eq_true_eq, decide_eq_false_iff_not, beq_iff_eq, beq_eq_false_iff_ne, bne_iff_ne, bne_eq_false_iff_eq, ne_eq, Decidable.not_not, Bool.not_eq_true, Bool.not_eq_false, gt_iff_lt, ge_iff_le, Int.not_lt, Int.not_le] at h32q
                                  show AWl _ _ _ _ _
                                  refine aN rfl rfl (by constructor) ?_
                                  refine aN rfl rfl (by constructor) ?_
                                  refine sE ?_
                                  show AW _ (.cond _ _ _) _ _ _
                                  refine cC' rfl (fun h34 => ?_) (fun h34 => ?_)
                                  · have h34q := h34; try simp only [decide_eq_true_eq, decide_eq_false_iff_not, beq_iff_eq, beq_eq_false_iff_ne, bne_iff_ne, bne_eq_false_iff_eq, ne_eq, Decidable.not_not, Bool.not_eq_true, Bool.not_eq_false, gt_iff_lt, ge_iff_le, Int.not_lt, Int.not_le] at h34q
                                    subst h34q
                                    show AWl _ _ _ _ _
                                    refine aN rfl rfl (by constructor) ?_
                                    refine aLit st rfl (by repeat constructor) fun b70 H35 st => ?_
                                    refine aN rfl rfl (by constructor) ?_
                                    refine aN rfl rfl (by constructor) ?_
                                    refine sE ?_
                                    refine ⟨_, out2 (r_tmp rfl (by constructor)) (r_tmp rfl (by constructor)) ⟨rfl, rfl⟩, ?_⟩
                                    refine ⟨some b70, ?_, ?_, fun h => absurd h (by decide)⟩
                                    · first | rfl | (simp [serveB, useL]; done)
                                    · have st2 := st.pick 0 rfl; exact st2
                                  · have h34q := h34; try simp only [decide_eq_true_eq, decide_eq_false_iff_not, beq_iff_eq, beq_eq_false_iff_ne, bne_iff_ne, bne_eq_false_iff_eq, ne_eq, Decidable.not_not, Bool.not_eq_true, Bool.not_eq_false, gt_iff_lt, ge_iff_le, Int.not_lt, Int.not_le] at h34q
                                    show AWl _ _ _ _ _
                                    refine aN rfl rfl (by constructor) ?_
                                    refine aN rfl rfl (by constructor) ?_
                                    refine sE ?_
                                    show AW _ (.cond _ _ _) _ _ _
                                    refine cC' rfl (fun h36 => ?_) (fun h36 => ?_)
                                    · have h36q := h36; try simp only [decide_eq_true_eq, decide_eq_false_iff_not, beq_iff_eq, beq_eq_false_iff_ne, bne_iff_ne, bne_eq_false_iff_eq, ne_eq, Decidable.not_not, Bool.not_eq_true, Bool.not_eq_false, gt_iff_lt, ge_iff_le, Int.not_lt, Int.not_le] at h36q
                                      subst h36q
                                      show AWl _ _ _ _ _
                                      refine aN rfl rfl (by constructor) ?_
                                      refine aLit st rfl (by repeat constructor) fun b74 H37 st => ?_
                                      refine aN rfl rfl (by constructor) ?_
                                      refine aN rfl rfl (by constructor) ?_
                                      refine aN rfl rfl (by constructor) ?_
                                      refine aN rfl rfl (by constructor) ?_
                                      refine sE ?_
                                      refine ⟨_, out2 (r_tmp rfl (by constructor)) (r_tmp rfl (by constructor)) ⟨rfl, rfl⟩, ?_⟩
                                      refine ⟨some b74, ?_, ?_, fun h => absurd h (by decide)⟩
                                      · first | rfl | (simp [serveB, useL]; done)
                                      · have st2 := st.pick 0 rfl; exact st2
                                    · have h36q := h36; try simp only [decide_eq_true_eq, decide_eq_false_iff_not, beq_iff_eq, beq_eq_false_iff_ne, bne_iff_ne, bne_eq_false_iff_eq, ne_eq, Decidable.not_not, Bool.not_eq_true, Bool.not_eq_false, gt_iff_lt, ge_iff_le, Int.not_lt, Int.not_le] at h36q
                                      show AWl _ _ _ _ _
                                      refine aN rfl rfl (by constructor) ?_
                                      refine aN rfl rfl (by constructor) ?_
                                      refine sE ?_
                                      show AW _ (.cond _ _ _) _ _ _
                                      refine cC' rfl (fun h38 => ?_) (fun h38 => ?_)
                                      · have h38q := h38; try simp only [decide_eq_true_eq, decide_eq_false_iff_not, beq_iff_eq, beq_eq_false_iff_ne, bne_iff_ne, bne_eq_false_iff_eq, ne_eq, Decidable.not_not, Bool.not_eq_true, Bool.not_eq_false, gt_iff_lt, ge_iff_le, Int.not_lt, Int.not_le] at h38q
                                        subst h38q
                                        show AWl _ _ _ _ _
                                        refine aN rfl rfl (by constructor) ?_
                                        refine aLit st rfl (by repeat constructor) fun b80 H39 st => ?_
                                        refine aN rfl rfl (by constructor) ?_
                                        refine aN rfl rfl (by constructor) ?_
                                        refine aN rfl rfl (by constructor) ?_
                                        refine aN rfl rfl (by constructor) ?_
                                        refine sE ?_
                                        refine ⟨_, out2 (r_tmp rfl (by constructor)) (r_tmp rfl (by constructor)) ⟨rfl, rfl⟩, ?_⟩
                                        refine ⟨some b80, ?_, ?_, fun h => absurd h (by decide)⟩
                                        · first | rfl | (simp [serveB, useL]; done)
                                        · have st2 := st.pick 0 rfl; exact st2
                                      · have h38q := h38; try simp only [decide_eq_true_eq, decide_eq_false_iff_not, beq_iff_eq, beq_eq_false_iff_ne, bne_iff_ne, bne_eq_false_iff_eq, ne_eq, Decidable.not_not, Bool.not_eq_true, Bool.not_eq_false, gt_iff_lt, ge_iff_le, Int.not_lt, Int.not_le] at h38q
                                        show AWl _ _ _ _ _
                                        refine aN rfl rfl (by constructor) ?_
                                        refine aN rfl rfl (by constructor) ?_
                                        refine sE ?_
                                        show AW _ (.cond _ _ _) _ _ _
                                        refine cC' rfl (fun h40 => ?_) (fun h40 => ?_)
                                        · have h40q := h40; try simp only [decide_eq_true_eq, decide_eq_false_iff_not, beq_iff_eq, beq_eq_false_iff_ne, bne_iff_ne, bne_eq_false_iff_eq, ne_eq, Decidable.not_not, Bool.not_eq_true, Bool.not_eq_false, gt_iff_lt, ge_iff_le, Int.not_lt, Int.not_le] at h40q
                                          subst h40q
                                          show AWl _ _ _ _ _
                                          refine aN rfl rfl (by constructor) ?_
                                          refine aLit st rfl (by repeat constructor) fun b86 H41 st => ?_
                                          refine aN rfl rfl (by constructor) ?_
                                          refine aCutH (n := 12) (xs := [255, 255, 255, 255, 255, 255, 255, 255, 255, 255, 255, 255]) (st.rowAll 1 rfl (by first | rfl | (simp [beB_len, *]; done) | (simp [beB_len, *]; omega))) rfl rfl (by decide) fun v88 s88 => ?_
                                          refine aAppP st 0 (ob := some b86) rfl rfl rfl (by decide) (by first | rfl | (simp [beB_len, *]; done) | (simp [beB_len, *]; omega)) (s88 _ (st.rowAll 1 rfl (by first | rfl | (simp [beB_len, *]; done) | (simp [beB_len, *]; omega)))).src (by first | rfl | (simp [beB_len, *]; done) | (simp [beB_len, *]; omega)) (by first | decide | omega | (simp; omega)) (by first | decide | omega | (simp; omega)) (by first | decide | omega | (simp; omega)) (by repeat constructor) fun b89 H42 st => ?_
                                          refine aLit st rfl (by repeat constructor) fun b90 H43 st => ?_
                                          refine aAppP st 1 (ob := some b89) rfl rfl rfl (by decide) (by first | rfl | (simp [beB_len, *]; done) | (simp [beB_len, *]; omega)) (st.rowAll 0 rfl (by first | rfl | (simp [beB_len, *]; done) | (simp [beB_len, *]; omega))).src (by first | rfl | (simp [beB_len, *]; done) | (simp [beB_len, *]; omega)) (by first | decide | omega | (simp; omega)) (by first | decide | omega | (simp; omega)) (by first | decide | omega | (simp; omega)) (by repeat constructor) fun b91 H44 st => ?_
                                          refine aN rfl rfl (by constructor) ?_
                                          refine aN rfl rfl (by constructor) ?_
                                          refine aN rfl rfl (by constructor) ?_
                                          refine aN rfl rfl (by constructor) ?_
                                          refine sE ?_
                                          refine ⟨_, out2 (r_tmp rfl (by constructor)) (r_tmp rfl (by constructor)) ⟨rfl, rfl⟩, ?_⟩
                                          refine ⟨some b91, ?_, ?_, fun h => absurd h (by decide)⟩
                                          · first | rfl | (simp [serveB, useL]; done)
                                          · have st2 := st.pick 1 rfl; exact st2
                                        · have h40q := h40; try simp only [decide_eq_true_eq, decide_eq_false_iff_not, beq_iff_eq, beq_eq_false_iff_ne, bne_iff_ne, bne_eq_false_iff_eq, ne_eq, Decidable.not_not, Bool.not_eq_true, Bool.not_eq_false, gt_iff_lt, ge_iff_le, Int.not_lt, Int.not_le] at h40q
                                          show AWl _ _ _ _ _
                                          refine aN rfl rfl (by constructor) ?_
                                          refine aN rfl rfl (by constructor) ?_
                                          refine sE ?_
                                          show AW _ (.cond _ _ _) _ _ _
                                          refine cC' rfl (fun h45 => ?_) (fun h45 => ?_)
                                          · have h45q := h45; try simp only [decide_eq_true_eq, decide_eq_false_iff_not, beq_iff_eq, beq_eq_false_iff_ne, bne_iff_ne, bne_eq_false_iff_eq, ne_eq, Decidable.not_not, Bool.not_eq_true, Bool.not_eq_false, gt_iff_lt, ge_iff_le, Int.not_lt, Int.not_le] at h45q
                                            subst h45q
                                            show AW _ (.cond _ _ _) _ _ _
                                            refine cT rfl ?_
                                            show AWl _ _ _ _ _
                                            refine aN rfl rfl (by constructor) ?_
                                            refine aLit st rfl (by repeat constructor) fun b98 H46 st => ?_
                                            refine aN rfl rfl (by constructor) ?_
                                            refine aAppP st 0 (ob := some b98) rfl rfl rfl (by decide) (by first | rfl | (simp [beB_len, *]; done) | (simp [beB_len, *]; omega)) (st.rowAll 1 rfl (by first | rfl | (simp [beB_len, *]; done) | (simp [beB_len, *]; omega))).src (by first | rfl | (simp [beB_len, *]; done) | (simp [beB_len, *]; omega)) (by first | decide | omega | (simp; omega)) (by first | decide | omega | (simp; omega)) (by first | decide | omega | (simp; omega)) (by repeat constructor) fun b100 H47 st => ?_
                                            refine aLit st rfl (by repeat constructor) fun b101 H48 st => ?_
                                            refine aAppP st 1 (ob := some b100) rfl rfl rfl (by decide) (by first | rfl | (simp [beB_len, *]; done) | (simp [beB_len, *]; omega)) (st.rowAll 0 rfl (by first | rfl | (simp [beB_len, *]; done) | (simp [beB_len, *]; omega))).src (by first | rfl | (simp [beB_len, *]; done) | (simp [beB_len, *]; omega)) (by first | decide | omega | (simp; omega)) (by first | decide | omega | (simp; omega)) (by first | decide | omega | (simp; omega)) (by repeat constructor) fun b102 H49 st => ?_
                                            refine aN rfl rfl (by constructor) ?_
                                            refine aN rfl rfl (by constructor) ?_
                                            refine sE ?_
                                            refine ⟨_, out2 (r_tmp rfl (by constructor)) (r_tmp rfl (by constructor)) ⟨rfl, rfl⟩, ?_⟩
                                            refine ⟨some b102, ?_, ?_, fun h => absurd h (by decide)⟩
                                            · first | rfl | (simp [serveB, useL]; done)
                                            · have st2 := st.pick 1 rfl; exact st2
                                          · have h45q := h45; try simp only [decide_eq_true_eq, decide_eq_false_iff_not, beq_iff_eq, beq_eq_false_iff_ne, bne_iff_ne, bne_eq_false_iff_eq, ne_eq, Decidable.not_not, Bool.not_eq_true, Bool.not_eq_false, gt_iff_lt, ge_iff_le, Int.not_lt, Int.not_le] at h45q
                                            show AWl _ _ _ _ _
                                            refine aN rfl rfl (by constructor) ?_
                                            refine aN rfl rfl (by constructor) ?_
                                            refine sE ?_
                                            show AW _ (.cond _ _ _) _ _ _
                                            refine cC' rfl (fun h50 => ?_) (fun h50 => ?_)
                                            · have h50q := h50; try simp only [decide_eq_true_eq, decide_eq_false_iff_not, beq_iff_eq, beq_eq_false_iff_ne, bne_iff_ne, bne_eq_false_iff_eq, ne_eq, Decidable.not_not, Bool.not_eq_true, Bool.not_eq_false, gt_iff_lt, ge_iff_le, Int.not_lt, Int.not_le] at h50q
                                              subst h50q
                                              show AWl _ _ _ _ _
                                              refine aN rfl rfl (by constructor) ?_
                                              refine aLit st rfl (by repeat constructor) fun b98 H51 st => ?_
                                              refine aN rfl rfl (by constructor) ?_
                                              refine aAppP st 0 (ob := some b98) rfl rfl rfl (by decide) (by first | rfl | (simp [beB_len, *]; done) | (simp [beB_len, *]; omega)) (st.rowAll 1 rfl (by first | rfl | (simp [beB_len, *]; done) | (simp [beB_len, *]; omega))).src (by first | rfl | (simp [beB_len, *]; done) | (simp [beB_len, *]; omega)) (by first | decide | omega | (simp; omega)) (by first | decide | omega | (simp; omega)) (by first | decide | omega | (simp; omega)) (by repeat constructor) fun b100 H52 st => ?_
                                              refine aLit st rfl (by repeat constructor) fun b101 H53 st => ?_
                                              refine aAppP st 1 (ob := some b100) rfl rfl rfl (by decide) (by first | rfl | (simp [beB_len, *]; done) | (simp [beB_len, *]; omega)) (st.rowAll 0 rfl (by first | rfl | (simp [beB_len, *]; done) | (simp [beB_len, *]; omega))).src (by first | rfl | (simp [beB_len, *]; done) | (simp [beB_len, *]; omega)) (by first | decide | omega | (simp; omega)) (by first | decide | omega | (simp; omega)) (by first | decide | omega | (simp; omega)) (by repeat constructor) fun b102 H54 st => ?_
                                              refine aN rfl rfl (by constructor) ?_
                                              refine aN rfl rfl (by constructor) ?_
                                              refine sE ?_
                                              refine ⟨_, out2 (r_tmp rfl (by constructor)) (r_tmp rfl (by constructor)) ⟨rfl, rfl⟩, ?_⟩
                                              refine ⟨some b102, ?_, ?_, fun h => absurd h (by decide)⟩
                                              · first | rfl | (simp [serveB, useL]; done)
                                              · have st2 := st.pick 1 rfl; exact st2
                                            · have h50q := h50; try simp only [decide_eq_true_eq, decide_eq_false_iff_not, beq_iff_eq, beq_eq_false_iff_ne, bne_iff_ne, bne_eq_false_iff_eq, ne_eq, Decidable.not_not, Bool.not_eq_true, Bool.not_eq_false, gt_iff_lt, ge_iff_le, Int.not_lt, Int.not_le] at h50q
                                              show AWl _ _ _ _ _
                                              refine aN rfl rfl (by constructor) ?_
                                              refine aN rfl rfl (by constructor) ?_
                                              refine sE ?_
                                              show AW _ (.cond _ _ _) _ _ _
                                              refine cC' rfl (fun h55 => ?_) (fun h55 => ?_)
                                              · have h55q := h55; try simp only [decide_eq_true_eq, decide_eq_false_iff_not, beq_iff_eq, beq_eq_false_iff_ne, bne_iff_ne, bne_eq_false_iff_eq, ne_eq, Decidable.not_not, Bool.not_eq_true, Bool.not_eq_false, gt_iff_lt, ge_iff_le, Int.not_lt, Int.not_le] at h55q
                                                subst h55q
                                                show AWl _ _ _ _ _
                                                refine aN rfl rfl (by constructor) ?_
                                                refine aLit st rfl (by repeat constructor) fun b106 H56 st => ?_
                                                refine aN rfl rfl (by constructor) ?_
                                                refine aCutH (n := 12) (xs := [255, 255, 255, 255, 255, 255, 255, 255, 255, 255, 255, 255]) (st.rowAll 1 rfl (by first | rfl | (simp [beB_len, *]; done) | (simp [beB_len, *]; omega))) rfl rfl (by decide) fun v108 s108 => ?_
                                                refine aAppP st 0 (ob := some b106) rfl rfl rfl (by decide) (by first | rfl | (simp [beB_len, *]; done) | (simp [beB_len, *]; omega)) (s108 _ (st.rowAll 1 rfl (by first | rfl | (simp [beB_len, *]; done) | (simp [beB_len, *]; omega)))).src (by first | rfl | (simp [beB_len, *]; done) | (simp [beB_len, *]; omega)) (by first | decide | omega | (simp; omega)) (by first | decide | omega | (simp; omega)) (by first | decide | omega | (simp; omega)) (by repeat constructor) fun b109 H57 st => ?_
                                                refine aLit st rfl (by repeat constructor) fun b110 H58 st => ?_
                                                refine aAppP st 1 (ob := some b109) rfl rfl rfl (by decide) (by first | rfl | (simp [beB_len, *]; done) | (simp [beB_len, *]; omega)) (st.rowAll 0 rfl (by first | rfl | (simp [beB_len, *]; done) | (simp [beB_len, *]; omega))).src (by first | rfl | (simp [beB_len, *]; done) | (simp [beB_len, *]; omega)) (by first | decide | omega | (simp; omega)) (by first | decide | omega | (simp; omega)) (by first | decide | omega | (simp; omega)) (by repeat constructor) fun b111 H59 st => ?_
                                                refine aN rfl rfl (by constructor) ?_
                                                refine aN rfl rfl (by constructor) ?_
                                                refine sE ?_
                                                refine ⟨_, out2 (r_tmp rfl (by constructor)) (r_tmp rfl (by constructor)) ⟨rfl, rfl⟩, ?_⟩
                                                refine ⟨some b111, ?_, ?_, fun h => absurd h (by decide)⟩
                                                · first | rfl | (simp [serveB, useL]; done)
                                                · have st2 := st.pick 1 rfl; exact st2
                                              · have h55q := h55; try simp only [decide_eq_true_eq, decide_eq_false_iff_not, beq_iff_eq, beq_eq_false_iff_ne, bne_iff_ne, bne_eq_false_iff_eq, ne_eq, Decidable.not_not, Bool.not_eq_true, Bool.not_eq_false, gt_iff_lt, ge_iff_le, Int.not_lt, Int.not_le] at h55q
                                                show AWl _ _ _ _ _
                                                refine aN rfl rfl (by constructor) ?_
                                                refine aN rfl rfl (by constructor) ?_
                                                refine sE ?_
                                                show AW _ (.cond _ _ _) _ _ _
                                                refine cC' rfl (fun h60 => ?_) (fun h60 => ?_)
                                                · have h60q := h60; try simp only [decide_eq_true_eq, decide_eq_false_iff_not, beq_iff_eq, beq_eq_false_iff_ne, bne_iff_ne, bne_eq_false_iff_eq, ne_eq, Decidable.not_not, Bool.not_eq_true, Bool.not_eq_false, gt_iff_lt, ge_iff_le, Int.not_lt, Int.not_le] at h60q
                                                  subst h60q
                                                  show AWl _ _ _ _ _
                                                  refine aN rfl rfl (by constructor) ?_
                                                  refine aLit st rfl (by repeat constructor) fun b115 H61 st => ?_
                                                  refine aN rfl rfl (by constructor) ?_
                                                  refine aAppP st 0 (ob := some b115) rfl rfl rfl (by decide) (by first | rfl | (simp [beB_len, *]; done) | (simp [beB_len, *]; omega)) (st.rowAll 1 rfl (by first | rfl | (simp [beB_len, *]; done) | (simp [beB_len, *]; omega))).src (by first | rfl | (simp [beB_len, *]; done) | (simp [beB_len, *]; omega)) (by first | decide | omega | (simp; omega)) (by first | decide | omega | (simp; omega)) (by first | decide | omega | (simp; omega)) (by repeat constructor) fun b117 H62 st => ?_
                                                  refine aLit st rfl (by repeat constructor) fun b118 H63 st => ?_
                                                  refine aAppP st 1 (ob := some b117) rfl rfl rfl (by decide) (by first | rfl | (simp [beB_len, *]; done) | (simp [beB_len, *]; omega)) (st.rowAll 0 rfl (by first | rfl | (simp [beB_len, *]; done) | (simp [beB_len, *]; omega))).src (by first | rfl | (simp [beB_len, *]; done) | (simp [beB_len, *]; omega)) (by first | decide | omega | (simp; omega)) (by first | decide | omega | (simp; omega)) (by first | decide | omega | (simp; omega)) (by repeat constructor) fun b119 H64 st => ?_
                                                  refine aN rfl rfl (by constructor) ?_
                                                  refine aN rfl rfl (by constructor) ?_
                                                  refine sE ?_
                                                  refine ⟨_, out2 (r_tmp rfl (by constructor)) (r_tmp rfl (by constructor)) ⟨rfl, rfl⟩, ?_⟩
                                                  refine ⟨some b119, ?_, ?_, fun h => absurd h (by decide)⟩
                                                  · first | rfl | (simp [serveB, useL]; done)
                                                  · have st2 := st.pick 1 rfl; exact st2
                                                · have h60q := h60; try simp only [decide_eq_true_eq, decide_eq_false_iff_not, beq_iff_eq, beq_eq_false_iff_ne, bne_iff_ne, bne_eq_false_iff_eq, ne_eq, Decidable.not_not, Bool.not_eq_true, Bool.not_eq_false, gt_iff_lt, ge_iff_le, Int.not_lt, Int.not_le] at h60q
                                                  show AWl _ _ _ _ _
                                                  refine aN rfl rfl (by constructor) ?_
                                                  refine aN rfl rfl (by constructor) ?_
                                                  refine sE ?_
                                                  show AW _ (.cond _ _ _) _ _ _
                                                  refine cC' rfl (fun h65 => ?_) (fun h65 => ?_)
                                                  · have h65q := h65; try simp only [decide_eq_true_eq, decide_eq_false_iff_not, beq_iff_eq, beq_eq_false_iff_ne, bne_iff_ne, bne_eq_false_iff_eq, ne_eq, Decidable.not_not, Bool.not_eq_true, Bool.not_eq_false, gt_iff_lt, ge_iff_le, Int.not_lt, Int.not_le] at h65q
                                                    subst h65q
                                                    show AWl _ _ _ _ _
                                                    refine aN rfl rfl (by constructor) ?_
                                                    refine aLit st rfl (by repeat constructor) fun b123 H66 st => ?_
                                                    refine aN rfl rfl (by constructor) ?_
                                                    refine aAppP st 0 (ob := some b123) rfl rfl rfl (by decide) (by first | rfl | (simp [beB_len, *]; done) | (simp [beB_len, *]; omega)) (st.rowAll 1 rfl (by first | rfl | (simp [beB_len, *]; done) | (simp [beB_len, *]; omega))).src (by first | rfl | (simp [beB_len, *]; done) | (simp [beB_len, *]; omega)) (by first | decide | omega | (simp; omega)) (by first | decide | omega | (simp; omega)) (by first | decide | omega | (simp; omega)) (by repeat constructor) fun b125 H67 st => ?_
                                                    refine aLit st rfl (by repeat constructor) fun b126 H68 st => ?_
                                                    refine aAppP st 1 (ob := some b125) rfl rfl rfl (by decide) (by first | rfl | (simp [beB_len, *]; done) | (simp [beB_len, *]; omega)) (st.rowAll 0 rfl (by first | rfl | (simp [beB_len, *]; done) | (simp [beB_len, *]; omega))).src (by first | rfl | (simp [beB_len, *]; done) | (simp [beB_len, *]; omega)) (by first | decide | omega | (simp; omega)) (by first | decide | omega | (simp; omega)) (by first | decide | omega | (simp; omega)) (by repeat constructor) fun b127 H69 st => ?_
                                                    refine aN rfl rfl (by constructor) ?_
                                                    refine aN rfl rfl (by constructor) ?_
                                                    refine sE ?_
                                                    refine ⟨_, out2 (r_tmp rfl (by constructor)) (r_tmp rfl (by constructor)) ⟨rfl, rfl⟩, ?_⟩
                                                    refine ⟨some b127, ?_, ?_, fun h => absurd h (by decide)⟩
                                                    · first | rfl | (simp [serveB, useL]; done)
                                                    · have st2 := st.pick 1 rfl; exact st2
                                                  · have h65q := h65; try simp only [decide_eq_true_eq, decide_eq_false_iff_not, beq_iff_eq, beq_eq_false_iff_ne, bne_iff_ne, bne_eq_false_iff_eq, ne_eq, Decidable.not_not, Bool.not_eq_true, Bool.not_eq_false, gt_iff_lt, ge_iff_le, Int.not_lt, Int.not_le] at h65q
                                                    show AWl _ _ _ _ _
                                                    refine aN rfl rfl (by constructor) ?_
                                                    refine aN rfl rfl (by constructor) ?_
                                                    refine sE ?_
                                                    show AW _ (.cond _ _ _) _ _ _
                                                    refine cC' rfl (fun h70 => ?_) (fun h70 => ?_)
                                                    · have h70q := h70; try simp only [decide_eq_true_eq, decide_eq_false_iff_not, beq_iff_eq, beq_eq_false_iff_ne, bne_iff_ne, bne_eq_false_iff_eq, ne_eq, Decidable.not_not, Bool.not_eq_true, Bool.not_eq_false, gt_iff_lt, ge_iff_le, Int.not_lt, Int.not_le] at h70q
                                                      subst h70q
                                                      show AWl _ _ _ _ _
                                                      refine aN rfl rfl (by constructor) ?_
                                                      refine aLit st rfl (by repeat constructor) fun b131 H71 st => ?_
                                                      refine aN rfl rfl (by constructor) ?_
                                                      refine aCutH (n := 12) (xs := [255, 255, 255, 255, 255, 255, 255, 255, 255, 255, 255, 255]) (st.rowAll 1 rfl (by first | rfl | (simp [beB_len, *]; done) | (simp [beB_len, *]; omega))) rfl rfl (by decide) fun v133 s133 => ?_
                                                      refine aAppP st 0 (ob := some b131) rfl rfl rfl (by decide) (by first | rfl | (simp [beB_len, *]; done) | (simp [beB_len, *]; omega)) (s133 _ (st.rowAll 1 rfl (by first | rfl | (simp [beB_len, *]; done) | (simp [beB_len, *]; omega)))).src (by first | rfl | (simp [beB_len, *]; done) | (simp [beB_len, *]; omega)) (by first | decide | omega | (simp; omega)) (by first | decide | omega | (simp; omega)) (by first | decide | omega | (simp; omega)) (by repeat constructor) fun b134 H72 st => ?_
                                                      refine aLit st rfl (by repeat constructor) fun b135 H73 st => ?_
                                                      refine aAppP st 1 (ob := some b134) rfl rfl rfl (by decide) (by first | rfl | (simp [beB_len, *]; done) | (simp [beB_len, *]; omega)) (st.rowAll 0 rfl (by first | rfl | (simp [beB_len, *]; done) | (simp [beB_len, *]; omega))).src (by first | rfl | (simp [beB_len, *]; done) | (simp [beB_len, *]; omega)) (by first | decide | omega | (simp; omega)) (by first | decide | omega | (simp; omega)) (by first | decide | omega | (simp; omega)) (by repeat constructor) fun b136 H74 st => ?_
                                                      refine aN rfl rfl (by constructor) ?_
                                                      refine aN rfl rfl (by constructor) ?_
                                                      refine aN rfl rfl (by constructor) ?_
                                                      refine aN rfl rfl (by constructor) ?_
                                                      refine sE ?_
                                                      refine ⟨_, out2 (r_tmp rfl (by constructor)) (r_tmp rfl (by constructor)) ⟨rfl, rfl⟩, ?_⟩
                                                      refine ⟨some b136, ?_, ?_, fun h => absurd h (by decide)⟩
                                                      · first | rfl | (simp [serveB, useL]; done)
                                                      · have st2 := st.pick 1 rfl; exact st2
                                                    · have h70q := h70; try simp only [decide_eq_true_eq, decide_eq_false_iff_not, beq_iff_eq, beq_eq_false_iff_ne, bne_iff_ne, bne_eq_false_iff_eq, ne_eq, Decidable.not_not, Bool.not_eq_true, Bool.not_eq_false, gt_iff_lt, ge_iff_le, Int.not_lt, Int.not_le] at h70q
                                                      show AWl _ _ _ _ _
                                                      refine aN rfl rfl (by constructor) ?_
                                                      refine aN rfl rfl (by constructor) ?_
                                                      refine sE ?_
                                                      show AW _ (.cond _ _ _) _ _ _
                                                      refine cC' rfl (fun h75 => ?_) (fun h75 => ?_)
                                                      · have h75q := h75; try simp only [decide_eq_true_eq, decide_eq_false_iff_not, beq_iff_eq, beq_eq_false_iff_ne, bne_iff_ne, bne_eq_false_iff_eq, ne_eq, Decidable.not_not, Bool.not_eq_true, Bool.not_eq_false, gt_iff_lt, ge_iff_le, Int.not_lt, Int.not_le] at h75q
                                                        subst h75q
                                                        show AWl _ _ _ _ _
                                                        refine aN rfl rfl (by constructor) ?_
                                                        refine aLit st rfl (by repeat constructor) fun b142 H76 st => ?_
                                                        refine aN rfl rfl (by constructor) ?_
                                                        refine aN rfl rfl (by constructor) ?_
                                                        refine sE ?_
                                                        refine ⟨_, out2 (r_tmp rfl (by constructor)) (r_tmp rfl (by constructor)) ⟨rfl, rfl⟩, ?_⟩
                                                        refine ⟨some b142, ?_, ?_, fun h => absurd h (by decide)⟩
                                                        · first | rfl | (simp [serveB, useL]; done)
                                                        · have st2 := st.pick 0 rfl; exact st2
                                                      · have h75q := h75; try simp only [decide_eq_true_eq, decide_eq_false_iff_not, beq_iff_eq, beq_eq_false_iff_ne, bne_iff_ne, bne_eq_false_iff_eq, ne_eq, Decidable.not_not, Bool.not_eq_true, Bool.not_eq_false, gt_iff_lt, ge_iff_le, Int.not_lt, Int.not_le] at h75q
                                                        show AWl _ _ _ _ _
                                                        refine aN rfl rfl (by constructor) ?_
                                                        refine aN rfl rfl (by constructor) ?_
                                                        refine sE ?_
                                                        refine ⟨_, out2 (r_tmp rfl (by constructor)) (r_tmp rfl (by constructor)) ⟨rfl, rfl⟩, ?_⟩
                                                        have e : useL op = [] := by unfold useL; simp only [if_false, *]
                                                        have e2 : serveB op sv = false := by unfold serveB; rw [e]; simp only [if_false, *]; rfl
                                                        exact ⟨none, by rw [e, e2]; rfl, by rw [e]; exact (st.nil 5).pick 0 rfl, fun _ => rfl⟩
end Go.Proofs.Ytlbmfcbcmfcjbaa.Abs
