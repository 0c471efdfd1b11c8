/- Commands: many bytes. -/
import Derived.Test.YtlbmfcbcmfcjbaaD1
import Derived.Test.YtlbmfcbcmfcjbaaP3
set_option linter.unusedVariables false
set_option linter.unusedSimpArgs false
set_option maxRecDepth 100000
namespace Go.Proofs.Ytlbmfcbcmfcjbaa.Abs
open Go Go.RowKit
theorem many_call {H : Hp} {ob : Option Nat} {xs : List Int} {b : Int} {n : Nat} (hk : ∀ c, ob = some c → H.m c = some ⟨true, 5, xs.map (Value.int .u8)⟩) (h0 : ob = none → xs.map (Value.int .u8) = []) (hl : xs.length + n ≤ 1000) :
    ACalls Try.prog 30 [.int .u8 b, .int .i64 (n : Int), accV ob xs.length 1] H (fun v H' => ∃ oc, v = accV oc (xs.length + n) 1 ∧ Stt ob.toList H H' [⟨oc, true, ⟨true, 5, (xs ++ List.replicate n b).map (Value.int .u8)⟩⟩]) := by
  refine acallsW Try.func30 f30_ok (Nat.le_of_ble_eq_true rfl) fun hw => ?_
  have st := Stt.own1 (k := ⟨true, 5, xs.map (Value.int .u8)⟩) hw hk rfl h0
  unfold f30c
  show AWl _ _ _ _ _
  refine aN rfl rfl (by constructor) ?_
  refine sE ?_
  show AWl _ _ _ _ _
  refine aN rfl rfl (by constructor) ?_
  refine sE ?_
  show AW _ (.loop _) _ _ _
  refine AW_loopN (fun m t1 H1 => ∃ (j : Nat) (oc : Option Nat), m = n - j ∧ (j ≤ n) ∧ t1 2 = accV oc (xs.length + j) 1 ∧ t1 7 = .int .i64 (j : Int) ∧ Stt ob.toList H H1 [⟨oc, true, ⟨true, 5, (xs ++ List.replicate j b).map (Value.int .u8)⟩⟩]) (n - 0) ⟨0, ob, rfl, by omega, rfl, rfl, (by have st2 := (st.sel [0] (by decide)); simpa using st2)⟩ [2, 7, 8, 9, 10, 11, 12, 13, 14, 15, 16] (by decide) ?_
  rintro m t1 H1 hk hI
  obtain ⟨j, oc, rfl, hj, ht2, ht7, st⟩ := hI
  obtain ⟨u, rfl⟩ : ∃ u, t1 = (upd (upd (mix [2, 7, 8, 9, 10, 11, 12, 13, 14, 15, 16] _ u) (some 2) _) (some 7) _) := ⟨t1, by rw [← hk, upd_self ht2, upd_self ht7]⟩
  clear hk ht2 ht7
  show AWl _ _ _ _ _
  refine aN rfl rfl (by constructor) ?_
  refine aN rfl rfl (by constructor) ?_
  refine aN rfl rfl (by constructor) ?_
  refine sE ?_
  show AW _ (.cond _ _ _) _ _ _
  refine cC' rfl (fun h1 => ?_) (fun h1 => ?_)
  · have hlt : j < n := by have := of_decide_eq_true h1; omega
    show AWl _ _ _ _ _
    refine aMovA rfl ?_
    refine aN rfl rfl (by constructor) ?_
    refine aLit st rfl (by repeat constructor) fun b15 H2 st => ?_
    refine aApp st 1 (ob := oc) rfl rfl rfl (by decide) (by simp) (st.rowAll 0 rfl (by first | rfl | (simp [beB_len, *]; done) | (simp [beB_len, *]; omega))).src (by first | rfl | simp) (by simp; omega) (by simp; omega) fun b16 H3 hp16 st => ?_
    rw [show (xs ++ List.replicate j b).map (Value.int .u8) ++ [Value.int .u8 b] = (xs ++ List.replicate (j + 1) b).map (Value.int .u8) by rw [List.replicate_succ', ← List.append_assoc, List.map_append (l₁ := xs ++ List.replicate j b)]; rfl] at st
    refine aMovA rfl ?_
    refine sE ?_
    show AWl _ _ _ _ _
    refine aN rfl rfl (by constructor) ?_
    refine aN rfl rfl (by constructor) ?_
    refine aN rfl rfl (by constructor) ?_
    refine sE ?_
    exact ⟨_, by omega, j + 1, b16, rfl, by omega, congrArg (fun n => accV _ n 1) (by omega), congrArg (Value.int .i64) (wi _ (by omega)), (st.sel [1] (by decide))⟩
  · have hge : j = n := by have := of_decide_eq_false h1; omega
    subst hge
    show AWl _ _ _ _ _
    refine aMovA rfl ?_
    refine aMovA rfl ?_
    refine sE ?_
    refine ⟨_, out1 (r_acc rfl), ?_⟩
    exact ⟨oc, rfl, st.pick 0 rfl⟩
theorem ten_call {H : Hp} {b : Int}  :
    ACalls Try.prog 31 [.int .u8 b] H (fun v H' => ∃ oc, v = accV oc 9 1 ∧ Stt [] H H' [⟨oc, true, ⟨true, 5, [b, 255, 255, 255, 255, 0, 255, 255, 0].map (Value.int .u8)⟩⟩]) := by
  refine acallsW Try.func31 f31_ok (Nat.le_of_ble_eq_true rfl) fun hw => ?_
  have st : Stt [] H H [] := Stt.start hw
  unfold f31c
  show AWl _ _ _ _ _
  refine aN rfl rfl (by constructor) ?_
  refine sE ?_
  show AWl _ _ _ _ _
  refine aN rfl rfl (by constructor) ?_
  refine aLit st rfl (by repeat constructor) fun b4 H1 st => ?_
  have st := st.toI 0 rfl rfl (by repeat constructor)
  refine aC (many_call (ob := (some b4)) (xs := [b]) (b := 255) (n := 4) (st.got 0 rfl).1 (st.got 0 rfl).2 (by simp)) fun v5 H2 ⟨b5, hv, st1⟩ => ?_
  subst hv
  replace st := st.callT 0 rfl st1 rfl
  clear st1
  refine aC (many_call (ob := b5) (xs := ([b] ++ List.replicate 4 255)) (b := 0) (n := 1) (st.got 0 rfl).1 (st.got 0 rfl).2 (by simp)) fun v6 H3 ⟨b6, hv, st1⟩ => ?_
  subst hv
  replace st := st.callT 0 rfl st1 rfl
  clear st1
  refine aC (many_call (ob := b6) (xs := (([b] ++ List.replicate 4 255) ++ List.replicate 1 0)) (b := 255) (n := 2) (st.got 0 rfl).1 (st.got 0 rfl).2 (by simp)) fun v7 H4 ⟨b7, hv, st1⟩ => ?_
  subst hv
  replace st := st.callT 0 rfl st1 rfl
  clear st1
  refine aC (many_call (ob := b7) (xs := ((([b] ++ List.replicate 4 255) ++ List.replicate 1 0) ++ List.replicate 2 255)) (b := 0) (n := 1) (st.got 0 rfl).1 (st.got 0 rfl).2 (by simp)) fun v8 H5 ⟨b8, hv, st1⟩ => ?_
  subst hv
  replace st := st.callT 0 rfl st1 rfl
  clear st1
  refine aMovA rfl ?_
  refine sE ?_
  refine ⟨_, out1 (r_acc rfl), ?_⟩
  exact ⟨b8, rfl, by have st2 := st.pick 0 rfl; simpa using st2⟩
def rowL (op : Int) : List Int := (useL op).tail
theorem row_call {H : Hp} {op : Int} (ho : 0 ≤ op ∧ op < 256) :
    ACalls Try.prog 23 [.int .u8 op] H (fun v H' => ∃ ob, v = accV ob (rowL op).length 1 ∧ Stt [] H H' [⟨ob, true, ⟨true, 5, (rowL op).map (Value.int .u8)⟩⟩] ∧ (rowL op = [] → ob = none)) := by
  refine acallsW Try.func23 f23_ok (Nat.le_of_ble_eq_true rfl) fun hw => ?_
  have st : Stt [] H H [] := Stt.start hw
  unfold f23c
  show AWl _ _ _ _ _
  refine aN rfl rfl (by constructor) ?_
  refine sE ?_
  show AWl _ _ _ _ _
  refine aN rfl rfl (by constructor) ?_
  refine sE ?_
  show AWl _ _ _ _ _
  refine aN rfl rfl (by constructor) ?_
  refine aN rfl rfl (by constructor) ?_
  refine sE ?_
  show AW _ (.cond _ _ _) _ _ _
  refine cC' rfl (fun h1 => ?_) (fun h1 => ?_)
  · have h1q := h1; try simp only [decide_eq_true_eq, decide_eq_false_iff_not, beq_iff_eq, beq_eq_false_iff_ne, bne_iff_ne, bne_eq_false_iff_eq, ne_eq, Decidable.not_not, Bool.not_eq_true, Bool.not_eq_false, gt_iff_lt, ge_iff_le, Int.not_lt, Int.not_le] at h1q
    subst h1q
    show AWl _ _ _ _ _
    have st := st.nil 5
    refine aC (many_call (ob := none) (xs := ([] : List Int)) (b := 0) (n := 5) (st.got 0 rfl).1 (st.got 0 rfl).2 (by simp)) fun v6 H2 ⟨b6, hv, st1⟩ => ?_
    subst hv
    replace st := st.callT 0 rfl st1 rfl
    clear st1
    refine aMovA rfl ?_
    refine sE ?_
    refine ⟨_, out1 (r_acc rfl), ?_⟩
    refine ⟨b6, ?_, ?_, fun h => absurd h (by decide)⟩
    · rfl
    · have st2 := st.pick 0 rfl; first | exact st2 | simpa [rowL, useL] using st2
  · have h1q := h1; try simp only [decide_eq_true_eq, decide_eq_false_iff_not, beq_iff_eq, beq_eq_false_iff_ne, bne_iff_ne, bne_eq_false_iff_eq, ne_eq, Decidable.not_not, Bool.not_eq_true, Bool.not_eq_false, gt_iff_lt, ge_iff_le, Int.not_lt, Int.not_le] at h1q
    show AWl _ _ _ _ _
    refine aN rfl rfl (by constructor) ?_
    refine aN rfl rfl (by constructor) ?_
    refine sE ?_
    show AW _ (.cond _ _ _) _ _ _
    refine cC' rfl (fun h3 => ?_) (fun h3 => ?_)
    · have h3q := h3; try simp only [decide_eq_true_eq, decide_eq_false_iff_not, beq_iff_eq, beq_eq_false_iff_ne, bne_iff_ne, bne_eq_false_iff_eq, ne_eq, Decidable.not_not, Bool.not_eq_true, Bool.not_eq_false, gt_iff_lt, ge_iff_le, Int.not_lt, Int.not_le] at h3q
      subst h3q
      show AWl _ _ _ _ _
      refine aLit st rfl (by repeat constructor) fun b9 H4 st => ?_
      refine aN rfl rfl (by constructor) ?_
      refine sE ?_
      refine ⟨_, out1 (r_tmp rfl (by constructor)), ?_⟩
      refine ⟨some b9, ?_, ?_, fun h => absurd h (by decide)⟩
      · rfl
      · have st2 := st.pick 0 rfl; first | exact st2 | simpa [rowL, useL] using st2
    · have h3q := h3; try simp only [decide_eq_true_eq, decide_eq_false_iff_not, beq_iff_eq, beq_eq_false_iff_ne, bne_iff_ne, bne_eq_false_iff_eq, ne_eq, Decidable.not_not, Bool.not_eq_true, Bool.not_eq_false, gt_iff_lt, ge_iff_le, Int.not_lt, Int.not_le] at h3q
      show AWl _ _ _ _ _
      refine aN rfl rfl (by constructor) ?_
      refine aN rfl rfl (by constructor) ?_
      refine sE ?_
      show AW _ (.cond _ _ _) _ _ _
      refine cC' rfl (fun h5 => ?_) (fun h5 => ?_)
      · have h5q := h5; try simp only [decide_eq_true_eq, decide_eq_false_iff_not, beq_iff_eq, beq_eq_false_iff_ne, bne_iff_ne, bne_eq_false_iff_eq, ne_eq, Decidable.not_not, Bool.not_eq_true, Bool.not_eq_false, gt_iff_lt, ge_iff_le, Int.not_lt, Int.not_le] at h5q
        subst h5q
        show AW _ (.cond _ _ _) _ _ _
        refine cT rfl ?_
        show AWl _ _ _ _ _
        refine aLit st rfl (by repeat constructor) fun b13 H6 st => ?_
        refine aN rfl rfl (by constructor) ?_
        refine sE ?_
        refine ⟨_, out1 (r_tmp rfl (by constructor)), ?_⟩
        refine ⟨some b13, ?_, ?_, fun h => absurd h (by decide)⟩
        · rfl
        · have st2 := st.pick 0 rfl; first | exact st2 | simpa [rowL, useL] using st2
      · have h5q := h5; try simp only [decide_eq_true_eq, decide_eq_false_iff_not, beq_iff_eq, beq_eq_false_iff_ne, bne_iff_ne, bne_eq_false_iff_eq, ne_eq, Decidable.not_not, Bool.not_eq_true, Bool.not_eq_false, gt_iff_lt, ge_iff_le, Int.not_lt, Int.not_le] at h5q
        show AWl _ _ _ _ _
        refine aN rfl rfl (by constructor) ?_
        refine aN rfl rfl (by constructor) ?_
        refine sE ?_
        show AW _ (.cond _ _ _) _ _ _
        refine cC' rfl (fun h7 => ?_) (fun h7 => ?_)
        · have h7q := h7; try simp only [decide_eq_true_eq, decide_eq_false_iff_not, beq_iff_eq, beq_eq_false_iff_ne, bne_iff_ne, bne_eq_false_iff_eq, ne_eq, Decidable.not_not, Bool.not_eq_true, Bool.not_eq_false, gt_iff_lt, ge_iff_le, Int.not_lt, Int.not_le] at h7q
          subst h7q
          show AWl _ _ _ _ _
          refine aLit st rfl (by repeat constructor) fun b13 H8 st => ?_
          refine aN rfl rfl (by constructor) ?_
          refine sE ?_
          refine ⟨_, out1 (r_tmp rfl (by constructor)), ?_⟩
          refine ⟨some b13, ?_, ?_, fun h => absurd h (by decide)⟩
          · rfl
          · have st2 := st.pick 0 rfl; first | exact st2 | simpa [rowL, useL] using st2
        · have h7q := h7; try simp only [decide_eq_true_eq, decide_eq_false_iff_not, beq_iff_eq, beq_eq_false_iff_ne, bne_iff_ne, bne_eq_false_iff_eq, ne_eq, Decidable.not_not, Bool.not_eq_true, Bool.not_eq_false, gt_iff_lt, ge_iff_le, Int.not_lt, Int.not_le] at h7q
          show AWl _ _ _ _ _
          refine aN rfl rfl (by constructor) ?_
          refine aN rfl rfl (by constructor) ?_
          refine sE ?_
          show AW _ (.cond _ _ _) _ _ _
          refine cC' rfl (fun h9 => ?_) (fun h9 => ?_)
          · have h9q := h9; try simp only [decide_eq_true_eq, decide_eq_false_iff_not, beq_iff_eq, beq_eq_false_iff_ne, bne_iff_ne, bne_eq_false_iff_eq, ne_eq, Decidable.not_not, Bool.not_eq_true, Bool.not_eq_false, gt_iff_lt, ge_iff_le, Int.not_lt, Int.not_le] at h9q
            subst h9q
            show AWl _ _ _ _ _
            refine aLit st rfl (by repeat constructor) fun b16 H10 st => ?_
            refine aN rfl rfl (by constructor) ?_
            refine sE ?_
            refine ⟨_, out1 (r_tmp rfl (by constructor)), ?_⟩
            refine ⟨some b16, ?_, ?_, fun h => absurd h (by decide)⟩
            · rfl
            · have st2 := st.pick 0 rfl; first | exact st2 | simpa [rowL, useL] using st2
          · have h9q := h9; try simp only [decide_eq_true_eq, decide_eq_false_iff_not, beq_iff_eq, beq_eq_false_iff_ne, bne_iff_ne, bne_eq_false_iff_eq, ne_eq, Decidable.not_not, Bool.not_eq_true, Bool.not_eq_false, gt_iff_lt, ge_iff_le, Int.not_lt, Int.not_le] at h9q
            show AWl _ _ _ _ _
            refine aN rfl rfl (by constructor) ?_
            refine aN rfl rfl (by constructor) ?_
            refine sE ?_
            show AW _ (.cond _ _ _) _ _ _
            refine cC' rfl (fun h11 => ?_) (fun h11 => ?_)
            · have h11q := h11; try simp only [decide_eq_true_eq, decide_eq_false_iff_not, beq_iff_eq, beq_eq_false_iff_ne, bne_iff_ne, bne_eq_false_iff_eq, ne_eq, Decidable.not_not, Bool.not_eq_true, Bool.not_eq_false, gt_iff_lt, ge_iff_le, Int.not_lt, Int.not_le] at h11q
              subst h11q
              show AWl _ _ _ _ _
              refine aLit st rfl (by repeat constructor) fun b19 H12 st => ?_
              refine aN rfl rfl (by constructor) ?_
              refine sE ?_
              refine ⟨_, out1 (r_tmp rfl (by constructor)), ?_⟩
              refine ⟨some b19, ?_, ?_, fun h => absurd h (by decide)⟩
              · rfl
              · have st2 := st.pick 0 rfl; first | exact st2 | simpa [rowL, useL] using st2
            · have h11q := h11; try simp only [decide_eq_true_eq, decide_eq_false_iff_not, beq_iff_eq, beq_eq_false_iff_ne, bne_iff_ne, bne_eq_false_iff_eq, ne_eq, Decidable.not_not, Bool.not_eq_true, Bool.not_eq_false, gt_iff_lt, ge_iff_le, Int.not_lt, Int.not_le] at h11q
              show AWl _ _ _ _ _
              refine aN rfl rfl (by constructor) ?_
              refine aN rfl rfl (by constructor) ?_
              refine sE ?_
              show AW _ (.cond _ _ _) _ _ _
              refine cC' rfl (fun h13 => ?_) (fun h13 => ?_)
              · have h13q := h13; try simp only [decide_eq_true_eq, decide_eq_false_iff_not, beq_iff_eq, beq_eq_false_iff_ne, bne_iff_ne, bne_eq_false_iff_eq, ne_eq, Decidable.not_not, Bool.not_eq_true, Bool.not_eq_false, gt_iff_lt, ge_iff_le, Int.not_lt, Int.not_le] at h13q
                subst h13q
                show AWl _ _ _ _ _
                refine aLit st rfl (by repeat constructor) fun b22 H14 st => ?_
                refine aN rfl rfl (by constructor) ?_
                refine sE ?_
                refine ⟨_, out1 (r_tmp rfl (by constructor)), ?_⟩
                refine ⟨some b22, ?_, ?_, fun h => absurd h (by decide)⟩
                · rfl
                · have st2 := st.pick 0 rfl; first | exact st2 | simpa [rowL, useL] using st2
              · have h13q := h13; try simp only [decide_eq_true_eq, decide_eq_false_iff_not, beq_iff_eq, beq_eq_false_iff_ne, bne_iff_ne, bne_eq_false_iff_eq, ne_eq, Decidable.not_not, Bool.not_eq_true, Bool.not_eq_false, gt_iff_lt, ge_iff_le, Int.not_lt, Int.not_le] at h13q
                show AWl _ _ _ _ _
                refine aN rfl rfl (by constructor) ?_
                refine aN rfl rfl (by constructor) ?_
                refine sE ?_
                show AW _ (.cond _ _ _) _ _ _
                refine cC' rfl (fun h15 => ?_) (fun h15 => ?_)
                · have h15q := h15; try simp only [decide_eq_true_eq, decide_eq_false_iff_not, beq_iff_eq, beq_eq_false_iff_ne, bne_iff_ne, bne_eq_false_iff_eq, ne_eq, Decidable.not_not, Bool.not_eq_true, Bool.not_eq_false, gt_iff_lt, ge_iff_le, Int.not_lt, Int.not_le] at h15q
                  subst h15q
                  show AWl _ _ _ _ _
                  have st := st.nil 5
                  refine aC (many_call (ob := none) (xs := ([] : List Int)) (b := 0) (n := 9) (st.got 0 rfl).1 (st.got 0 rfl).2 (by simp)) fun v25 H16 ⟨b25, hv, st1⟩ => ?_
                  subst hv
                  replace st := st.callT 0 rfl st1 rfl
                  clear st1
                  refine aMovA rfl ?_
                  refine sE ?_
                  refine ⟨_, out1 (r_acc rfl), ?_⟩
                  refine ⟨b25, ?_, ?_, fun h => absurd h (by decide)⟩
                  · rfl
                  · have st2 := st.pick 0 rfl; first | exact st2 | simpa [rowL, useL] using st2
                · have h15q := h15; try simp only [decide_eq_true_eq, decide_eq_false_iff_not, beq_iff_eq, beq_eq_false_iff_ne, bne_iff_ne, bne_eq_false_iff_eq, ne_eq, Decidable.not_not, Bool.not_eq_true, Bool.not_eq_false, gt_iff_lt, ge_iff_le, Int.not_lt, Int.not_le] at h15q
                  show AWl _ _ _ _ _
                  refine aN rfl rfl (by constructor) ?_
                  refine aN rfl rfl (by constructor) ?_
                  refine sE ?_
                  show AW _ (.cond _ _ _) _ _ _
                  refine cC' rfl (fun h17 => ?_) (fun h17 => ?_)
                  · have h17q := h17; try simp only [decide_eq_true_eq, decide_eq_false_iff_not, beq_iff_eq, beq_eq_false_iff_ne, bne_iff_ne, bne_eq_false_iff_eq, ne_eq, Decidable.not_not, Bool.not_eq_true, Bool.not_eq_false, gt_iff_lt, ge_iff_le, Int.not_lt, Int.not_le] at h17q
                    subst h17q
                    show AW _ (.cond _ _ _) _ _ _
                    refine cT rfl ?_
                    show AWl _ _ _ _ _
                    refine aC (ten_call (b := 248)) fun v29 H18 ⟨oc29, hv, st1⟩ => ?_
                    subst hv
                    replace st := st.call st1 rfl
                    clear st1
                    refine aMovA rfl ?_
                    refine sE ?_
                    refine ⟨_, out1 (r_acc rfl), ?_⟩
                    refine ⟨oc29, ?_, ?_, fun h => absurd h (by decide)⟩
                    · rfl
                    · have st2 := st.pick 0 rfl; first | exact st2 | simpa [rowL, useL] using st2
                  · have h17q := h17; try simp only [decide_eq_true_eq, decide_eq_false_iff_not, beq_iff_eq, beq_eq_false_iff_ne, bne_iff_ne, bne_eq_false_iff_eq, ne_eq, Decidable.not_not, Bool.not_eq_true, Bool.not_eq_false, gt_iff_lt, ge_iff_le, Int.not_lt, Int.not_le] at h17q
                    show AWl _ _ _ _ _
                    refine aN rfl rfl (by constructor) ?_
                    refine aN rfl rfl (by constructor) ?_
                    refine sE ?_
                    show AW _ (.cond _ _ _) _ _ _
                    refine cC' rfl (fun h19 => ?_) (fun h19 => ?_)
                    · have h19q := h19; try simp only [decide_eq_true_eq, decide_eq_false_iff_not, beq_iff_eq, beq_eq_false_iff_ne, bne_iff_ne, bne_eq_false_iff_eq, ne_eq, Decidable.not_not, Bool.not_eq_true, Bool.not_eq_false, gt_iff_lt, ge_iff_le, Int.not_lt, Int.not_le] at h19q
                      subst h19q
                      show AWl _ _ _ _ _
                      refine aC (ten_call (b := 248)) fun v29 H20 ⟨oc29, hv, st1⟩ => ?_
                      subst hv
                      replace st := st.call st1 rfl
                      clear st1
                      refine aMovA rfl ?_
                      refine sE ?_
                      refine ⟨_, out1 (r_acc rfl), ?_⟩
                      refine ⟨oc29, ?_, ?_, fun h => absurd h (by decide)⟩
                      · rfl
                      · have st2 := st.pick 0 rfl; first | exact st2 | simpa [rowL, useL] using st2
                    · have h19q := h19; try simp only [decide_eq_true_eq, decide_eq_false_iff_not, beq_iff_eq, beq_eq_false_iff_ne, bne_iff_ne, bne_eq_false_iff_eq, ne_eq, Decidable.not_not, Bool.not_eq_true, Bool.not_eq_false, gt_iff_lt, ge_iff_le, Int.not_lt, Int.not_le] at h19q
                      show AWl _ _ _ _ _
                      refine aN rfl rfl (by constructor) ?_
                      refine aN rfl rfl (by constructor) ?_
                      refine sE ?_
                      show AW _ (.cond _ _ _) _ _ _
                      refine cC' rfl (fun h21 => ?_) (fun h21 => ?_)
                      · have h21q := h21; try simp only [decide_eq_true_eq, decide_eq_false_iff_not, beq_iff_eq, beq_eq_false_iff_ne, bne_iff_ne, bne_eq_false_iff_eq, ne_eq, Decidable.not_not, Bool.not_eq_true, Bool.not_eq_false, gt_iff_lt, ge_iff_le, Int.not_lt, Int.not_le] at h21q
                        subst h21q
                        show AWl _ _ _ _ _
                        refine aC (ten_call (b := 240)) fun v32 H22 ⟨oc32, hv, st1⟩ => ?_
                        subst hv
                        replace st := st.call st1 rfl
                        clear st1
                        refine aMovA rfl ?_
                        refine sE ?_
                        refine ⟨_, out1 (r_acc rfl), ?_⟩
                        refine ⟨oc32, ?_, ?_, fun h => absurd h (by decide)⟩
                        · rfl
                        · have st2 := st.pick 0 rfl; first | exact st2 | simpa [rowL, useL] using st2
                      · have h21q := h21; try simp only [decide_eq_true_eq, decide_eq_false_iff_not, beq_iff_eq, beq_eq_false_iff_ne, bne_iff_ne, bne_eq_false_iff_eq, ne_eq, Decidable.not_not, Bool.not_eq_true, Bool.not_eq_false, gt_iff_lt, ge_iff_le, Int.not_lt, Int.not_le] at h21q
                        show AWl _ _ _ _ _
                        refine aN rfl rfl (by constructor) ?_
                        refine aN rfl rfl (by constructor) ?_
                        refine sE ?_
                        show AW _ (.cond _ _ _) _ _ _
                        refine cC' rfl (fun h23 => ?_) (fun h23 => ?_)
                        · have h23q := h23; try simp only [decide_eq_true_eq, decide_eq_false_iff_not, beq_iff_eq, beq_eq_false_iff_ne, bne_iff_ne, bne_eq_false_iff_eq, ne_eq, Decidable.not_not, Bool.not_eq_true, Bool.not_eq_false, gt_iff_lt, ge_iff_le, Int.not_lt, Int.not_le] at h23q
                          subst h23q
                          show AWl _ _ _ _ _
                          refine aC (ten_call (b := 242)) fun v35 H24 ⟨oc35, hv, st1⟩ => ?_
                          subst hv
                          replace st := st.call st1 rfl
                          clear st1
                          refine aMovA rfl ?_
                          refine sE ?_
                          refine ⟨_, out1 (r_acc rfl), ?_⟩
                          refine ⟨oc35, ?_, ?_, fun h => absurd h (by decide)⟩
                          · rfl
                          · have st2 := st.pick 0 rfl; first | exact st2 | simpa [rowL, useL] using st2
                        · have h23q := h23; try simp only [decide_eq_true_eq, decide_eq_false_iff_not, beq_iff_eq, beq_eq_false_iff_ne, bne_iff_ne, bne_eq_false_iff_eq, ne_eq, Decidable.not_not, Bool.not_eq_true, Bool.not_eq_false, gt_iff_lt, ge_iff_le, Int.not_lt, Int.not_le] at h23q
                          show AWl _ _ _ _ _
                          refine aN rfl rfl (by constructor) ?_
                          refine aN rfl rfl (by constructor) ?_
                          refine sE ?_
                          show AW _ (.cond _ _ _) _ _ _
                          refine cC' rfl (fun h25 => ?_) (fun h25 => ?_)
                          · have h25q := h25; try simp only [decide_eq_true_eq, decide_eq_false_iff_not, beq_iff_eq, beq_eq_false_iff_ne, bne_iff_ne, bne_eq_false_iff_eq, ne_eq, Decidable.not_not, Bool.not_eq_true, Bool.not_eq_false, gt_iff_lt, ge_iff_le, Int.not_lt, Int.not_le] at h25q
                            subst h25q
                            show AWl _ _ _ _ _
                            refine aC (ten_call (b := 0)) fun v38 H26 ⟨oc38, hv, st1⟩ => ?_
                            subst hv
                            replace st := st.call st1 rfl
                            clear st1
                            refine aMovA rfl ?_
                            refine sE ?_
                            refine ⟨_, out1 (r_acc rfl), ?_⟩
                            refine ⟨oc38, ?_, ?_, fun h => absurd h (by decide)⟩
                            · rfl
                            · have st2 := st.pick 0 rfl; first | exact st2 | simpa [rowL, useL] using st2
                          · have h25q := h25; try simp only [decide_eq_true_eq, decide_eq_false_iff_not, beq_iff_eq, beq_eq_false_iff_ne, bne_iff_ne, bne_eq_false_iff_eq, ne_eq, Decidable.not_not, Bool.not_eq_true, Bool.not_eq_false, gt_iff_lt, ge_iff_le, Int.not_lt, Int.not_le] at h25q
                            show AWl _ _ _ _ _
                            refine aN rfl rfl (by constructor) ?_
                            refine aN rfl rfl (by constructor) ?_
                            refine sE ?_
                            show AW _ (.cond _ _ _) _ _ _
                            refine cC' rfl (fun h27 => ?_) (fun h27 => ?_)
                            · have h27q := h27; try simp only [decide_eq_true_eq, decide_eq_false_iff_not, beq_iff_eq, beq_eq_false_iff_ne, bne_iff_ne, bne_eq_false_iff_eq, ne_eq, Decidable.not_not, Bool.not_eq_true, Bool.not_eq_false, gt_iff_lt, ge_iff_le, Int.not_lt, Int.not_le] at h27q
                              subst h27q
                              show AWl _ _ _ _ _
                              refine aC (ten_call (b := 232)) fun v41 H28 ⟨oc41, hv, st1⟩ => ?_
                              subst hv
                              replace st := st.call st1 rfl
                              clear st1
                              refine aMovA rfl ?_
                              refine sE ?_
                              refine ⟨_, out1 (r_acc rfl), ?_⟩
                              refine ⟨oc41, ?_, ?_, fun h => absurd h (by decide)⟩
                              · rfl
                              · have st2 := st.pick 0 rfl; first | exact st2 | simpa [rowL, useL] using st2
                            · have h27q := h27; try simp only [decide_eq_true_eq, decide_eq_false_iff_not, beq_iff_eq, beq_eq_false_iff_ne, bne_iff_ne, bne_eq_false_iff_eq, ne_eq, Decidable.not_not, Bool.not_eq_true, Bool.not_eq_false, gt_iff_lt, ge_iff_le, Int.not_lt, Int.not_le] at h27q
                              show AWl _ _ _ _ _
                              refine aN rfl rfl (by constructor) ?_
                              refine aN rfl rfl (by constructor) ?_
                              refine sE ?_
                              show AW _ (.cond _ _ _) _ _ _
                              refine cC' rfl (fun h29 => ?_) (fun h29 => ?_)
                              · have h29q := h29; try simp only [decide_eq_true_eq, decide_eq_false_iff_not, beq_iff_eq, beq_eq_false_iff_ne, bne_iff_ne, bne_eq_false_iff_eq, ne_eq, Decidable.not_not, Bool.not_eq_true, Bool.not_eq_false, gt_iff_lt, ge_iff_le, Int.not_lt, Int.not_le] at h29q
                                subst h29q
                                show AWl _ _ _ _ _
                                refine aLit st rfl (by repeat constructor) fun b44 H30 st => ?_
                                refine aN rfl rfl (by constructor) ?_
                                refine sE ?_
                                refine ⟨_, out1 (r_tmp rfl (by constructor)), ?_⟩
                                refine ⟨some b44, ?_, ?_, fun h => absurd h (by decide)⟩
                                · rfl
                                · have st2 := st.pick 0 rfl; first | exact st2 | simpa [rowL, useL] using st2
                              · have h29q := h29; try simp only [decide_eq_true_eq, decide_eq_false_iff_not, beq_iff_eq, beq_eq_false_iff_ne, bne_iff_ne, bne_eq_false_iff_eq, ne_eq, Decidable.not_not, Bool.not_eq_true, Bool.not_eq_false, gt_iff_lt, ge_iff_le, Int.not_lt, Int.not_le] at h29q
                                show AWl _ _ _ _ _
                                refine aN rfl rfl (by constructor) ?_
                                refine aN rfl rfl (by constructor) ?_
                                refine sE ?_
                                show AW _ (.cond _ _ _) _ _ _
                                refine cC' rfl (fun h31 => ?_) (fun h31 => ?_)
                                · have h31q := h31; try simp only [decide_eq_true_eq, decide_eq_false_iff_not, beq_iff_eq, beq_eq_false_iff_ne, bne_iff_ne, bne_eq_false_iff_eq, ne_eq, Decidable.not_not, Bool.not_eq_true, Bool.not_eq_false, gt_iff_lt, ge_iff_le, Int.not_lt, Int.not_le] at h31q
                                  subst h31q
                                  show AWl _ _ _ _ _
                                  refine aLit st rfl (by repeat constructor) fun b47 H32 st => ?_
                                  refine aN rfl rfl (by constructor) ?_
                                  refine sE ?_
                                  refine ⟨_, out1 (r_tmp rfl (by constructor)), ?_⟩
                                  refine ⟨some b47, ?_, ?_, fun h => absurd h (by decide)⟩
                                  · rfl
                                  · have st2 := st.pick 0 rfl; first | exact st2 | simpa [rowL, useL] using st2
                                · have h31q := h31; try simp only [decide_eq_true_eq, decide_eq_false_iff_not, beq_iff_eq, beq_eq_false_iff_ne, bne_iff_ne, bne_eq_false_iff_eq, ne_eq, Decidable.not_not, Bool.not_eq_true, Bool.not_eq_false, gt_iff_lt, ge_iff_le, Int.not_lt, Int.not_le] at h31q
                                  show AWl _ _ _ _ _
                                  refine aN rfl rfl (by constructor) ?_
                                  refine aN rfl rfl (by constructor) ?_
                                  refine sE ?_
                                  show AW _ (.cond _ _ _) _ _ _
                                  refine cC' rfl (fun h33 => ?_) (fun h33 => ?_)
                                  · have h33q := h33; try simp only [decide_eq_true_eq, decide_eq_false_iff_not, beq_iff_eq, beq_eq_false_iff_ne, bne_iff_ne, bne_eq_false_iff_eq, ne_eq, Decidable.not_not, Bool.not_eq_true, Bool.not_eq_false, gt_iff_lt, ge_iff_le, Int.not_lt, Int.not_le] at h33q
                                    subst h33q
                                    show AWl _ _ _ _ _
                                    refine aLit st rfl (by repeat constructor) fun b50 H34 st => ?_
                                    refine aN rfl rfl (by constructor) ?_
                                    refine sE ?_
                                    refine ⟨_, out1 (r_tmp rfl (by constructor)), ?_⟩
                                    refine ⟨some b50, ?_, ?_, fun h => absurd h (by decide)⟩
                                    · rfl
                                    · have st2 := st.pick 0 rfl; first | exact st2 | simpa [rowL, useL] using st2
                                  · have h33q := h33; try simp only [decide_eq_true_eq, decide_eq_false_iff_not, beq_iff_eq, beq_eq_false_iff_ne, bne_iff_ne, bne_eq_false_iff_eq, ne_eq, Decidable.not_not, Bool.not_eq_true, Bool.not_eq_false, gt_iff_lt, ge_iff_le, Int.not_lt, Int.not_le] at h33q
                                    show AWl _ _ _ _ _
                                    refine aN rfl rfl (by constructor) ?_
                                    refine aN rfl rfl (by constructor) ?_
                                    refine sE ?_
                                    show AW _ (.cond _ _ _) _ _ _
                                    refine cC' rfl (fun h35 => ?_) (fun h35 => ?_)
                                    · have h35q := h35; try simp only [decide_eq_true_eq, decide_eq_false_iff_not, beq_iff_eq, beq_eq_false_iff_ne, bne_iff_ne, bne_eq_false_iff_eq, ne_eq, Decidable.not_not, Bool.not_eq_true, Bool.not_eq_false, gt_iff_lt, ge_iff_le, Int.not_lt, Int.not_le] at h35q
                                      subst h35q
                                      show AWl _ _ _ _ _
                                      refine aLit st rfl (by repeat constructor) fun b53 H36 st => ?_
                                      refine aN rfl rfl (by constructor) ?_
                                      refine sE ?_
                                      refine ⟨_, out1 (r_tmp rfl (by constructor)), ?_⟩
                                      refine ⟨some b53, ?_, ?_, fun h => absurd h (by decide)⟩
                                      · rfl
                                      · have st2 := st.pick 0 rfl; first | exact st2 | simpa [rowL, useL] using st2
                                    · have h35q := h35; try simp only [decide_eq_true_eq, decide_eq_false_iff_not, beq_iff_eq, beq_eq_false_iff_ne, bne_iff_ne, bne_eq_false_iff_eq, ne_eq, Decidable.not_not, Bool.not_eq_true, Bool.not_eq_false, gt_iff_lt, ge_iff_le, Int.not_lt, Int.not_le] at h35q
                                      show AWl _ _ _ _ _
                                      refine aN rfl rfl (by constructor) ?_
                                      refine aN rfl rfl (by constructor) ?_
                                      refine sE ?_
                                      show AW _ (.cond _ _ _) _ _ _
                                      refine cC' rfl (fun h37 => ?_) (fun h37 => ?_)
                                      · have h37q := h37; try simp only [decide_eq_true_eq, decide_eq_false_iff_not, beq_iff_eq, beq_eq_false_iff_ne, bne_iff_ne, bne_eq_false_iff_eq, ne_eq, Decidable.not_not, Bool.not_eq_true, Bool.not_eq_false, gt_iff_lt, ge_iff_le, Int.not_lt, Int.not_le] at h37q
                                        subst h37q
                                        show AWl _ _ _ _ _
                                        refine aLit st rfl (by repeat constructor) fun b56 H38 st => ?_
                                        refine aN rfl rfl (by constructor) ?_
                                        refine sE ?_
                                        refine ⟨_, out1 (r_tmp rfl (by constructor)), ?_⟩
                                        refine ⟨some b56, ?_, ?_, fun h => absurd h (by decide)⟩
                                        · rfl
                                        · have st2 := st.pick 0 rfl; first | exact st2 | simpa [rowL, useL] using st2
                                      · have h37q := h37; try simp only [decide_eq_true_eq, decide_eq_false_iff_not, beq_iff_eq, beq_eq_false_iff_ne, bne_iff_ne, bne_eq_false_iff_eq, ne_eq, Decidable.not_not, Bool.not_eq_true, Bool.not_eq_false, gt_iff_lt, ge_iff_le, Int.not_lt, Int.not_le] at h37q
                                        show AWl _ _ _ _ _
                                        refine aN rfl rfl (by constructor) ?_
                                        refine aN rfl rfl (by constructor) ?_
                                        refine sE ?_
                                        show AW _ (.cond _ _ _) _ _ _
                                        refine cC' rfl (fun h39 => ?_) (fun h39 => ?_)
                                        · have h39q := h39; try simp only [decide_eq_true_eq, decide_eq_false_iff_not, beq_iff_eq, beq_eq_false_iff_ne, bne_iff_ne, bne_eq_false_iff_eq, ne_eq, Decidable.not_not, Bool.not_eq_true, Bool.not_eq_false, gt_iff_lt, ge_iff_le, Int.not_lt, Int.not_le] at h39q
                                          subst h39q
                                          show AW _ (.cond _ _ _) _ _ _
                                          refine cT rfl ?_
                                          show AWl _ _ _ _ _
                                          refine aLit st rfl (by repeat constructor) fun b60 H40 st => ?_
                                          have st := st.toI 0 rfl rfl (by repeat constructor)
                                          refine aC (many_call (ob := (some b60)) (xs := [31]) (b := 0) (n := 8) (st.got 0 rfl).1 (st.got 0 rfl).2 (by simp)) fun v61 H41 ⟨b61, hv, st1⟩ => ?_
                                          subst hv
                                          replace st := st.callT 0 rfl st1 rfl
                                          clear st1
                                          refine aC (many_call (ob := b61) (xs := ([31] ++ List.replicate 8 0)) (b := 255) (n := 4) (st.got 0 rfl).1 (st.got 0 rfl).2 (by simp)) fun v62 H42 ⟨b62, hv, st1⟩ => ?_
                                          subst hv
                                          replace st := st.callT 0 rfl st1 rfl
                                          clear st1
                                          refine aC (many_call (ob := b62) (xs := (([31] ++ List.replicate 8 0) ++ List.replicate 4 255)) (b := 0) (n := 2) (st.got 0 rfl).1 (st.got 0 rfl).2 (by simp)) fun v63 H43 ⟨b63, hv, st1⟩ => ?_
                                          subst hv
                                          replace st := st.callT 0 rfl st1 rfl
                                          clear st1
                                          refine aMovA rfl ?_
                                          refine sE ?_
                                          refine ⟨_, out1 (r_acc rfl), ?_⟩
                                          refine ⟨b63, ?_, ?_, fun h => absurd h (by decide)⟩
                                          · rfl
                                          · have st2 := st.pick 0 rfl; first | exact st2 | simpa [rowL, useL] using st2
                                        · have h39q := h39; try simp only [decide_eq_true_eq, decide_eq_false_iff_not, beq_iff_eq, beq_eq_false_iff_ne, bne_iff_ne, bne_eq_false_iff_eq, ne_eq, Decidable.not_not, Bool.not_eq_true, Bool.not_eq_false, gt_iff_lt, ge_iff_le, Int.not_lt, Int.not_le] at h39q
                                          show AWl _ _ _ _ _
                                          refine aN rfl rfl (by constructor) ?_
                                          refine aN rfl rfl (by constructor) ?_
                                          refine sE ?_
                                          show AW _ (.cond _ _ _) _ _ _
                                          refine cC' rfl (fun h44 => ?_) (fun h44 => ?_)
                                          · have h44q := h44; try simp only [decide_eq_true_eq, decide_eq_false_iff_not, beq_iff_eq, beq_eq_false_iff_ne, bne_iff_ne, bne_eq_false_iff_eq, ne_eq, Decidable.not_not, Bool.not_eq_true, Bool.not_eq_false, gt_iff_lt, ge_iff_le, Int.not_lt, Int.not_le] at h44q
                                            subst h44q
                                            show AWl _ _ _ _ _
                                            refine aLit st rfl (by repeat constructor) fun b60 H45 st => ?_
                                            have st := st.toI 0 rfl rfl (by repeat constructor)
                                            refine aC (many_call (ob := (some b60)) (xs := [31]) (b := 0) (n := 8) (st.got 0 rfl).1 (st.got 0 rfl).2 (by simp)) fun v61 H46 ⟨b61, hv, st1⟩ => ?_
                                            subst hv
                                            replace st := st.callT 0 rfl st1 rfl
                                            clear st1
                                            refine aC (many_call (ob := b61) (xs := ([31] ++ List.replicate 8 0)) (b := 255) (n := 4) (st.got 0 rfl).1 (st.got 0 rfl).2 (by simp)) fun v62 H47 ⟨b62, hv, st1⟩ => ?_
                                            subst hv
                                            replace st := st.callT 0 rfl st1 rfl
                                            clear st1
                                            refine aC (many_call (ob := b62) (xs := (([31] ++ List.replicate 8 0) ++ List.replicate 4 255)) (b := 0) (n := 2) (st.got 0 rfl).1 (st.got 0 rfl).2 (by simp)) fun v63 H48 ⟨b63, hv, st1⟩ => ?_
                                            subst hv
                                            replace st := st.callT 0 rfl st1 rfl
                                            clear st1
                                            refine aMovA rfl ?_
                                            refine sE ?_
                                            refine ⟨_, out1 (r_acc rfl), ?_⟩
                                            refine ⟨b63, ?_, ?_, fun h => absurd h (by decide)⟩
                                            · rfl
                                            · have st2 := st.pick 0 rfl; first | exact st2 | simpa [rowL, useL] using st2
                                          · have h44q := h44; try simp only [decide_eq_true_eq, decide_eq_false_iff_not, beq_iff_eq, beq_eq_false_iff_ne, bne_iff_ne, bne_eq_false_iff_eq, ne_eq, Decidable.not_not, Bool.not_eq_true, Bool.not_eq_false, gt_iff_lt, ge_iff_le, Int.not_lt, Int.not_le] at h44q
                                            show AWl _ _ _ _ _
                                            refine aN rfl rfl (by constructor) ?_
                                            refine aN rfl rfl (by constructor) ?_
                                            refine sE ?_
                                            show AW _ (.cond _ _ _) _ _ _
                                            refine cC' rfl (fun h49 => ?_) (fun h49 => ?_)
                                            · have h49q := h49; try simp only [decide_eq_true_eq, decide_eq_false_iff_not, beq_iff_eq, beq_eq_false_iff_ne, bne_iff_ne, bne_eq_false_iff_eq, ne_eq, Decidable.not_not, Bool.not_eq_true, Bool.not_eq_false, gt_iff_lt, ge_iff_le, Int.not_lt, Int.not_le] at h49q
                                              subst h49q
                                              show AW _ (.cond _ _ _) _ _ _
                                              refine cT rfl ?_
                                              show AWl _ _ _ _ _
                                              refine aLit st rfl (by repeat constructor) fun b67 H50 st => ?_
                                              have st := st.toI 0 rfl rfl (by repeat constructor)
                                              refine aC (many_call (ob := (some b67)) (xs := [248]) (b := 255) (n := 12) (st.got 0 rfl).1 (st.got 0 rfl).2 (by simp)) fun v68 H51 ⟨b68, hv, st1⟩ => ?_
                                              subst hv
                                              replace st := st.callT 0 rfl st1 rfl
                                              clear st1
                                              refine aC (many_call (ob := b68) (xs := ([248] ++ List.replicate 12 255)) (b := 0) (n := 2) (st.got 0 rfl).1 (st.got 0 rfl).2 (by simp)) fun v69 H52 ⟨b69, hv, st1⟩ => ?_
                                              subst hv
                                              replace st := st.callT 0 rfl st1 rfl
                                              clear st1
                                              refine aMovA rfl ?_
                                              refine sE ?_
                                              refine ⟨_, out1 (r_acc rfl), ?_⟩
                                              refine ⟨b69, ?_, ?_, fun h => absurd h (by decide)⟩
                                              · rfl
                                              · have st2 := st.pick 0 rfl; first | exact st2 | simpa [rowL, useL] using st2
                                            · have h49q := h49; try simp only [decide_eq_true_eq, decide_eq_false_iff_not, beq_iff_eq, beq_eq_false_iff_ne, bne_iff_ne, bne_eq_false_iff_eq, ne_eq, Decidable.not_not, Bool.not_eq_true, Bool.not_eq_false, gt_iff_lt, ge_iff_le, Int.not_lt, Int.not_le] at h49q
                                              show AWl _ _ _ _ _
                                              refine aN rfl rfl (by constructor) ?_
                                              refine aN rfl rfl (by constructor) ?_
                                              refine sE ?_
                                              show AW _ (.cond _ _ _) _ _ _
                                              refine cC' rfl (fun h53 => ?_) (fun h53 => ?_)
                                              · have h53q := h53; try simp only [decide_eq_true_eq, decide_eq_false_iff_not, beq_iff_eq, beq_eq_false_iff_ne, bne_iff_ne, bne_eq_false_iff_eq, ne_eq, Decidable.not_not, Bool.not_eq_true, Bool.not_eq_false, gt_iff_lt, ge_iff_le, Int.not_lt, Int.not_le] at h53q
                                                subst h53q
                                                show AWl _ _ _ _ _
                                                refine aLit st rfl (by repeat constructor) fun b67 H54 st => ?_
                                                have st := st.toI 0 rfl rfl (by repeat constructor)
                                                refine aC (many_call (ob := (some b67)) (xs := [248]) (b := 255) (n := 12) (st.got 0 rfl).1 (st.got 0 rfl).2 (by simp)) fun v68 H55 ⟨b68, hv, st1⟩ => ?_
                                                subst hv
                                                replace st := st.callT 0 rfl st1 rfl
                                                clear st1
                                                refine aC (many_call (ob := b68) (xs := ([248] ++ List.replicate 12 255)) (b := 0) (n := 2) (st.got 0 rfl).1 (st.got 0 rfl).2 (by simp)) fun v69 H56 ⟨b69, hv, st1⟩ => ?_
                                                subst hv
                                                replace st := st.callT 0 rfl st1 rfl
                                                clear st1
                                                refine aMovA rfl ?_
                                                refine sE ?_
                                                refine ⟨_, out1 (r_acc rfl), ?_⟩
                                                refine ⟨b69, ?_, ?_, fun h => absurd h (by decide)⟩
                                                · rfl
                                                · have st2 := st.pick 0 rfl; first | exact st2 | simpa [rowL, useL] using st2
                                              · have h53q := h53; try simp only [decide_eq_true_eq, decide_eq_false_iff_not, beq_iff_eq, beq_eq_false_iff_ne, bne_iff_ne, bne_eq_false_iff_eq, ne_eq, Decidable.not_not, Bool.not_eq_true, Bool.not_eq_false, gt_iff_lt, ge_iff_le, Int.not_lt, Int.not_le] at h53q
                                                show AWl _ _ _ _ _
                                                refine aN rfl rfl (by constructor) ?_
                                                refine aN rfl rfl (by constructor) ?_
                                                refine sE ?_
                                                show AW _ (.cond _ _ _) _ _ _
                                                refine cC' rfl (fun h57 => ?_) (fun h57 => ?_)
                                                · have h57q := h57; try simp only [decide_eq_true_eq, decide_eq_false_iff_not, beq_iff_eq, beq_eq_false_iff_ne, bne_iff_ne, bne_eq_false_iff_eq, ne_eq, Decidable.not_not, Bool.not_eq_true, Bool.not_eq_false, gt_iff_lt, ge_iff_le, Int.not_lt, Int.not_le] at h57q
                                                  subst h57q
                                                  show AWl _ _ _ _ _
                                                  refine aLit st rfl (by repeat constructor) fun b72 H58 st => ?_
                                                  have st := st.toI 0 rfl rfl (by repeat constructor)
                                                  refine aC (many_call (ob := (some b72)) (xs := [248]) (b := 255) (n := 8) (st.got 0 rfl).1 (st.got 0 rfl).2 (by simp)) fun v73 H59 ⟨b73, hv, st1⟩ => ?_
                                                  subst hv
                                                  replace st := st.callT 0 rfl st1 rfl
                                                  clear st1
                                                  refine aC (many_call (ob := b73) (xs := ([248] ++ List.replicate 8 255)) (b := 0) (n := 3) (st.got 0 rfl).1 (st.got 0 rfl).2 (by simp)) fun v74 H60 ⟨b74, hv, st1⟩ => ?_
                                                  subst hv
                                                  replace st := st.callT 0 rfl st1 rfl
                                                  clear st1
                                                  refine aC (many_call (ob := b74) (xs := (([248] ++ List.replicate 8 255) ++ List.replicate 3 0)) (b := 255) (n := 1) (st.got 0 rfl).1 (st.got 0 rfl).2 (by simp)) fun v75 H61 ⟨b75, hv, st1⟩ => ?_
                                                  subst hv
                                                  replace st := st.callT 0 rfl st1 rfl
                                                  clear st1
                                                  refine aC (many_call (ob := b75) (xs := ((([248] ++ List.replicate 8 255) ++ List.replicate 3 0) ++ List.replicate 1 255)) (b := 0) (n := 2) (st.got 0 rfl).1 (st.got 0 rfl).2 (by simp)) fun v76 H62 ⟨b76, hv, st1⟩ => ?_
                                                  subst hv
                                                  replace st := st.callT 0 rfl st1 rfl
                                                  clear st1
                                                  refine aMovA rfl ?_
                                                  refine sE ?_
                                                  refine ⟨_, out1 (r_acc rfl), ?_⟩
                                                  refine ⟨b76, ?_, ?_, fun h => absurd h (by decide)⟩
                                                  · rfl
                                                  · have st2 := st.pick 0 rfl; first | exact st2 | simpa [rowL, useL] using st2
                                                · have h57q := h57; try simp only [decide_eq_true_eq, decide_eq_false_iff_not, beq_iff_eq, beq_eq_false_iff_ne, bne_iff_ne, bne_eq_false_iff_eq, ne_eq, Decidable.not_not, Bool.not_eq_true, Bool.not_eq_false, gt_iff_lt, ge_iff_le, Int.not_lt, Int.not_le] at h57q
                                                  show AWl _ _ _ _ _
                                                  refine aN rfl rfl (by constructor) ?_
                                                  refine aN rfl rfl (by constructor) ?_
                                                  refine sE ?_
                                                  show AW _ (.cond _ _ _) _ _ _
                                                  refine cC' rfl (fun h63 => ?_) (fun h63 => ?_)
                                                  · have h63q := h63; try simp only [decide_eq_true_eq, decide_eq_false_iff_not, beq_iff_eq, beq_eq_false_iff_ne, bne_iff_ne, bne_eq_false_iff_eq, ne_eq, Decidable.not_not, Bool.not_eq_true, Bool.not_eq_false, gt_iff_lt, ge_iff_le, Int.not_lt, Int.not_le] at h63q
                                                    subst h63q
                                                    show AWl _ _ _ _ _
                                                    refine aLit st rfl (by repeat constructor) fun b79 H64 st => ?_
                                                    have st := st.toI 0 rfl rfl (by repeat constructor)
                                                    refine aC (many_call (ob := (some b79)) (xs := [0]) (b := 255) (n := 12) (st.got 0 rfl).1 (st.got 0 rfl).2 (by simp)) fun v80 H65 ⟨b80, hv, st1⟩ => ?_
                                                    subst hv
                                                    replace st := st.callT 0 rfl st1 rfl
                                                    clear st1
                                                    refine aC (many_call (ob := b80) (xs := ([0] ++ List.replicate 12 255)) (b := 0) (n := 2) (st.got 0 rfl).1 (st.got 0 rfl).2 (by simp)) fun v81 H66 ⟨b81, hv, st1⟩ => ?_
                                                    subst hv
                                                    replace st := st.callT 0 rfl st1 rfl
                                                    clear st1
                                                    refine aMovA rfl ?_
                                                    refine sE ?_
                                                    refine ⟨_, out1 (r_acc rfl), ?_⟩
                                                    refine ⟨b81, ?_, ?_, fun h => absurd h (by decide)⟩
                                                    · rfl
                                                    · have st2 := st.pick 0 rfl; first | exact st2 | simpa [rowL, useL] using st2
                                                  · have h63q := h63; try simp only [decide_eq_true_eq, decide_eq_false_iff_not, beq_iff_eq, beq_eq_false_iff_ne, bne_iff_ne, bne_eq_false_iff_eq, ne_eq, Decidable.not_not, Bool.not_eq_true, Bool.not_eq_false, gt_iff_lt, ge_iff_le, Int.not_lt, Int.not_le] at h63q
                                                    show AWl _ _ _ _ _
                                                    refine aN rfl rfl (by constructor) ?_
                                                    refine aN rfl rfl (by constructor) ?_
                                                    refine sE ?_
                                                    show AW _ (.cond _ _ _) _ _ _
                                                    refine cC' rfl (fun h67 => ?_) (fun h67 => ?_)
                                                    · have h67q := h67; try simp only [decide_eq_true_eq, decide_eq_false_iff_not, beq_iff_eq, beq_eq_false_iff_ne, bne_iff_ne, bne_eq_false_iff_eq, ne_eq, Decidable.not_not, Bool.not_eq_true, Bool.not_eq_false, gt_iff_lt, ge_iff_le, Int.not_lt, Int.not_le] at h67q
                                                      subst h67q
                                                      show AWl _ _ _ _ _
                                                      refine aLit st rfl (by repeat constructor) fun b84 H68 st => ?_
                                                      have st := st.toI 0 rfl rfl (by repeat constructor)
                                                      refine aC (many_call (ob := (some b84)) (xs := [232]) (b := 255) (n := 12) (st.got 0 rfl).1 (st.got 0 rfl).2 (by simp)) fun v85 H69 ⟨b85, hv, st1⟩ => ?_
                                                      subst hv
                                                      replace st := st.callT 0 rfl st1 rfl
                                                      clear st1
                                                      refine aC (many_call (ob := b85) (xs := ([232] ++ List.replicate 12 255)) (b := 0) (n := 2) (st.got 0 rfl).1 (st.got 0 rfl).2 (by simp)) fun v86 H70 ⟨b86, hv, st1⟩ => ?_
                                                      subst hv
                                                      replace st := st.callT 0 rfl st1 rfl
                                                      clear st1
                                                      refine aMovA rfl ?_
                                                      refine sE ?_
                                                      refine ⟨_, out1 (r_acc rfl), ?_⟩
                                                      refine ⟨b86, ?_, ?_, fun h => absurd h (by decide)⟩
                                                      · rfl
                                                      · have st2 := st.pick 0 rfl; first | exact st2 | simpa [rowL, useL] using st2
                                                    · have h67q := h67; try simp only [decide_eq_true_eq, decide_eq_false_iff_not, beq_iff_eq, beq_eq_false_iff_ne, bne_iff_ne, bne_eq_false_iff_eq, ne_eq, Decidable.not_not, Bool.not_eq_true, Bool.not_eq_false, gt_iff_lt, ge_iff_le, Int.not_lt, Int.not_le] at h67q
                                                      show AWl _ _ _ _ _
                                                      refine aN rfl rfl (by constructor) ?_
                                                      refine aN rfl rfl (by constructor) ?_
                                                      refine sE ?_
                                                      show AW _ (.cond _ _ _) _ _ _
                                                      refine cC' rfl (fun h71 => ?_) (fun h71 => ?_)
                                                      · have h71q := h71; try simp only [decide_eq_true_eq, decide_eq_false_iff_not, beq_iff_eq, beq_eq_false_iff_ne, bne_iff_ne, bne_eq_false_iff_eq, ne_eq, Decidable.not_not, Bool.not_eq_true, Bool.not_eq_false, gt_iff_lt, ge_iff_le, Int.not_lt, Int.not_le] at h71q
                                                        subst h71q
                                                        show AWl _ _ _ _ _
                                                        refine aLit st rfl (by repeat constructor) fun b89 H72 st => ?_
                                                        have st := st.toI 0 rfl rfl (by repeat constructor)
                                                        refine aC (many_call (ob := (some b89)) (xs := [0, 3, 0, 0, 0]) (b := 255) (n := 4) (st.got 0 rfl).1 (st.got 0 rfl).2 (by simp)) fun v90 H73 ⟨b90, hv, st1⟩ => ?_
                                                        subst hv
                                                        replace st := st.callT 0 rfl st1 rfl
                                                        clear st1
                                                        refine aC (many_call (ob := b90) (xs := ([0, 3, 0, 0, 0] ++ List.replicate 4 255)) (b := 0) (n := 2) (st.got 0 rfl).1 (st.got 0 rfl).2 (by simp)) fun v91 H74 ⟨b91, hv, st1⟩ => ?_
                                                        subst hv
                                                        replace st := st.callT 0 rfl st1 rfl
                                                        clear st1
                                                        refine aMovA rfl ?_
                                                        refine sE ?_
                                                        refine ⟨_, out1 (r_acc rfl), ?_⟩
                                                        refine ⟨b91, ?_, ?_, fun h => absurd h (by decide)⟩
                                                        · rfl
                                                        · have st2 := st.pick 0 rfl; first | exact st2 | simpa [rowL, useL] using st2
                                                      · have h71q := h71; try simp only [decide_eq_true_eq, decide_eq_false_iff_not, beq_iff_eq, beq_eq_false_iff_ne, bne_iff_ne, bne_eq_false_iff_eq, ne_eq, Decidable.not_not, Bool.not_eq_true, Bool.not_eq_false, gt_iff_lt, ge_iff_le, Int.not_lt, Int.not_le] at h71q
                                                        show AWl _ _ _ _ _
                                                        refine aN rfl rfl (by constructor) ?_
                                                        refine sE ?_
                                                        refine ⟨_, out1 (r_tmp rfl (by constructor)), ?_⟩
                                                        have e : useL op = [] := by unfold useL; simp only [if_false, *]
                                                        exact ⟨none, by unfold rowL; rw [e]; rfl, by unfold rowL; rw [e]; exact (st.nil 5).pick 0 rfl, fun _ => rfl⟩
def servesB (op sv : Int) : Bool := if op = 94 then decide (sv ≤ 3) else if op = 95 then decide (sv ≤ 6) else if op = 131 then sv == 0 else if op = 158 then sv == 16 else true
theorem serves_call {H : Hp} {op sv : Int} (ho : 0 ≤ op ∧ op < 256) :
    ACalls Try.prog 24 [.int .u8 op, .int .u8 sv] H (fun v H' => v = .bool (servesB op sv) ∧ Stt [] H H' []) := by
  refine acallsW Try.func24 f24_ok (Nat.le_of_ble_eq_true rfl) fun hw => ?_
  have st : Stt [] H H [] := Stt.start hw
  unfold f24c
  show AWl _ _ _ _ _
  refine aN rfl rfl (by constructor) ?_
  refine sE ?_
  show AWl _ _ _ _ _
  refine aN rfl rfl (by constructor) ?_
  refine sE ?_
  show AWl _ _ _ _ _
  refine aN rfl rfl (by constructor) ?_
  refine aN rfl rfl (by constructor) ?_
  refine sE ?_
  show AW _ (.cond _ _ _) _ _ _
  refine cC' rfl (fun h1 => ?_) (fun h1 => ?_)
  · have h1q := h1; try simp only [decide_eq_true_eq, decide_eq_false_iff_not, beq_iff_eq, beq_eq_false_iff_ne, bne_iff_ne, bne_eq_false_iff_eq, ne_eq, Decidable.not_not, Bool.not_eq_true, Bool.not_eq_false, gt_iff_lt, ge_iff_le, Int.not_lt, Int.not_le] at h1q
    subst h1q
    show AWl _ _ _ _ _
    refine aN rfl rfl (by constructor) ?_
    refine aN rfl rfl (by constructor) ?_
    refine aN rfl rfl (by constructor) ?_
    refine sE ?_
    refine ⟨_, out1 (r_tmp rfl (by constructor)), ?_⟩
    refine ⟨congrArg Value.bool ?_, st.drop⟩
    unfold servesB; first | rfl | (simp only [if_false, *]; done) | simp [*]
  · have h1q := h1; try simp only [decide_eq_true_eq, decide_eq_false_iff_not, beq_iff_eq, beq_eq_false_iff_ne, bne_iff_ne, bne_eq_false_iff_eq, ne_eq, Decidable.not_not, Bool.not_eq_true, Bool.not_eq_false, gt_iff_lt, ge_iff_le, Int.not_lt, Int.not_le] at h1q
    show AWl _ _ _ _ _
    refine aN rfl rfl (by constructor) ?_
    refine aN rfl rfl (by constructor) ?_
    refine sE ?_
    show AW _ (.cond _ _ _) _ _ _
    refine cC' rfl (fun h2 => ?_) (fun h2 => ?_)
    · have h2q := h2; try simp only [decide_eq_true_eq, decide_eq_false_iff_not, beq_iff_eq, beq_eq_false_iff_ne, bne_iff_ne, bne_eq_false_iff_eq, ne_eq, Decidable.not_not, Bool.not_eq_true, Bool.not_eq_false, gt_iff_lt, ge_iff_le, Int.not_lt, Int.not_le] at h2q
      subst h2q
      show AWl _ _ _ _ _
      refine aN rfl rfl (by constructor) ?_
      refine aN rfl rfl (by constructor) ?_
      refine aN rfl rfl (by constructor) ?_
      refine sE ?_
      refine ⟨_, out1 (r_tmp rfl (by constructor)), ?_⟩
      refine ⟨congrArg Value.bool ?_, st.drop⟩
      unfold servesB; first | rfl | (simp only [if_false, *]; done) | simp [*]
    · have h2q := h2; try simp only [decide_eq_true_eq, decide_eq_false_iff_not, beq_iff_eq, beq_eq_false_iff_ne, bne_iff_ne, bne_eq_false_iff_eq, ne_eq, Decidable.not_not, Bool.not_eq_true, Bool.not_eq_false, gt_iff_lt, ge_iff_le, Int.not_lt, Int.not_le] at h2q
      show AWl _ _ _ _ _
      refine aN rfl rfl (by constructor) ?_
      refine aN rfl rfl (by constructor) ?_
      refine sE ?_
      show AW _ (.cond _ _ _) _ _ _
      refine cC' rfl (fun h3 => ?_) (fun h3 => ?_)
      · have h3q := h3; try simp only [decide_eq_true_eq, decide_eq_false_iff_not, beq_iff_eq, beq_eq_false_iff_ne, bne_iff_ne, bne_eq_false_iff_eq, ne_eq, Decidable.not_not, Bool.not_eq_true, Bool.not_eq_false, gt_iff_lt, ge_iff_le, Int.not_lt, Int.not_le] at h3q
        subst h3q
        show AWl _ _ _ _ _
        refine aN rfl rfl (by constructor) ?_
        refine aN rfl rfl (by constructor) ?_
        refine aN rfl rfl (by constructor) ?_
        refine sE ?_
        refine ⟨_, out1 (r_tmp rfl (by constructor)), ?_⟩
        refine ⟨congrArg Value.bool ?_, st.drop⟩
        unfold servesB; first | rfl | (simp only [if_false, *]; done) | simp [*]
      · have h3q := h3; try simp only [decide_eq_true_eq, decide_eq_false_iff_not, beq_iff_eq, beq_eq_false_iff_ne, bne_iff_ne, bne_eq_false_iff_eq, ne_eq, Decidable.not_not, Bool.not_eq_true, Bool.not_eq_false, gt_iff_lt, ge_iff_le, Int.not_lt, Int.not_le] at h3q
        show AWl _ _ _ _ _
        refine aN rfl rfl (by constructor) ?_
        refine aN rfl rfl (by constructor) ?_
        refine sE ?_
        show AW _ (.cond _ _ _) _ _ _
        refine cC' rfl (fun h4 => ?_) (fun h4 => ?_)
        · have h4q := h4; try simp only [decide_eq_true_eq, decide_eq_false_iff_not, beq_iff_eq, beq_eq_false_iff_ne, bne_iff_ne, bne_eq_false_iff_eq, ne_eq, Decidable.not_not, Bool.not_eq_true, Bool.not_eq_false, gt_iff_lt, ge_iff_le, Int.not_lt, Int.not_le] at h4q
          subst h4q
          show AWl _ _ _ _ _
          refine aN rfl rfl (by constructor) ?_
          refine aN rfl rfl (by constructor) ?_
          refine aN rfl rfl (by constructor) ?_
          refine sE ?_
          refine ⟨_, out1 (r_tmp rfl (by constructor)), ?_⟩
          refine ⟨congrArg Value.bool ?_, st.drop⟩
          unfold servesB; first | rfl | (simp only [if_false, *]; done) | simp [*]
        · have h4q := h4; try simp only [decide_eq_true_eq, decide_eq_false_iff_not, beq_iff_eq, beq_eq_false_iff_ne, bne_iff_ne, bne_eq_false_iff_eq, ne_eq, Decidable.not_not, Bool.not_eq_true, Bool.not_eq_false, gt_iff_lt, ge_iff_le, Int.not_lt, Int.not_le] at h4q
          show AWl _ _ _ _ _
          refine aN rfl rfl (by constructor) ?_
          refine sE ?_
          refine ⟨_, out1 (r_tmp rfl (by constructor)), ?_⟩
          refine ⟨congrArg Value.bool ?_, st.drop⟩
          unfold servesB; first | rfl | (simp only [if_false, *]; done) | simp [*]
theorem fault_call {H : Hp} {f b : Int}  :
    ACalls Try.prog 14 [.int .i64 f, .int .i64 b] H (fun v H' => v = .agg #[.int .u8 5, .int .u16 9216, .int .u64 0, .bool false, .int .i64 f, .int .i64 b, .bool true, .bool true] ∧ Stt [] H H' []) := by
  refine acallsW Try.func14 f14_ok (Nat.le_of_ble_eq_true rfl) fun hw => ?_
  have st : Stt [] H H [] := Stt.start hw
  unfold f14c
  show AWl _ _ _ _ _
  refine aNewP st rfl rfl (by repeat constructor) fun b4 H1 st => ?_
  refine sE ?_
  show AWl _ _ _ _ _
  refine aN rfl rfl (by constructor) ?_
  refine aN rfl rfl (by constructor) ?_
  refine aBld rfl (by repeat constructor) ?_
  refine aSt st 0 rfl rfl rfl rfl (by first | rfl | simp [cellsOf, *]) (by first | decide | simp [*]) (by repeat constructor) fun H2 st => ?_
  refine sE ?_
  refine ⟨_, out1 (r_cellA st 0 rfl rfl (by first | decide | simp [*]) (by repeat constructor)), ?_⟩
  exact ⟨rfl, st.drop⟩
theorem rfault_call {H : Hp} {f b : Int}  :
    ACalls Try.prog 15 [.int .i64 f, .int .i64 b] H (fun v H' => v = .agg #[.int .u8 5, .int .u16 9216, .int .u64 0, .bool false, .int .i64 f, .int .i64 b, .bool true, .bool true] ∧ Stt [] H H' []) := by
  refine acallsW Try.func15 f15_ok (Nat.le_of_ble_eq_true rfl) fun hw => ?_
  have st : Stt [] H H [] := Stt.start hw
  unfold f15c
  show AWl _ _ _ _ _
  refine aNewP st rfl rfl (by repeat constructor) fun b4 H1 st => ?_
  refine sE ?_
  show AWl _ _ _ _ _
  refine aN rfl rfl (by constructor) ?_
  refine aN rfl rfl (by constructor) ?_
  refine aBld rfl (by repeat constructor) ?_
  refine aSt st 0 rfl rfl rfl rfl (by first | rfl | simp [cellsOf, *]) (by first | decide | simp [*]) (by repeat constructor) fun H2 st => ?_
  refine sE ?_
  refine ⟨_, out1 (r_cellA st 0 rfl rfl (by first | decide | simp [*]) (by repeat constructor)), ?_⟩
  exact ⟨rfl, st.drop⟩
def tellsB (op : Int) : Bool := decide (op = 94 ∨ op = 95 ∨ op = 131 ∨ op = 158)
theorem tells_call {H : Hp} {op : Int}  :
    ACalls Try.prog 20 [.int .u8 op] H (fun v H' => v = .bool (tellsB op) ∧ Stt [] H H' []) := by
  refine acallsW Try.func20 f20_ok (Nat.le_of_ble_eq_true rfl) fun hw => ?_
  have st : Stt [] H H [] := Stt.start hw
  unfold f20c
  show AWl _ _ _ _ _
  refine aN rfl rfl (by constructor) ?_
  refine sE ?_
  show AWl _ _ _ _ _
  refine aN rfl rfl (by constructor) ?_
  refine aN rfl rfl (by constructor) ?_
  refine aN rfl rfl (by constructor) ?_
  refine gCase 5 rfl (fun h1 => ?_) (fun h1 => ?_)
  · have h1q := h1; try simp only [decide_eq_true_eq, decide_eq_false_iff_not, beq_iff_eq, beq_eq_false_iff_ne, bne_iff_ne, bne_eq_false_iff_eq, ne_eq, Decidable.not_not, Bool.not_eq_true, Bool.not_eq_false, gt_iff_lt, ge_iff_le, Int.not_lt, Int.not_le] at h1q
    refine gF rfl (by decide) ?_
    refine gF rfl (by decide) ?_
    refine aN rfl rfl (by constructor) ?_
    refine aN rfl rfl (by constructor) ?_
    refine gF rfl (by decide) ?_
    refine gF rfl (by decide) ?_
    refine aN rfl rfl (by constructor) ?_
    refine aN rfl rfl (by constructor) ?_
    refine gF rfl (by decide) ?_
    refine gF rfl (by decide) ?_
    refine aN rfl rfl (by constructor) ?_
    refine aN rfl rfl (by constructor) ?_
    refine sE ?_
    refine ⟨_, out1 (r_tmp rfl (by constructor)), ?_⟩
    refine ⟨congrArg Value.bool ?_, st.drop⟩
    rw [Bool.eq_iff_iff]; simp [tellsB, *]
  · have h1q := h1; try simp only [decide_eq_true_eq, decide_eq_false_iff_not, beq_iff_eq, beq_eq_false_iff_ne, bne_iff_ne, bne_eq_false_iff_eq, ne_eq, Decidable.not_not, Bool.not_eq_true, Bool.not_eq_false, gt_iff_lt, ge_iff_le, Int.not_lt, Int.not_le] at h1q
    refine gT rfl ?_
    refine aN rfl rfl (by constructor) ?_
    refine gT rfl ?_
    refine aN rfl rfl (by constructor) ?_
    refine aN rfl rfl (by constructor) ?_
    refine aN rfl rfl (by constructor) ?_
    refine gCase 9 rfl (fun h2 => ?_) (fun h2 => ?_)
    · have h2q := h2; try simp only [decide_eq_true_eq, decide_eq_false_iff_not, beq_iff_eq, beq_eq_false_iff_ne, bne_iff_ne, bne_eq_false_iff_eq, ne_eq, Decidable.not_not, Bool.not_eq_true, Bool.not_eq_false, gt_iff_lt, ge_iff_le, Int.not_lt, Int.not_le] at h2q
      refine gF rfl (by decide) ?_
      refine gF rfl (by decide) ?_
      refine aN rfl rfl (by constructor) ?_
      refine aN rfl rfl (by constructor) ?_
      refine gF rfl (by decide) ?_
      refine gF rfl (by decide) ?_
      refine aN rfl rfl (by constructor) ?_
      refine aN rfl rfl (by constructor) ?_
      refine sE ?_
      refine ⟨_, out1 (r_tmp rfl (by constructor)), ?_⟩
      refine ⟨congrArg Value.bool ?_, st.drop⟩
      rw [Bool.eq_iff_iff]; simp [tellsB, *]
    · have h2q := h2; try simp only [decide_eq_true_eq, decide_eq_false_iff_not, beq_iff_eq, beq_eq_false_iff_ne, bne_iff_ne, bne_eq_false_iff_eq, ne_eq, Decidable.not_not, Bool.not_eq_true, Bool.not_eq_false, gt_iff_lt, ge_iff_le, Int.not_lt, Int.not_le] at h2q
      refine gT rfl ?_
      refine aN rfl rfl (by constructor) ?_
      refine gT rfl ?_
      refine aN rfl rfl (by constructor) ?_
      refine aN rfl rfl (by constructor) ?_
      refine aN rfl rfl (by constructor) ?_
      refine gCase 13 rfl (fun h3 => ?_) (fun h3 => ?_)
      · have h3q := h3; try simp only [decide_eq_true_eq, decide_eq_false_iff_not, beq_iff_eq, beq_eq_false_iff_ne, bne_iff_ne, bne_eq_false_iff_eq, ne_eq, Decidable.not_not, Bool.not_eq_true, Bool.not_eq_false, gt_iff_lt, ge_iff_le, Int.not_lt, Int.not_le] at h3q
        refine gF rfl (by decide) ?_
        refine gF rfl (by decide) ?_
        refine aN rfl rfl (by constructor) ?_
        refine aN rfl rfl (by constructor) ?_
        refine sE ?_
        refine ⟨_, out1 (r_tmp rfl (by constructor)), ?_⟩
        refine ⟨congrArg Value.bool ?_, st.drop⟩
        rw [Bool.eq_iff_iff]; simp [tellsB, *]
      · have h3q := h3; try simp only [decide_eq_true_eq, decide_eq_false_iff_not, beq_iff_eq, beq_eq_false_iff_ne, bne_iff_ne, bne_eq_false_iff_eq, ne_eq, Decidable.not_not, Bool.not_eq_true, Bool.not_eq_false, gt_iff_lt, ge_iff_le, Int.not_lt, Int.not_le] at h3q
        refine gT rfl ?_
        refine aN rfl rfl (by constructor) ?_
        refine gT rfl ?_
        refine aN rfl rfl (by constructor) ?_
        refine aN rfl rfl (by constructor) ?_
        refine aN rfl rfl (by constructor) ?_
        refine sE ?_
        refine ⟨_, out1 (r_tmp rfl (by constructor)), ?_⟩
        refine ⟨congrArg Value.bool ?_, st.drop⟩
        rw [Bool.eq_iff_iff]; simp [tellsB, *]
def codes : List Int := [0, 3, 8, 10, 18, 21, 26, 37, 40, 42, 46, 47, 53, 65, 66, 85, 90, 94, 95, 131, 136, 138, 137, 145, 147, 158, 160]
theorem use_elim (op : Int) : useL op = [] ∨ op ∈ codes := by
  by_cases h : op ∈ codes
  · exact .inr h
  · refine .inl ?_
    simp only [codes, List.mem_cons, not_or, List.not_mem_nil, not_false_eq_true, and_true] at h
    obtain ⟨h0, h1, h2, h3, h4, h5, h6, h7, h8, h9, h10, h11, h12, h13, h14, h15, h16, h17, h18, h19, h20, h21, h22, h23, h24, h25, h26⟩ := h
    unfold useL
    rw [if_neg h0, if_neg h1, if_neg h2, if_neg h3, if_neg h4, if_neg h5, if_neg h6, if_neg h7, if_neg h8, if_neg h9, if_neg h10, if_neg h11, if_neg h12, if_neg h13, if_neg h14, if_neg h15, if_neg h16, if_neg h17, if_neg h18, if_neg h19, if_neg h20, if_neg h21, if_neg h22, if_neg h23, if_neg h24, if_neg h25, if_neg h26]
theorem code_row : ∀ op ∈ codes, useL op = op :: rowL op ∧ (rowL op).length ≤ 20 := by
  intro op h
  simp only [codes, List.mem_cons, List.not_mem_nil, or_false] at h
  rcases h with h | h | h | h | h | h | h | h | h | h | h | h | h | h | h | h | h | h | h | h | h | h | h | h | h | h | h <;> subst h <;> exact ⟨rfl, by decide⟩
theorem use_cases (op : Int) : useL op = [] ∨ useL op = op :: rowL op := (use_elim op).imp id fun h => (code_row op h).1
theorem use_nil {op : Int} (h : rowL op = []) : useL op = [] := by
  rcases use_cases op with h1 | h1
  · exact h1
  · exfalso
    rcases use_elim op with h2 | h2
    · rw [h2] at h1; cases h1
    · have : ∀ op ∈ codes, rowL op ≠ [] := by
        intro op h
        simp only [codes, List.mem_cons, List.not_mem_nil, or_false] at h
        rcases h with h | h | h | h | h | h | h | h | h | h | h | h | h | h | h | h | h | h | h | h | h | h | h | h | h | h | h <;> subst h <;> decide
      exact this op h2 h
theorem serve_no {op sv : Int} (h : useL op = []) : serveB op sv = false := by
  unfold serveB
  rw [h]
  repeat' split
  all_goals first | rfl | (subst_vars; exact absurd h (by decide))
theorem use_row {op sv : Int} (h : rowL op ≠ []) : useL op = op :: rowL op ∧ serveB op sv = servesB op sv := by
  have h1 : useL op = op :: rowL op := by
    rcases use_cases op with h1 | h1
    · exact absurd (by unfold rowL; rw [h1]; rfl) h
    · exact h1
  refine ⟨h1, ?_⟩
  unfold serveB servesB
  rw [h1]
  repeat' split
  all_goals rfl
theorem rowL_len (op : Int) : (rowL op).length ≤ 20 := by
  rcases use_elim op with h | h
  · unfold rowL; rw [h]; simp
  · exact (code_row op h).2
theorem rusage_call {H : Hp} {op sv : Int} (ho : 0 ≤ op ∧ op < 256) :
    ACalls Try.prog 13 [.int .u8 op, .int .u8 sv] H (fun v H' => ∃ ob, v = .tuple #[accV ob (useL op).length 1, .bool (serveB op sv)] ∧ Stt [] H H' [⟨ob, true, ⟨true, 5, (useL op).map (Value.int .u8)⟩⟩] ∧ (useL op = [] → ob = none)) := by
  refine acallsW Try.func13 f13_ok (Nat.le_of_ble_eq_true rfl) fun hw => ?_
  have st : Stt [] H H [] := Stt.start hw
  unfold f13c
  show AWl _ _ _ _ _
  refine aN rfl rfl (by constructor) ?_
  refine aN rfl rfl (by constructor) ?_
  refine sE ?_
  show AWl _ _ _ _ _
  refine aN rfl rfl (by constructor) ?_
  refine aC (row_call ho) fun v9 H1 ⟨ob9, hv, st1, he9⟩ => ?_
  subst hv
  replace st := st.call st1 rfl
  clear st1
  refine aMovA rfl ?_
  by_cases hr : rowL op = []
  · obtain rfl := he9 hr
    refine sE ?_
    show AWl _ _ _ _ _
    refine aN rfl rfl (by constructor) ?_
    refine aBinV (.bool true) (u := .slice none 0 0) (u' := .slice none 0 0) rfl rfl rfl ?_
    refine sE ?_
    show AW _ (.cond _ _ _) _ _ _
    refine cT rfl ?_
    show AWl _ _ _ _ _
    refine aN rfl rfl (by constructor) ?_
    refine aN rfl rfl (by constructor) ?_
    refine sE ?_
    refine ⟨_, out2 (r_tmp rfl (by constructor)) (r_tmp rfl (by constructor)) ⟨rfl, rfl⟩, ?_⟩
    have e := use_nil hr
    have e2 := serve_no (sv := sv) e
    exact ⟨none, by rw [e, e2]; rfl, by rw [e]; exact (st.nil 5).pick 0 rfl, fun _ => rfl⟩
  · obtain ⟨b9, rfl⟩ := st.isSome 0 rfl (by intro hc; rw [List.map_eq_nil_iff] at hc; exact hr hc)
    refine sE ?_
    show AWl _ _ _ _ _
    refine aN rfl rfl (by constructor) ?_
    refine aBinV (.bool false) (u := .slice (some ⟨b9, 0, none⟩) (rowL op).length 1) (u' := .slice none 0 0) rfl rfl rfl ?_
    refine sE ?_
    show AW _ (.cond _ _ _) _ _ _
    refine cF' rfl ?_
    show AWl _ _ _ _ _
    refine aN rfl rfl (by constructor) ?_
    refine aLit st rfl (by repeat constructor) fun b13 H2 st => ?_
    refine aN rfl rfl (by constructor) ?_
    refine sE ?_
    show AWl _ _ _ _ _
    refine aN rfl rfl (by constructor) ?_
    refine aN rfl rfl (by constructor) ?_
    refine aAppP st 0 (ob := some b13) rfl rfl rfl (by decide) (by first | rfl | (simp [beB_len, *]; done) | (simp [beB_len, *]; omega)) (st.rowAll 1 rfl (by simp)).src (by simp) (by have := rowL_len op; omega) (by have := rowL_len op; omega) (by omega) (NfL.any _) fun b16 H3 st => ?_
    refine aN rfl rfl (by constructor) ?_
    refine aN rfl rfl (by constructor) ?_
    refine aC (serves_call ho) fun v19 H4 ⟨hv, st1⟩ => ?_
    subst hv
    replace st := st.call st1 rfl
    clear st1
    refine aN rfl rfl (by constructor) ?_
    refine aN rfl rfl (by constructor) ?_
    refine sE ?_
    refine ⟨_, out2 (r_tmp rfl (by constructor)) (r_tmp rfl (by constructor)) ⟨rfl, rfl⟩, ?_⟩
    obtain ⟨e, e2⟩ := use_row (sv := sv) hr
    refine ⟨some b16, ?_, ?_, fun h => absurd h (by rw [e]; simp)⟩
    · rw [e, e2]; exact congrArg (fun n => Value.tuple #[accV (some _) n 1, .bool (servesB op sv)]) (by simp; omega)
    · rw [e]; exact st.pick 0 rfl
end Go.Proofs.Ytlbmfcbcmfcjbaa.Abs
