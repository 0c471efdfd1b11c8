/- Sense: SenseNames. -/
import Derived.Test.YtloigiieoehimaaE7
set_option linter.unusedVariables false
set_option linter.unusedSimpArgs false
set_option maxRecDepth 100000
namespace Go.Proofs.Ytloigiieoehimaa.Abs
open Go Go.RowKit
def nameT : List (Int × ByteArray) := [(0, ⟨#[110, 111, 32, 97, 100, 100, 105, 116, 105, 111, 110, 97, 108, 32, 115, 101, 110, 115, 101, 32, 105, 110, 102, 111, 114, 109, 97, 116, 105, 111, 110]⟩), (3072, ⟨#[119, 114, 105, 116, 101, 32, 101, 114, 114, 111, 114]⟩), (3330, ⟨#[99, 111, 112, 121, 32, 116, 97, 114, 103, 101, 116, 32, 100, 101, 118, 105, 99, 101, 32, 110, 111, 116, 32, 114, 101, 97, 99, 104, 97, 98, 108, 101]⟩), (4097, ⟨#[108, 111, 103, 105, 99, 97, 108, 32, 98, 108, 111, 99, 107, 32, 103, 117, 97, 114, 100, 32, 99, 104, 101, 99, 107, 32, 102, 97, 105, 108, 101, 100]⟩), (4098, ⟨#[108, 111, 103, 105, 99, 97, 108, 32, 98, 108, 111, 99, 107, 32, 97, 112, 112, 108, 105, 99, 97, 116, 105, 111, 110, 32, 116, 97, 103, 32, 99, 104, 101, 99, 107, 32, 102, 97, 105, 108, 101, 100]⟩), (4099, ⟨#[108, 111, 103, 105, 99, 97, 108, 32, 98, 108, 111, 99, 107, 32, 114, 101, 102, 101, 114, 101, 110, 99, 101, 32, 116, 97, 103, 32, 99, 104, 101, 99, 107, 32, 102, 97, 105, 108, 101, 100]⟩), (4352, ⟨#[117, 110, 114, 101, 99, 111, 118, 101, 114, 101, 100, 32, 114, 101, 97, 100, 32, 101, 114, 114, 111, 114]⟩), (6656, ⟨#[112, 97, 114, 97, 109, 101, 116, 101, 114, 32, 108, 105, 115, 116, 32, 108, 101, 110, 103, 116, 104, 32, 101, 114, 114, 111, 114]⟩), (7424, ⟨#[109, 105, 115, 99, 111, 109, 112, 97, 114, 101, 32, 100, 117, 114, 105, 110, 103, 32, 118, 101, 114, 105, 102, 121, 32, 111, 112, 101, 114, 97, 116, 105, 111, 110]⟩), (8192, ⟨#[105, 110, 118, 97, 108, 105, 100, 32, 99, 111, 109, 109, 97, 110, 100, 32, 111, 112, 101, 114, 97, 116, 105, 111, 110, 32, 99, 111, 100, 101]⟩), (8448, ⟨#[108, 111, 103, 105, 99, 97, 108, 32, 98, 108, 111, 99, 107, 32, 97, 100, 100, 114, 101, 115, 115, 32, 111, 117, 116, 32, 111, 102, 32, 114, 97, 110, 103, 101]⟩), (9216, ⟨#[105, 110, 118, 97, 108, 105, 100, 32, 102, 105, 101, 108, 100, 32, 105, 110, 32, 99, 100, 98]⟩), (9472, ⟨#[108, 111, 103, 105, 99, 97, 108, 32, 117, 110, 105, 116, 32, 110, 111, 116, 32, 115, 117, 112, 112, 111, 114, 116, 101, 100]⟩), (9728, ⟨#[105, 110, 118, 97, 108, 105, 100, 32, 102, 105, 101, 108, 100, 32, 105, 110, 32, 112, 97, 114, 97, 109, 101, 116, 101, 114, 32, 108, 105, 115, 116]⟩), (9736, ⟨#[116, 111, 111, 32, 109, 97, 110, 121, 32, 115, 101, 103, 109, 101, 110, 116, 32, 100, 101, 115, 99, 114, 105, 112, 116, 111, 114, 115]⟩), (9984, ⟨#[119, 114, 105, 116, 101, 32, 112, 114, 111, 116, 101, 99, 116, 101, 100]⟩), (10496, ⟨#[112, 111, 119, 101, 114, 32, 111, 110, 32, 111, 99, 99, 117, 114, 114, 101, 100]⟩), (10753, ⟨#[109, 111, 100, 101, 32, 112, 97, 114, 97, 109, 101, 116, 101, 114, 115, 32, 99, 104, 97, 110, 103, 101, 100]⟩), (10755, ⟨#[114, 101, 115, 101, 114, 118, 97, 116, 105, 111, 110, 115, 32, 112, 114, 101, 101, 109, 112, 116, 101, 100]⟩), (10756, ⟨#[114, 101, 115, 101, 114, 118, 97, 116, 105, 111, 110, 115, 32, 114, 101, 108, 101, 97, 115, 101, 100]⟩), (10757, ⟨#[114, 101, 103, 105, 115, 116, 114, 97, 116, 105, 111, 110, 115, 32, 112, 114, 101, 101, 109, 112, 116, 101, 100]⟩), (12032, ⟨#[99, 111, 109, 109, 97, 110, 100, 115, 32, 99, 108, 101, 97, 114, 101, 100, 32, 98, 121, 32, 97, 110, 111, 116, 104, 101, 114, 32, 105, 110, 105, 116, 105, 97, 116, 111, 114]⟩)]
def nameF : List (Int × ByteArray) → Int → ByteArray
  | [], _ => ⟨#[]⟩
  | p :: r, c => if p.1 = c then p.2 else nameF r c
theorem nameAt1 {i : Nat} (h : i < nameT.length) : (nameT.map fun p => Value.int .u16 p.1)[0 + ((i : Nat) : Int).toNat * 1]? = some (.int .u16 nameT[i].1) := by
  rw [show 0 + ((i : Nat) : Int).toNat * 1 = i by omega, List.getElem?_map, List.getElem?_eq_getElem h]
  rfl
theorem nameAt2 {i : Nat} (h : i < nameT.length) : (nameT.map fun p => Value.string p.2)[0 + ((i : Nat) : Int).toNat * 1]? = some (.string nameT[i].2) := by
  rw [show 0 + ((i : Nat) : Int).toNat * 1 = i by omega, List.getElem?_map, List.getElem?_eq_getElem h]
  rfl
theorem nameF_ne {i : Nat} {c : Int} (h : i < nameT.length) (hne : nameT[i].1 ≠ c) : nameF (nameT.drop i) c = nameF (nameT.drop (i + 1)) c := by
  rw [List.drop_eq_getElem_cons h]
  simp only [nameF]
  rw [if_neg hne]
theorem nameF_eq {i : Nat} {c : Int} (h : i < nameT.length) (he : nameT[i].1 = c) : nameF (nameT.drop i) c = nameT[i].2 := by
  rw [List.drop_eq_getElem_cons h]
  simp only [nameF]
  rw [if_pos he]
theorem rname_call {H : Hp} {code : Int}  :
    ACalls Try.prog 16 [.int .u16 code] H (fun v H' => v = .string (nameF nameT code) ∧ Stt [] H H' []) := by
  refine acallsW Try.func16 f16_ok (Nat.le_of_ble_eq_true rfl) fun hw => ?_
  have st : Stt [] H H [] := Stt.start hw
  unfold f16c
  show AWl _ _ _ _ _
  refine aN rfl rfl (by constructor) ?_
  refine sE ?_
  show AWl _ _ _ _ _
  refine aLit st rfl (by repeat constructor) fun b6 H1 st => ?_
  refine aN rfl rfl (by constructor) ?_
  refine sE ?_
  show AWl _ _ _ _ _
  refine aLit st rfl (by repeat constructor) fun b7 H2 st => ?_
  refine aN rfl rfl (by constructor) ?_
  refine sE ?_
  show AWl _ _ _ _ _
  refine aN rfl rfl (by constructor) ?_
  refine sE ?_
  show AW _ (.loop _) _ _ _
  refine AW_loopN (fun m t1 H1 => ∃ (i : Nat), m = 22 - i ∧ i ≤ 22 ∧ nameF (nameT.drop i) code = nameF nameT code ∧ t1 5 = .int .i64 (i : Int) ∧ Stt [] H H1 [⟨some b7, true, ⟨true, 9, nameT.map fun p => Value.string p.2⟩⟩, ⟨some b6, true, ⟨true, 22, nameT.map fun p => Value.int .u16 p.1⟩⟩]) (22 - 0) ⟨0, rfl, by omega, rfl, rfl, (by have st2 := (st.sel [0, 1] (by decide)); exact st2)⟩ [2, 5, 8, 9, 10, 11, 12, 13, 14, 15, 16, 17, 18, 19, 20, 21, 22, 23] (by decide) ?_
  rintro m t1 H1 hk hI
  obtain ⟨i, rfl, hi, hF, ht5, st⟩ := hI
  obtain ⟨u, rfl⟩ : ∃ u, t1 = (upd (mix [2, 5, 8, 9, 10, 11, 12, 13, 14, 15, 16, 17, 18, 19, 20, 21, 22, 23] _ u) (some 5) _) := ⟨t1, by rw [← hk, upd_self ht5]⟩
  clear hk ht5
  show AWl _ _ _ _ _
  refine aN rfl rfl (by constructor) ?_
  refine aN rfl rfl (by constructor) ?_
  refine aN rfl rfl (by constructor) ?_
  refine aN rfl rfl (by constructor) ?_
  refine sE ?_
  show AW _ (.cond _ _ _) _ _ _
  refine cC' rfl (fun h3 => ?_) (fun h3 => ?_)
  · have hlt : i < nameT.length := by have := of_decide_eq_true h3; show i < 22; omega
    show AWl _ _ _ _ _
    refine aN rfl rfl (by constructor) ?_
    refine aN rfl rfl (by constructor) ?_
    refine aIxL rfl rfl (by have : i < 22 := hlt; omega) ?_
    refine aLd (v := .int .u16 nameT[i].1) st 1 rfl rfl (nameAt1 hlt) (by constructor) ?_
    refine aN rfl rfl (by constructor) ?_
    refine aN rfl rfl (by constructor) ?_
    refine sE ?_
    show AW _ (.cond _ _ _) _ _ _
    refine cC' rfl (fun h4 => ?_) (fun h4 => ?_)
    · show AWl _ _ _ _ _
      refine aN rfl rfl (by constructor) ?_
      refine aN rfl rfl (by constructor) ?_
      refine aIxL rfl rfl (by have : i < 22 := hlt; omega) ?_
      refine aLd (v := .string nameT[i].2) st 0 rfl rfl (nameAt2 hlt) (by constructor) ?_
      refine aN rfl rfl (by constructor) ?_
      refine sE ?_
      refine ⟨_, out1 (r_tmp rfl (by constructor)), ?_⟩
      have he : nameT[i].1 = code := by simpa using h4
      exact ⟨congrArg Value.string ((nameF_eq hlt he).symm.trans hF), st.drop⟩
    · have hne : nameT[i].1 ≠ code := by simpa using h4
      show AWl _ _ _ _ _
      refine aN rfl rfl (by constructor) ?_
      refine aN rfl rfl (by constructor) ?_
      refine aN rfl rfl (by constructor) ?_
      refine sE ?_
      exact ⟨_, by have : i < 22 := hlt; omega, i + 1, rfl, by have : i < 22 := hlt; omega, (nameF_ne hlt hne).symm.trans hF, congrArg (Value.int .i64) (wi _ (by have : i < 22 := hlt; omega)), (st.sel [0, 1] (by decide))⟩
  · have hge : i = nameT.length := by have := of_decide_eq_false h3; show i = 22; omega
    show AWl _ _ _ _ _
    refine aN rfl rfl (by constructor) ?_
    refine sE ?_
    refine ⟨_, out1 (r_tmp rfl (by constructor)), ?_⟩
    refine ⟨congrArg Value.string ?_, st.drop⟩
    rw [← hF, hge, List.drop_length]; rfl
theorem name_call {H : Hp} {code : Int}  :
    ACalls Try.prog 15 [.int .u16 code] H (fun v H' => v = .string (nameF nameT code) ∧ Stt [] H H' []) := by
  refine acallsW Try.func15 f15_ok (Nat.le_of_ble_eq_true rfl) fun hw => ?_
  have st : Stt [] H H [] := Stt.start hw
  unfold f15c
  show AWl _ _ _ _ _
  refine aN rfl rfl (by constructor) ?_
  refine sE ?_
  show AWl _ _ _ _ _
  refine aN rfl rfl (by constructor) ?_
  refine sE ?_
  show AWl _ _ _ _ _
  refine aN rfl rfl (by constructor) ?_
  refine aN rfl rfl (by constructor) ?_
  refine sE ?_
  show AW _ (.cond _ _ _) _ _ _
  refine cC' rfl (fun h1 => ?_) (fun h1 => ?_)
  · show AWl _ _ _ _ _
    refine aN rfl rfl (by constructor) ?_
    refine sE ?_
    refine ⟨_, out1 (r_tmp rfl (by constructor)), ?_⟩
    refine ⟨congrArg Value.string ?_, st.drop⟩
    unfold nameT
    have h1q := h1; simp only [beq_iff_eq, beq_eq_false_iff_ne, ne_eq] at h1q
    rw [nameF, if_pos h1q.symm]
  · show AWl _ _ _ _ _
    refine aN rfl rfl (by constructor) ?_
    refine aN rfl rfl (by constructor) ?_
    refine sE ?_
    show AW _ (.cond _ _ _) _ _ _
    refine cC' rfl (fun h2 => ?_) (fun h2 => ?_)
    · show AWl _ _ _ _ _
      refine aN rfl rfl (by constructor) ?_
      refine sE ?_
      refine ⟨_, out1 (r_tmp rfl (by constructor)), ?_⟩
      refine ⟨congrArg Value.string ?_, st.drop⟩
      unfold nameT
      have h1q := h1; simp only [beq_iff_eq, beq_eq_false_iff_ne, ne_eq] at h1q
      have h2q := h2; simp only [beq_iff_eq, beq_eq_false_iff_ne, ne_eq] at h2q
      rw [nameF, if_neg (fun e => h1q e.symm)]
      rw [nameF, if_pos h2q.symm]
    · show AWl _ _ _ _ _
      refine aN rfl rfl (by constructor) ?_
      refine aN rfl rfl (by constructor) ?_
      refine sE ?_
      show AW _ (.cond _ _ _) _ _ _
      refine cC' rfl (fun h3 => ?_) (fun h3 => ?_)
      · show AWl _ _ _ _ _
        refine aN rfl rfl (by constructor) ?_
        refine sE ?_
        refine ⟨_, out1 (r_tmp rfl (by constructor)), ?_⟩
        refine ⟨congrArg Value.string ?_, st.drop⟩
        unfold nameT
        have h1q := h1; simp only [beq_iff_eq, beq_eq_false_iff_ne, ne_eq] at h1q
        have h2q := h2; simp only [beq_iff_eq, beq_eq_false_iff_ne, ne_eq] at h2q
        have h3q := h3; simp only [beq_iff_eq, beq_eq_false_iff_ne, ne_eq] at h3q
        rw [nameF, if_neg (fun e => h1q e.symm)]
        rw [nameF, if_neg (fun e => h2q e.symm)]
        rw [nameF, if_pos h3q.symm]
      · show AWl _ _ _ _ _
        refine aN rfl rfl (by constructor) ?_
        refine aN rfl rfl (by constructor) ?_
        refine sE ?_
        show AW _ (.cond _ _ _) _ _ _
        refine cC' rfl (fun h4 => ?_) (fun h4 => ?_)
        · show AWl _ _ _ _ _
          refine aN rfl rfl (by constructor) ?_
          refine sE ?_
          refine ⟨_, out1 (r_tmp rfl (by constructor)), ?_⟩
          refine ⟨congrArg Value.string ?_, st.drop⟩
          unfold nameT
          have h1q := h1; simp only [beq_iff_eq, beq_eq_false_iff_ne, ne_eq] at h1q
          have h2q := h2; simp only [beq_iff_eq, beq_eq_false_iff_ne, ne_eq] at h2q
          have h3q := h3; simp only [beq_iff_eq, beq_eq_false_iff_ne, ne_eq] at h3q
          have h4q := h4; simp only [beq_iff_eq, beq_eq_false_iff_ne, ne_eq] at h4q
          rw [nameF, if_neg (fun e => h1q e.symm)]
          rw [nameF, if_neg (fun e => h2q e.symm)]
          rw [nameF, if_neg (fun e => h3q e.symm)]
          rw [nameF, if_pos h4q.symm]
        · show AWl _ _ _ _ _
          refine aN rfl rfl (by constructor) ?_
          refine aN rfl rfl (by constructor) ?_
          refine sE ?_
          show AW _ (.cond _ _ _) _ _ _
          refine cC' rfl (fun h5 => ?_) (fun h5 => ?_)
          · show AWl _ _ _ _ _
            refine aN rfl rfl (by constructor) ?_
            refine sE ?_
            refine ⟨_, out1 (r_tmp rfl (by constructor)), ?_⟩
            refine ⟨congrArg Value.string ?_, st.drop⟩
            unfold nameT
            have h1q := h1; simp only [beq_iff_eq, beq_eq_false_iff_ne, ne_eq] at h1q
            have h2q := h2; simp only [beq_iff_eq, beq_eq_false_iff_ne, ne_eq] at h2q
            have h3q := h3; simp only [beq_iff_eq, beq_eq_false_iff_ne, ne_eq] at h3q
            have h4q := h4; simp only [beq_iff_eq, beq_eq_false_iff_ne, ne_eq] at h4q
            have h5q := h5; simp only [beq_iff_eq, beq_eq_false_iff_ne, ne_eq] at h5q
            rw [nameF, if_neg (fun e => h1q e.symm)]
            rw [nameF, if_neg (fun e => h2q e.symm)]
            rw [nameF, if_neg (fun e => h3q e.symm)]
            rw [nameF, if_neg (fun e => h4q e.symm)]
            rw [nameF, if_pos h5q.symm]
          · show AWl _ _ _ _ _
            refine aN rfl rfl (by constructor) ?_
            refine aN rfl rfl (by constructor) ?_
            refine sE ?_
            show AW _ (.cond _ _ _) _ _ _
            refine cC' rfl (fun h6 => ?_) (fun h6 => ?_)
            · show AWl _ _ _ _ _
              refine aN rfl rfl (by constructor) ?_
              refine sE ?_
              refine ⟨_, out1 (r_tmp rfl (by constructor)), ?_⟩
              refine ⟨congrArg Value.string ?_, st.drop⟩
              unfold nameT
              have h1q := h1; simp only [beq_iff_eq, beq_eq_false_iff_ne, ne_eq] at h1q
              have h2q := h2; simp only [beq_iff_eq, beq_eq_false_iff_ne, ne_eq] at h2q
              have h3q := h3; simp only [beq_iff_eq, beq_eq_false_iff_ne, ne_eq] at h3q
              have h4q := h4; simp only [beq_iff_eq, beq_eq_false_iff_ne, ne_eq] at h4q
              have h5q := h5; simp only [beq_iff_eq, beq_eq_false_iff_ne, ne_eq] at h5q
              have h6q := h6; simp only [beq_iff_eq, beq_eq_false_iff_ne, ne_eq] at h6q
              rw [nameF, if_neg (fun e => h1q e.symm)]
              rw [nameF, if_neg (fun e => h2q e.symm)]
              rw [nameF, if_neg (fun e => h3q e.symm)]
              rw [nameF, if_neg (fun e => h4q e.symm)]
              rw [nameF, if_neg (fun e => h5q e.symm)]
              rw [nameF, if_pos h6q.symm]
            · show AWl _ _ _ _ _
              refine aN rfl rfl (by constructor) ?_
              refine aN rfl rfl (by constructor) ?_
              refine sE ?_
              show AW _ (.cond _ _ _) _ _ _
              refine cC' rfl (fun h7 => ?_) (fun h7 => ?_)
              · show AWl _ _ _ _ _
                refine aN rfl rfl (by constructor) ?_
                refine sE ?_
                refine ⟨_, out1 (r_tmp rfl (by constructor)), ?_⟩
                refine ⟨congrArg Value.string ?_, st.drop⟩
                unfold nameT
                have h1q := h1; simp only [beq_iff_eq, beq_eq_false_iff_ne, ne_eq] at h1q
                have h2q := h2; simp only [beq_iff_eq, beq_eq_false_iff_ne, ne_eq] at h2q
                have h3q := h3; simp only [beq_iff_eq, beq_eq_false_iff_ne, ne_eq] at h3q
                have h4q := h4; simp only [beq_iff_eq, beq_eq_false_iff_ne, ne_eq] at h4q
                have h5q := h5; simp only [beq_iff_eq, beq_eq_false_iff_ne, ne_eq] at h5q
                have h6q := h6; simp only [beq_iff_eq, beq_eq_false_iff_ne, ne_eq] at h6q
                have h7q := h7; simp only [beq_iff_eq, beq_eq_false_iff_ne, ne_eq] at h7q
                rw [nameF, if_neg (fun e => h1q e.symm)]
                rw [nameF, if_neg (fun e => h2q e.symm)]
                rw [nameF, if_neg (fun e => h3q e.symm)]
                rw [nameF, if_neg (fun e => h4q e.symm)]
                rw [nameF, if_neg (fun e => h5q e.symm)]
                rw [nameF, if_neg (fun e => h6q e.symm)]
                rw [nameF, if_pos h7q.symm]
              · show AWl _ _ _ _ _
                refine aN rfl rfl (by constructor) ?_
                refine aN rfl rfl (by constructor) ?_
                refine sE ?_
                show AW _ (.cond _ _ _) _ _ _
                refine cC' rfl (fun h8 => ?_) (fun h8 => ?_)
                · show AWl _ _ _ _ _
                  refine aN rfl rfl (by constructor) ?_
                  refine sE ?_
                  refine ⟨_, out1 (r_tmp rfl (by constructor)), ?_⟩
                  refine ⟨congrArg Value.string ?_, st.drop⟩
                  unfold nameT
                  have h1q := h1; simp only [beq_iff_eq, beq_eq_false_iff_ne, ne_eq] at h1q
                  have h2q := h2; simp only [beq_iff_eq, beq_eq_false_iff_ne, ne_eq] at h2q
                  have h3q := h3; simp only [beq_iff_eq, beq_eq_false_iff_ne, ne_eq] at h3q
                  have h4q := h4; simp only [beq_iff_eq, beq_eq_false_iff_ne, ne_eq] at h4q
                  have h5q := h5; simp only [beq_iff_eq, beq_eq_false_iff_ne, ne_eq] at h5q
                  have h6q := h6; simp only [beq_iff_eq, beq_eq_false_iff_ne, ne_eq] at h6q
                  have h7q := h7; simp only [beq_iff_eq, beq_eq_false_iff_ne, ne_eq] at h7q
                  have h8q := h8; simp only [beq_iff_eq, beq_eq_false_iff_ne, ne_eq] at h8q
                  rw [nameF, if_neg (fun e => h1q e.symm)]
                  rw [nameF, if_neg (fun e => h2q e.symm)]
                  rw [nameF, if_neg (fun e => h3q e.symm)]
                  rw [nameF, if_neg (fun e => h4q e.symm)]
                  rw [nameF, if_neg (fun e => h5q e.symm)]
                  rw [nameF, if_neg (fun e => h6q e.symm)]
                  rw [nameF, if_neg (fun e => h7q e.symm)]
                  rw [nameF, if_pos h8q.symm]
                · show AWl _ _ _ _ _
                  refine aN rfl rfl (by constructor) ?_
                  refine aN rfl rfl (by constructor) ?_
                  refine sE ?_
                  show AW _ (.cond _ _ _) _ _ _
                  refine cC' rfl (fun h9 => ?_) (fun h9 => ?_)
                  · show AWl _ _ _ _ _
                    refine aN rfl rfl (by constructor) ?_
                    refine sE ?_
                    refine ⟨_, out1 (r_tmp rfl (by constructor)), ?_⟩
                    refine ⟨congrArg Value.string ?_, st.drop⟩
                    unfold nameT
                    have h1q := h1; simp only [beq_iff_eq, beq_eq_false_iff_ne, ne_eq] at h1q
                    have h2q := h2; simp only [beq_iff_eq, beq_eq_false_iff_ne, ne_eq] at h2q
                    have h3q := h3; simp only [beq_iff_eq, beq_eq_false_iff_ne, ne_eq] at h3q
                    have h4q := h4; simp only [beq_iff_eq, beq_eq_false_iff_ne, ne_eq] at h4q
                    have h5q := h5; simp only [beq_iff_eq, beq_eq_false_iff_ne, ne_eq] at h5q
                    have h6q := h6; simp only [beq_iff_eq, beq_eq_false_iff_ne, ne_eq] at h6q
                    have h7q := h7; simp only [beq_iff_eq, beq_eq_false_iff_ne, ne_eq] at h7q
                    have h8q := h8; simp only [beq_iff_eq, beq_eq_false_iff_ne, ne_eq] at h8q
                    have h9q := h9; simp only [beq_iff_eq, beq_eq_false_iff_ne, ne_eq] at h9q
                    rw [nameF, if_neg (fun e => h1q e.symm)]
                    rw [nameF, if_neg (fun e => h2q e.symm)]
                    rw [nameF, if_neg (fun e => h3q e.symm)]
                    rw [nameF, if_neg (fun e => h4q e.symm)]
                    rw [nameF, if_neg (fun e => h5q e.symm)]
                    rw [nameF, if_neg (fun e => h6q e.symm)]
                    rw [nameF, if_neg (fun e => h7q e.symm)]
                    rw [nameF, if_neg (fun e => h8q e.symm)]
                    rw [nameF, if_pos h9q.symm]
                  · show AWl _ _ _ _ _
                    refine aN rfl rfl (by constructor) ?_
                    refine aN rfl rfl (by constructor) ?_
                    refine sE ?_
                    show AW _ (.cond _ _ _) _ _ _
                    refine cC' rfl (fun h10 => ?_) (fun h10 => ?_)
                    · show AWl _ _ _ _ _
                      refine aN rfl rfl (by constructor) ?_
                      refine sE ?_
                      refine ⟨_, out1 (r_tmp rfl (by constructor)), ?_⟩
                      refine ⟨congrArg Value.string ?_, st.drop⟩
                      unfold nameT
                      have h1q := h1; simp only [beq_iff_eq, beq_eq_false_iff_ne, ne_eq] at h1q
                      have h2q := h2; simp only [beq_iff_eq, beq_eq_false_iff_ne, ne_eq] at h2q
                      have h3q := h3; simp only [beq_iff_eq, beq_eq_false_iff_ne, ne_eq] at h3q
                      have h4q := h4; simp only [beq_iff_eq, beq_eq_false_iff_ne, ne_eq] at h4q
                      have h5q := h5; simp only [beq_iff_eq, beq_eq_false_iff_ne, ne_eq] at h5q
                      have h6q := h6; simp only [beq_iff_eq, beq_eq_false_iff_ne, ne_eq] at h6q
                      have h7q := h7; simp only [beq_iff_eq, beq_eq_false_iff_ne, ne_eq] at h7q
                      have h8q := h8; simp only [beq_iff_eq, beq_eq_false_iff_ne, ne_eq] at h8q
                      have h9q := h9; simp only [beq_iff_eq, beq_eq_false_iff_ne, ne_eq] at h9q
                      have h10q := h10; simp only [beq_iff_eq, beq_eq_false_iff_ne, ne_eq] at h10q
                      rw [nameF, if_neg (fun e => h1q e.symm)]
                      rw [nameF, if_neg (fun e => h2q e.symm)]
                      rw [nameF, if_neg (fun e => h3q e.symm)]
                      rw [nameF, if_neg (fun e => h4q e.symm)]
                      rw [nameF, if_neg (fun e => h5q e.symm)]
                      rw [nameF, if_neg (fun e => h6q e.symm)]
                      rw [nameF, if_neg (fun e => h7q e.symm)]
                      rw [nameF, if_neg (fun e => h8q e.symm)]
                      rw [nameF, if_neg (fun e => h9q e.symm)]
                      rw [nameF, if_pos h10q.symm]
                    · show AWl _ _ _ _ _
                      refine aN rfl rfl (by constructor) ?_
                      refine aN rfl rfl (by constructor) ?_
                      refine sE ?_
                      show AW _ (.cond _ _ _) _ _ _
                      refine cC' rfl (fun h11 => ?_) (fun h11 => ?_)
                      · show AWl _ _ _ _ _
                        refine aN rfl rfl (by constructor) ?_
                        refine sE ?_
                        refine ⟨_, out1 (r_tmp rfl (by constructor)), ?_⟩
                        refine ⟨congrArg Value.string ?_, st.drop⟩
                        unfold nameT
                        have h1q := h1; simp only [beq_iff_eq, beq_eq_false_iff_ne, ne_eq] at h1q
                        have h2q := h2; simp only [beq_iff_eq, beq_eq_false_iff_ne, ne_eq] at h2q
                        have h3q := h3; simp only [beq_iff_eq, beq_eq_false_iff_ne, ne_eq] at h3q
                        have h4q := h4; simp only [beq_iff_eq, beq_eq_false_iff_ne, ne_eq] at h4q
                        have h5q := h5; simp only [beq_iff_eq, beq_eq_false_iff_ne, ne_eq] at h5q
                        have h6q := h6; simp only [beq_iff_eq, beq_eq_false_iff_ne, ne_eq] at h6q
                        have h7q := h7; simp only [beq_iff_eq, beq_eq_false_iff_ne, ne_eq] at h7q
                        have h8q := h8; simp only [beq_iff_eq, beq_eq_false_iff_ne, ne_eq] at h8q
                        have h9q := h9; simp only [beq_iff_eq, beq_eq_false_iff_ne, ne_eq] at h9q
                        have h10q := h10; simp only [beq_iff_eq, beq_eq_false_iff_ne, ne_eq] at h10q
                        have h11q := h11; simp only [beq_iff_eq, beq_eq_false_iff_ne, ne_eq] at h11q
                        rw [nameF, if_neg (fun e => h1q e.symm)]
                        rw [nameF, if_neg (fun e => h2q e.symm)]
                        rw [nameF, if_neg (fun e => h3q e.symm)]
                        rw [nameF, if_neg (fun e => h4q e.symm)]
                        rw [nameF, if_neg (fun e => h5q e.symm)]
                        rw [nameF, if_neg (fun e => h6q e.symm)]
                        rw [nameF, if_neg (fun e => h7q e.symm)]
                        rw [nameF, if_neg (fun e => h8q e.symm)]
                        rw [nameF, if_neg (fun e => h9q e.symm)]
                        rw [nameF, if_neg (fun e => h10q e.symm)]
                        rw [nameF, if_pos h11q.symm]
                      · show AWl _ _ _ _ _
                        refine aN rfl rfl (by constructor) ?_
                        refine aN rfl rfl (by constructor) ?_
                        refine sE ?_
                        show AW _ (.cond _ _ _) _ _ _
                        refine cC' rfl (fun h12 => ?_) (fun h12 => ?_)
                        · show AWl _ _ _ _ _
                          refine aN rfl rfl (by constructor) ?_
                          refine sE ?_
                          refine ⟨_, out1 (r_tmp rfl (by constructor)), ?_⟩
                          refine ⟨congrArg Value.string ?_, st.drop⟩
                          unfold nameT
                          have h1q := h1; simp only [beq_iff_eq, beq_eq_false_iff_ne, ne_eq] at h1q
                          have h2q := h2; simp only [beq_iff_eq, beq_eq_false_iff_ne, ne_eq] at h2q
                          have h3q := h3; simp only [beq_iff_eq, beq_eq_false_iff_ne, ne_eq] at h3q
                          have h4q := h4; simp only [beq_iff_eq, beq_eq_false_iff_ne, ne_eq] at h4q
                          have h5q := h5; simp only [beq_iff_eq, beq_eq_false_iff_ne, ne_eq] at h5q
                          have h6q := h6; simp only [beq_iff_eq, beq_eq_false_iff_ne, ne_eq] at h6q
                          have h7q := h7; simp only [beq_iff_eq, beq_eq_false_iff_ne, ne_eq] at h7q
                          have h8q := h8; simp only [beq_iff_eq, beq_eq_false_iff_ne, ne_eq] at h8q
                          have h9q := h9; simp only [beq_iff_eq, beq_eq_false_iff_ne, ne_eq] at h9q
                          have h10q := h10; simp only [beq_iff_eq, beq_eq_false_iff_ne, ne_eq] at h10q
                          have h11q := h11; simp only [beq_iff_eq, beq_eq_false_iff_ne, ne_eq] at h11q
                          have h12q := h12; simp only [beq_iff_eq, beq_eq_false_iff_ne, ne_eq] at h12q
                          rw [nameF, if_neg (fun e => h1q e.symm)]
                          rw [nameF, if_neg (fun e => h2q e.symm)]
                          rw [nameF, if_neg (fun e => h3q e.symm)]
                          rw [nameF, if_neg (fun e => h4q e.symm)]
                          rw [nameF, if_neg (fun e => h5q e.symm)]
                          rw [nameF, if_neg (fun e => h6q e.symm)]
                          rw [nameF, if_neg (fun e => h7q e.symm)]
                          rw [nameF, if_neg (fun e => h8q e.symm)]
                          rw [nameF, if_neg (fun e => h9q e.symm)]
                          rw [nameF, if_neg (fun e => h10q e.symm)]
                          rw [nameF, if_neg (fun e => h11q e.symm)]
                          rw [nameF, if_pos h12q.symm]
                        · show AWl _ _ _ _ _
                          refine aN rfl rfl (by constructor) ?_
                          refine aN rfl rfl (by constructor) ?_
                          refine sE ?_
                          show AW _ (.cond _ _ _) _ _ _
                          refine cC' rfl (fun h13 => ?_) (fun h13 => ?_)
                          · show AWl _ _ _ _ _
                            refine aN rfl rfl (by constructor) ?_
                            refine sE ?_
                            refine ⟨_, out1 (r_tmp rfl (by constructor)), ?_⟩
                            refine ⟨congrArg Value.string ?_, st.drop⟩
                            unfold nameT
                            have h1q := h1; simp only [beq_iff_eq, beq_eq_false_iff_ne, ne_eq] at h1q
                            have h2q := h2; simp only [beq_iff_eq, beq_eq_false_iff_ne, ne_eq] at h2q
                            have h3q := h3; simp only [beq_iff_eq, beq_eq_false_iff_ne, ne_eq] at h3q
                            have h4q := h4; simp only [beq_iff_eq, beq_eq_false_iff_ne, ne_eq] at h4q
                            have h5q := h5; simp only [beq_iff_eq, beq_eq_false_iff_ne, ne_eq] at h5q
                            have h6q := h6; simp only [beq_iff_eq, beq_eq_false_iff_ne, ne_eq] at h6q
                            have h7q := h7; simp only [beq_iff_eq, beq_eq_false_iff_ne, ne_eq] at h7q
                            have h8q := h8; simp only [beq_iff_eq, beq_eq_false_iff_ne, ne_eq] at h8q
                            have h9q := h9; simp only [beq_iff_eq, beq_eq_false_iff_ne, ne_eq] at h9q
                            have h10q := h10; simp only [beq_iff_eq, beq_eq_false_iff_ne, ne_eq] at h10q
                            have h11q := h11; simp only [beq_iff_eq, beq_eq_false_iff_ne, ne_eq] at h11q
                            have h12q := h12; simp only [beq_iff_eq, beq_eq_false_iff_ne, ne_eq] at h12q
                            have h13q := h13; simp only [beq_iff_eq, beq_eq_false_iff_ne, ne_eq] at h13q
                            rw [nameF, if_neg (fun e => h1q e.symm)]
                            rw [nameF, if_neg (fun e => h2q e.symm)]
                            rw [nameF, if_neg (fun e => h3q e.symm)]
                            rw [nameF, if_neg (fun e => h4q e.symm)]
                            rw [nameF, if_neg (fun e => h5q e.symm)]
                            rw [nameF, if_neg (fun e => h6q e.symm)]
                            rw [nameF, if_neg (fun e => h7q e.symm)]
                            rw [nameF, if_neg (fun e => h8q e.symm)]
                            rw [nameF, if_neg (fun e => h9q e.symm)]
                            rw [nameF, if_neg (fun e => h10q e.symm)]
                            rw [nameF, if_neg (fun e => h11q e.symm)]
                            rw [nameF, if_neg (fun e => h12q e.symm)]
                            rw [nameF, if_pos h13q.symm]
                          · show AWl _ _ _ _ _
                            refine aN rfl rfl (by constructor) ?_
                            refine aN rfl rfl (by constructor) ?_
                            refine sE ?_
                            show AW _ (.cond _ _ _) _ _ _
                            refine cC' rfl (fun h14 => ?_) (fun h14 => ?_)
                            · show AWl _ _ _ _ _
                              refine aN rfl rfl (by constructor) ?_
                              refine sE ?_
                              refine ⟨_, out1 (r_tmp rfl (by constructor)), ?_⟩
                              refine ⟨congrArg Value.string ?_, st.drop⟩
                              unfold nameT
                              have h1q := h1; simp only [beq_iff_eq, beq_eq_false_iff_ne, ne_eq] at h1q
                              have h2q := h2; simp only [beq_iff_eq, beq_eq_false_iff_ne, ne_eq] at h2q
                              have h3q := h3; simp only [beq_iff_eq, beq_eq_false_iff_ne, ne_eq] at h3q
                              have h4q := h4; simp only [beq_iff_eq, beq_eq_false_iff_ne, ne_eq] at h4q
                              have h5q := h5; simp only [beq_iff_eq, beq_eq_false_iff_ne, ne_eq] at h5q
                              have h6q := h6; simp only [beq_iff_eq, beq_eq_false_iff_ne, ne_eq] at h6q
                              have h7q := h7; simp only [beq_iff_eq, beq_eq_false_iff_ne, ne_eq] at h7q
                              have h8q := h8; simp only [beq_iff_eq, beq_eq_false_iff_ne, ne_eq] at h8q
                              have h9q := h9; simp only [beq_iff_eq, beq_eq_false_iff_ne, ne_eq] at h9q
                              have h10q := h10; simp only [beq_iff_eq, beq_eq_false_iff_ne, ne_eq] at h10q
                              have h11q := h11; simp only [beq_iff_eq, beq_eq_false_iff_ne, ne_eq] at h11q
                              have h12q := h12; simp only [beq_iff_eq, beq_eq_false_iff_ne, ne_eq] at h12q
                              have h13q := h13; simp only [beq_iff_eq, beq_eq_false_iff_ne, ne_eq] at h13q
                              have h14q := h14; simp only [beq_iff_eq, beq_eq_false_iff_ne, ne_eq] at h14q
                              rw [nameF, if_neg (fun e => h1q e.symm)]
                              rw [nameF, if_neg (fun e => h2q e.symm)]
                              rw [nameF, if_neg (fun e => h3q e.symm)]
                              rw [nameF, if_neg (fun e => h4q e.symm)]
                              rw [nameF, if_neg (fun e => h5q e.symm)]
                              rw [nameF, if_neg (fun e => h6q e.symm)]
                              rw [nameF, if_neg (fun e => h7q e.symm)]
                              rw [nameF, if_neg (fun e => h8q e.symm)]
                              rw [nameF, if_neg (fun e => h9q e.symm)]
                              rw [nameF, if_neg (fun e => h10q e.symm)]
                              rw [nameF, if_neg (fun e => h11q e.symm)]
                              rw [nameF, if_neg (fun e => h12q e.symm)]
                              rw [nameF, if_neg (fun e => h13q e.symm)]
                              rw [nameF, if_pos h14q.symm]
                            · show AWl _ _ _ _ _
                              refine aN rfl rfl (by constructor) ?_
                              refine aN rfl rfl (by constructor) ?_
                              refine sE ?_
                              show AW _ (.cond _ _ _) _ _ _
                              refine cC' rfl (fun h15 => ?_) (fun h15 => ?_)
                              · show AWl _ _ _ _ _
                                refine aN rfl rfl (by constructor) ?_
                                refine sE ?_
                                refine ⟨_, out1 (r_tmp rfl (by constructor)), ?_⟩
                                refine ⟨congrArg Value.string ?_, st.drop⟩
                                unfold nameT
                                have h1q := h1; simp only [beq_iff_eq, beq_eq_false_iff_ne, ne_eq] at h1q
                                have h2q := h2; simp only [beq_iff_eq, beq_eq_false_iff_ne, ne_eq] at h2q
                                have h3q := h3; simp only [beq_iff_eq, beq_eq_false_iff_ne, ne_eq] at h3q
                                have h4q := h4; simp only [beq_iff_eq, beq_eq_false_iff_ne, ne_eq] at h4q
                                have h5q := h5; simp only [beq_iff_eq, beq_eq_false_iff_ne, ne_eq] at h5q
                                have h6q := h6; simp only [beq_iff_eq, beq_eq_false_iff_ne, ne_eq] at h6q
                                have h7q := h7; simp only [beq_iff_eq, beq_eq_false_iff_ne, ne_eq] at h7q
                                have h8q := h8; simp only [beq_iff_eq, beq_eq_false_iff_ne, ne_eq] at h8q
                                have h9q := h9; simp only [beq_iff_eq, beq_eq_false_iff_ne, ne_eq] at h9q
                                have h10q := h10; simp only [beq_iff_eq, beq_eq_false_iff_ne, ne_eq] at h10q
                                have h11q := h11; simp only [beq_iff_eq, beq_eq_false_iff_ne, ne_eq] at h11q
                                have h12q := h12; simp only [beq_iff_eq, beq_eq_false_iff_ne, ne_eq] at h12q
                                have h13q := h13; simp only [beq_iff_eq, beq_eq_false_iff_ne, ne_eq] at h13q
                                have h14q := h14; simp only [beq_iff_eq, beq_eq_false_iff_ne, ne_eq] at h14q
                                have h15q := h15; simp only [beq_iff_eq, beq_eq_false_iff_ne, ne_eq] at h15q
                                rw [nameF, if_neg (fun e => h1q e.symm)]
                                rw [nameF, if_neg (fun e => h2q e.symm)]
                                rw [nameF, if_neg (fun e => h3q e.symm)]
                                rw [nameF, if_neg (fun e => h4q e.symm)]
                                rw [nameF, if_neg (fun e => h5q e.symm)]
                                rw [nameF, if_neg (fun e => h6q e.symm)]
                                rw [nameF, if_neg (fun e => h7q e.symm)]
                                rw [nameF, if_neg (fun e => h8q e.symm)]
                                rw [nameF, if_neg (fun e => h9q e.symm)]
                                rw [nameF, if_neg (fun e => h10q e.symm)]
                                rw [nameF, if_neg (fun e => h11q e.symm)]
                                rw [nameF, if_neg (fun e => h12q e.symm)]
                                rw [nameF, if_neg (fun e => h13q e.symm)]
                                rw [nameF, if_neg (fun e => h14q e.symm)]
                                rw [nameF, if_pos h15q.symm]
                              · show AWl _ _ _ _ _
                                refine aN rfl rfl (by constructor) ?_
                                refine aN rfl rfl (by constructor) ?_
                                refine sE ?_
                                show AW _ (.cond _ _ _) _ _ _
                                refine cC' rfl (fun h16 => ?_) (fun h16 => ?_)
                                · show AWl _ _ _ _ _
                                  refine aN rfl rfl (by constructor) ?_
                                  refine sE ?_
                                  refine ⟨_, out1 (r_tmp rfl (by constructor)), ?_⟩
                                  refine ⟨congrArg Value.string ?_, st.drop⟩
                                  unfold nameT
                                  have h1q := h1; simp only [beq_iff_eq, beq_eq_false_iff_ne, ne_eq] at h1q
                                  have h2q := h2; simp only [beq_iff_eq, beq_eq_false_iff_ne, ne_eq] at h2q
                                  have h3q := h3; simp only [beq_iff_eq, beq_eq_false_iff_ne, ne_eq] at h3q
                                  have h4q := h4; simp only [beq_iff_eq, beq_eq_false_iff_ne, ne_eq] at h4q
                                  have h5q := h5; simp only [beq_iff_eq, beq_eq_false_iff_ne, ne_eq] at h5q
                                  have h6q := h6; simp only [beq_iff_eq, beq_eq_false_iff_ne, ne_eq] at h6q
                                  have h7q := h7; simp only [beq_iff_eq, beq_eq_false_iff_ne, ne_eq] at h7q
                                  have h8q := h8; simp only [beq_iff_eq, beq_eq_false_iff_ne, ne_eq] at h8q
                                  have h9q := h9; simp only [beq_iff_eq, beq_eq_false_iff_ne, ne_eq] at h9q
                                  have h10q := h10; simp only [beq_iff_eq, beq_eq_false_iff_ne, ne_eq] at h10q
                                  have h11q := h11; simp only [beq_iff_eq, beq_eq_false_iff_ne, ne_eq] at h11q
                                  have h12q := h12; simp only [beq_iff_eq, beq_eq_false_iff_ne, ne_eq] at h12q
                                  have h13q := h13; simp only [beq_iff_eq, beq_eq_false_iff_ne, ne_eq] at h13q
                                  have h14q := h14; simp only [beq_iff_eq, beq_eq_false_iff_ne, ne_eq] at h14q
                                  have h15q := h15; simp only [beq_iff_eq, beq_eq_false_iff_ne, ne_eq] at h15q
                                  have h16q := h16; simp only [beq_iff_eq, beq_eq_false_iff_ne, ne_eq] at h16q
                                  rw [nameF, if_neg (fun e => h1q e.symm)]
                                  rw [nameF, if_neg (fun e => h2q e.symm)]
                                  rw [nameF, if_neg (fun e => h3q e.symm)]
                                  rw [nameF, if_neg (fun e => h4q e.symm)]
                                  rw [nameF, if_neg (fun e => h5q e.symm)]
                                  rw [nameF, if_neg (fun e => h6q e.symm)]
                                  rw [nameF, if_neg (fun e => h7q e.symm)]
                                  rw [nameF, if_neg (fun e => h8q e.symm)]
                                  rw [nameF, if_neg (fun e => h9q e.symm)]
                                  rw [nameF, if_neg (fun e => h10q e.symm)]
                                  rw [nameF, if_neg (fun e => h11q e.symm)]
                                  rw [nameF, if_neg (fun e => h12q e.symm)]
                                  rw [nameF, if_neg (fun e => h13q e.symm)]
                                  rw [nameF, if_neg (fun e => h14q e.symm)]
                                  rw [nameF, if_neg (fun e => h15q e.symm)]
                                  rw [nameF, if_pos h16q.symm]
                                · show AWl _ _ _ _ _
                                  refine aN rfl rfl (by constructor) ?_
                                  refine aN rfl rfl (by constructor) ?_
                                  refine sE ?_
                                  show AW _ (.cond _ _ _) _ _ _
                                  refine cC' rfl (fun h17 => ?_) (fun h17 => ?_)
                                  · show AWl _ _ _ _ _
                                    refine aN rfl rfl (by constructor) ?_
                                    refine sE ?_
                                    refine ⟨_, out1 (r_tmp rfl (by constructor)), ?_⟩
                                    refine ⟨congrArg Value.string ?_, st.drop⟩
                                    unfold nameT
                                    have h1q := h1; simp only [beq_iff_eq, beq_eq_false_iff_ne, ne_eq] at h1q
                                    have h2q := h2; simp only [beq_iff_eq, beq_eq_false_iff_ne, ne_eq] at h2q
                                    have h3q := h3; simp only [beq_iff_eq, beq_eq_false_iff_ne, ne_eq] at h3q
                                    have h4q := h4; simp only [beq_iff_eq, beq_eq_false_iff_ne, ne_eq] at h4q
                                    have h5q := h5; simp only [beq_iff_eq, beq_eq_false_iff_ne, ne_eq] at h5q
                                    have h6q := h6; simp only [beq_iff_eq, beq_eq_false_iff_ne, ne_eq] at h6q
                                    have h7q := h7; simp only [beq_iff_eq, beq_eq_false_iff_ne, ne_eq] at h7q
                                    have h8q := h8; simp only [beq_iff_eq, beq_eq_false_iff_ne, ne_eq] at h8q
                                    have h9q := h9; simp only [beq_iff_eq, beq_eq_false_iff_ne, ne_eq] at h9q
                                    have h10q := h10; simp only [beq_iff_eq, beq_eq_false_iff_ne, ne_eq] at h10q
                                    have h11q := h11; simp only [beq_iff_eq, beq_eq_false_iff_ne, ne_eq] at h11q
                                    have h12q := h12; simp only [beq_iff_eq, beq_eq_false_iff_ne, ne_eq] at h12q
                                    have h13q := h13; simp only [beq_iff_eq, beq_eq_false_iff_ne, ne_eq] at h13q
                                    have h14q := h14; simp only [beq_iff_eq, beq_eq_false_iff_ne, ne_eq] at h14q
                                    have h15q := h15; simp only [beq_iff_eq, beq_eq_false_iff_ne, ne_eq] at h15q
                                    have h16q := h16; simp only [beq_iff_eq, beq_eq_false_iff_ne, ne_eq] at h16q
                                    have h17q := h17; simp only [beq_iff_eq, beq_eq_false_iff_ne, ne_eq] at h17q
                                    rw [nameF, if_neg (fun e => h1q e.symm)]
                                    rw [nameF, if_neg (fun e => h2q e.symm)]
                                    rw [nameF, if_neg (fun e => h3q e.symm)]
                                    rw [nameF, if_neg (fun e => h4q e.symm)]
                                    rw [nameF, if_neg (fun e => h5q e.symm)]
                                    rw [nameF, if_neg (fun e => h6q e.symm)]
                                    rw [nameF, if_neg (fun e => h7q e.symm)]
                                    rw [nameF, if_neg (fun e => h8q e.symm)]
                                    rw [nameF, if_neg (fun e => h9q e.symm)]
                                    rw [nameF, if_neg (fun e => h10q e.symm)]
                                    rw [nameF, if_neg (fun e => h11q e.symm)]
                                    rw [nameF, if_neg (fun e => h12q e.symm)]
                                    rw [nameF, if_neg (fun e => h13q e.symm)]
                                    rw [nameF, if_neg (fun e => h14q e.symm)]
                                    rw [nameF, if_neg (fun e => h15q e.symm)]
                                    rw [nameF, if_neg (fun e => h16q e.symm)]
                                    rw [nameF, if_pos h17q.symm]
                                  · show AWl _ _ _ _ _
                                    refine aN rfl rfl (by constructor) ?_
                                    refine aN rfl rfl (by constructor) ?_
                                    refine sE ?_
                                    show AW _ (.cond _ _ _) _ _ _
                                    refine cC' rfl (fun h18 => ?_) (fun h18 => ?_)
                                    · show AWl _ _ _ _ _
                                      refine aN rfl rfl (by constructor) ?_
                                      refine sE ?_
                                      refine ⟨_, out1 (r_tmp rfl (by constructor)), ?_⟩
                                      refine ⟨congrArg Value.string ?_, st.drop⟩
                                      unfold nameT
                                      have h1q := h1; simp only [beq_iff_eq, beq_eq_false_iff_ne, ne_eq] at h1q
                                      have h2q := h2; simp only [beq_iff_eq, beq_eq_false_iff_ne, ne_eq] at h2q
                                      have h3q := h3; simp only [beq_iff_eq, beq_eq_false_iff_ne, ne_eq] at h3q
                                      have h4q := h4; simp only [beq_iff_eq, beq_eq_false_iff_ne, ne_eq] at h4q
                                      have h5q := h5; simp only [beq_iff_eq, beq_eq_false_iff_ne, ne_eq] at h5q
                                      have h6q := h6; simp only [beq_iff_eq, beq_eq_false_iff_ne, ne_eq] at h6q
                                      have h7q := h7; simp only [beq_iff_eq, beq_eq_false_iff_ne, ne_eq] at h7q
                                      have h8q := h8; simp only [beq_iff_eq, beq_eq_false_iff_ne, ne_eq] at h8q
                                      have h9q := h9; simp only [beq_iff_eq, beq_eq_false_iff_ne, ne_eq] at h9q
                                      have h10q := h10; simp only [beq_iff_eq, beq_eq_false_iff_ne, ne_eq] at h10q
                                      have h11q := h11; simp only [beq_iff_eq, beq_eq_false_iff_ne, ne_eq] at h11q
                                      have h12q := h12; simp only [beq_iff_eq, beq_eq_false_iff_ne, ne_eq] at h12q
                                      have h13q := h13; simp only [beq_iff_eq, beq_eq_false_iff_ne, ne_eq] at h13q
                                      have h14q := h14; simp only [beq_iff_eq, beq_eq_false_iff_ne, ne_eq] at h14q
                                      have h15q := h15; simp only [beq_iff_eq, beq_eq_false_iff_ne, ne_eq] at h15q
                                      have h16q := h16; simp only [beq_iff_eq, beq_eq_false_iff_ne, ne_eq] at h16q
                                      have h17q := h17; simp only [beq_iff_eq, beq_eq_false_iff_ne, ne_eq] at h17q
                                      have h18q := h18; simp only [beq_iff_eq, beq_eq_false_iff_ne, ne_eq] at h18q
                                      rw [nameF, if_neg (fun e => h1q e.symm)]
                                      rw [nameF, if_neg (fun e => h2q e.symm)]
                                      rw [nameF, if_neg (fun e => h3q e.symm)]
                                      rw [nameF, if_neg (fun e => h4q e.symm)]
                                      rw [nameF, if_neg (fun e => h5q e.symm)]
                                      rw [nameF, if_neg (fun e => h6q e.symm)]
                                      rw [nameF, if_neg (fun e => h7q e.symm)]
                                      rw [nameF, if_neg (fun e => h8q e.symm)]
                                      rw [nameF, if_neg (fun e => h9q e.symm)]
                                      rw [nameF, if_neg (fun e => h10q e.symm)]
                                      rw [nameF, if_neg (fun e => h11q e.symm)]
                                      rw [nameF, if_neg (fun e => h12q e.symm)]
                                      rw [nameF, if_neg (fun e => h13q e.symm)]
                                      rw [nameF, if_neg (fun e => h14q e.symm)]
                                      rw [nameF, if_neg (fun e => h15q e.symm)]
                                      rw [nameF, if_neg (fun e => h16q e.symm)]
                                      rw [nameF, if_neg (fun e => h17q e.symm)]
                                      rw [nameF, if_pos h18q.symm]
                                    · show AWl _ _ _ _ _
                                      refine aN rfl rfl (by constructor) ?_
                                      refine aN rfl rfl (by constructor) ?_
                                      refine sE ?_
                                      show AW _ (.cond _ _ _) _ _ _
                                      refine cC' rfl (fun h19 => ?_) (fun h19 => ?_)
                                      · show AWl _ _ _ _ _
                                        refine aN rfl rfl (by constructor) ?_
                                        refine sE ?_
                                        refine ⟨_, out1 (r_tmp rfl (by constructor)), ?_⟩
                                        refine ⟨congrArg Value.string ?_, st.drop⟩
                                        unfold nameT
                                        have h1q := h1; simp only [beq_iff_eq, beq_eq_false_iff_ne, ne_eq] at h1q
                                        have h2q := h2; simp only [beq_iff_eq, beq_eq_false_iff_ne, ne_eq] at h2q
                                        have h3q := h3; simp only [beq_iff_eq, beq_eq_false_iff_ne, ne_eq] at h3q
                                        have h4q := h4; simp only [beq_iff_eq, beq_eq_false_iff_ne, ne_eq] at h4q
                                        have h5q := h5; simp only [beq_iff_eq, beq_eq_false_iff_ne, ne_eq] at h5q
                                        have h6q := h6; simp only [beq_iff_eq, beq_eq_false_iff_ne, ne_eq] at h6q
                                        have h7q := h7; simp only [beq_iff_eq, beq_eq_false_iff_ne, ne_eq] at h7q
                                        have h8q := h8; simp only [beq_iff_eq, beq_eq_false_iff_ne, ne_eq] at h8q
                                        have h9q := h9; simp only [beq_iff_eq, beq_eq_false_iff_ne, ne_eq] at h9q
                                        have h10q := h10; simp only [beq_iff_eq, beq_eq_false_iff_ne, ne_eq] at h10q
                                        have h11q := h11; simp only [beq_iff_eq, beq_eq_false_iff_ne, ne_eq] at h11q
                                        have h12q := h12; simp only [beq_iff_eq, beq_eq_false_iff_ne, ne_eq] at h12q
                                        have h13q := h13; simp only [beq_iff_eq, beq_eq_false_iff_ne, ne_eq] at h13q
                                        have h14q := h14; simp only [beq_iff_eq, beq_eq_false_iff_ne, ne_eq] at h14q
                                        have h15q := h15; simp only [beq_iff_eq, beq_eq_false_iff_ne, ne_eq] at h15q
                                        have h16q := h16; simp only [beq_iff_eq, beq_eq_false_iff_ne, ne_eq] at h16q
                                        have h17q := h17; simp only [beq_iff_eq, beq_eq_false_iff_ne, ne_eq] at h17q
                                        have h18q := h18; simp only [beq_iff_eq, beq_eq_false_iff_ne, ne_eq] at h18q
                                        have h19q := h19; simp only [beq_iff_eq, beq_eq_false_iff_ne, ne_eq] at h19q
                                        rw [nameF, if_neg (fun e => h1q e.symm)]
                                        rw [nameF, if_neg (fun e => h2q e.symm)]
                                        rw [nameF, if_neg (fun e => h3q e.symm)]
                                        rw [nameF, if_neg (fun e => h4q e.symm)]
                                        rw [nameF, if_neg (fun e => h5q e.symm)]
                                        rw [nameF, if_neg (fun e => h6q e.symm)]
                                        rw [nameF, if_neg (fun e => h7q e.symm)]
                                        rw [nameF, if_neg (fun e => h8q e.symm)]
                                        rw [nameF, if_neg (fun e => h9q e.symm)]
                                        rw [nameF, if_neg (fun e => h10q e.symm)]
                                        rw [nameF, if_neg (fun e => h11q e.symm)]
                                        rw [nameF, if_neg (fun e => h12q e.symm)]
                                        rw [nameF, if_neg (fun e => h13q e.symm)]
                                        rw [nameF, if_neg (fun e => h14q e.symm)]
                                        rw [nameF, if_neg (fun e => h15q e.symm)]
                                        rw [nameF, if_neg (fun e => h16q e.symm)]
                                        rw [nameF, if_neg (fun e => h17q e.symm)]
                                        rw [nameF, if_neg (fun e => h18q e.symm)]
                                        rw [nameF, if_pos h19q.symm]
                                      · show AWl _ _ _ _ _
                                        refine aN rfl rfl (by constructor) ?_
                                        refine aN rfl rfl (by constructor) ?_
                                        refine sE ?_
                                        show AW _ (.cond _ _ _) _ _ _
                                        refine cC' rfl (fun h20 => ?_) (fun h20 => ?_)
                                        · show AWl _ _ _ _ _
                                          refine aN rfl rfl (by constructor) ?_
                                          refine sE ?_
                                          refine ⟨_, out1 (r_tmp rfl (by constructor)), ?_⟩
                                          refine ⟨congrArg Value.string ?_, st.drop⟩
                                          unfold nameT
                                          have h1q := h1; simp only [beq_iff_eq, beq_eq_false_iff_ne, ne_eq] at h1q
                                          have h2q := h2; simp only [beq_iff_eq, beq_eq_false_iff_ne, ne_eq] at h2q
                                          have h3q := h3; simp only [beq_iff_eq, beq_eq_false_iff_ne, ne_eq] at h3q
                                          have h4q := h4; simp only [beq_iff_eq, beq_eq_false_iff_ne, ne_eq] at h4q
                                          have h5q := h5; simp only [beq_iff_eq, beq_eq_false_iff_ne, ne_eq] at h5q
                                          have h6q := h6; simp only [beq_iff_eq, beq_eq_false_iff_ne, ne_eq] at h6q
                                          have h7q := h7; simp only [beq_iff_eq, beq_eq_false_iff_ne, ne_eq] at h7q
                                          have h8q := h8; simp only [beq_iff_eq, beq_eq_false_iff_ne, ne_eq] at h8q
                                          have h9q := h9; simp only [beq_iff_eq, beq_eq_false_iff_ne, ne_eq] at h9q
                                          have h10q := h10; simp only [beq_iff_eq, beq_eq_false_iff_ne, ne_eq] at h10q
                                          have h11q := h11; simp only [beq_iff_eq, beq_eq_false_iff_ne, ne_eq] at h11q
                                          have h12q := h12; simp only [beq_iff_eq, beq_eq_false_iff_ne, ne_eq] at h12q
                                          have h13q := h13; simp only [beq_iff_eq, beq_eq_false_iff_ne, ne_eq] at h13q
                                          have h14q := h14; simp only [beq_iff_eq, beq_eq_false_iff_ne, ne_eq] at h14q
                                          have h15q := h15; simp only [beq_iff_eq, beq_eq_false_iff_ne, ne_eq] at h15q
                                          have h16q := h16; simp only [beq_iff_eq, beq_eq_false_iff_ne, ne_eq] at h16q
                                          have h17q := h17; simp only [beq_iff_eq, beq_eq_false_iff_ne, ne_eq] at h17q
                                          have h18q := h18; simp only [beq_iff_eq, beq_eq_false_iff_ne, ne_eq] at h18q
                                          have h19q := h19; simp only [beq_iff_eq, beq_eq_false_iff_ne, ne_eq] at h19q
                                          have h20q := h20; simp only [beq_iff_eq, beq_eq_false_iff_ne, ne_eq] at h20q
                                          rw [nameF, if_neg (fun e => h1q e.symm)]
                                          rw [nameF, if_neg (fun e => h2q e.symm)]
                                          rw [nameF, if_neg (fun e => h3q e.symm)]
                                          rw [nameF, if_neg (fun e => h4q e.symm)]
                                          rw [nameF, if_neg (fun e => h5q e.symm)]
                                          rw [nameF, if_neg (fun e => h6q e.symm)]
                                          rw [nameF, if_neg (fun e => h7q e.symm)]
                                          rw [nameF, if_neg (fun e => h8q e.symm)]
                                          rw [nameF, if_neg (fun e => h9q e.symm)]
                                          rw [nameF, if_neg (fun e => h10q e.symm)]
                                          rw [nameF, if_neg (fun e => h11q e.symm)]
                                          rw [nameF, if_neg (fun e => h12q e.symm)]
                                          rw [nameF, if_neg (fun e => h13q e.symm)]
                                          rw [nameF, if_neg (fun e => h14q e.symm)]
                                          rw [nameF, if_neg (fun e => h15q e.symm)]
                                          rw [nameF, if_neg (fun e => h16q e.symm)]
                                          rw [nameF, if_neg (fun e => h17q e.symm)]
                                          rw [nameF, if_neg (fun e => h18q e.symm)]
                                          rw [nameF, if_neg (fun e => h19q e.symm)]
                                          rw [nameF, if_pos h20q.symm]
                                        · show AWl _ _ _ _ _
                                          refine aN rfl rfl (by constructor) ?_
                                          refine aN rfl rfl (by constructor) ?_
                                          refine sE ?_
                                          show AW _ (.cond _ _ _) _ _ _
                                          refine cC' rfl (fun h21 => ?_) (fun h21 => ?_)
                                          · show AWl _ _ _ _ _
                                            refine aN rfl rfl (by constructor) ?_
                                            refine sE ?_
                                            refine ⟨_, out1 (r_tmp rfl (by constructor)), ?_⟩
                                            refine ⟨congrArg Value.string ?_, st.drop⟩
                                            unfold nameT
                                            have h1q := h1; simp only [beq_iff_eq, beq_eq_false_iff_ne, ne_eq] at h1q
                                            have h2q := h2; simp only [beq_iff_eq, beq_eq_false_iff_ne, ne_eq] at h2q
                                            have h3q := h3; simp only [beq_iff_eq, beq_eq_false_iff_ne, ne_eq] at h3q
                                            have h4q := h4; simp only [beq_iff_eq, beq_eq_false_iff_ne, ne_eq] at h4q
                                            have h5q := h5; simp only [beq_iff_eq, beq_eq_false_iff_ne, ne_eq] at h5q
                                            have h6q := h6; simp only [beq_iff_eq, beq_eq_false_iff_ne, ne_eq] at h6q
                                            have h7q := h7; simp only [beq_iff_eq, beq_eq_false_iff_ne, ne_eq] at h7q
                                            have h8q := h8; simp only [beq_iff_eq, beq_eq_false_iff_ne, ne_eq] at h8q
                                            have h9q := h9; simp only [beq_iff_eq, beq_eq_false_iff_ne, ne_eq] at h9q
                                            have h10q := h10; simp only [beq_iff_eq, beq_eq_false_iff_ne, ne_eq] at h10q
                                            have h11q := h11; simp only [beq_iff_eq, beq_eq_false_iff_ne, ne_eq] at h11q
                                            have h12q := h12; simp only [beq_iff_eq, beq_eq_false_iff_ne, ne_eq] at h12q
                                            have h13q := h13; simp only [beq_iff_eq, beq_eq_false_iff_ne, ne_eq] at h13q
                                            have h14q := h14; simp only [beq_iff_eq, beq_eq_false_iff_ne, ne_eq] at h14q
                                            have h15q := h15; simp only [beq_iff_eq, beq_eq_false_iff_ne, ne_eq] at h15q
                                            have h16q := h16; simp only [beq_iff_eq, beq_eq_false_iff_ne, ne_eq] at h16q
                                            have h17q := h17; simp only [beq_iff_eq, beq_eq_false_iff_ne, ne_eq] at h17q
                                            have h18q := h18; simp only [beq_iff_eq, beq_eq_false_iff_ne, ne_eq] at h18q
                                            have h19q := h19; simp only [beq_iff_eq, beq_eq_false_iff_ne, ne_eq] at h19q
                                            have h20q := h20; simp only [beq_iff_eq, beq_eq_false_iff_ne, ne_eq] at h20q
                                            have h21q := h21; simp only [beq_iff_eq, beq_eq_false_iff_ne, ne_eq] at h21q
                                            rw [nameF, if_neg (fun e => h1q e.symm)]
                                            rw [nameF, if_neg (fun e => h2q e.symm)]
                                            rw [nameF, if_neg (fun e => h3q e.symm)]
                                            rw [nameF, if_neg (fun e => h4q e.symm)]
                                            rw [nameF, if_neg (fun e => h5q e.symm)]
                                            rw [nameF, if_neg (fun e => h6q e.symm)]
                                            rw [nameF, if_neg (fun e => h7q e.symm)]
                                            rw [nameF, if_neg (fun e => h8q e.symm)]
                                            rw [nameF, if_neg (fun e => h9q e.symm)]
                                            rw [nameF, if_neg (fun e => h10q e.symm)]
                                            rw [nameF, if_neg (fun e => h11q e.symm)]
                                            rw [nameF, if_neg (fun e => h12q e.symm)]
                                            rw [nameF, if_neg (fun e => h13q e.symm)]
                                            rw [nameF, if_neg (fun e => h14q e.symm)]
                                            rw [nameF, if_neg (fun e => h15q e.symm)]
                                            rw [nameF, if_neg (fun e => h16q e.symm)]
                                            rw [nameF, if_neg (fun e => h17q e.symm)]
                                            rw [nameF, if_neg (fun e => h18q e.symm)]
                                            rw [nameF, if_neg (fun e => h19q e.symm)]
                                            rw [nameF, if_neg (fun e => h20q e.symm)]
                                            rw [nameF, if_pos h21q.symm]
                                          · show AWl _ _ _ _ _
                                            refine aN rfl rfl (by constructor) ?_
                                            refine aN rfl rfl (by constructor) ?_
                                            refine sE ?_
                                            show AW _ (.cond _ _ _) _ _ _
                                            refine cC' rfl (fun h22 => ?_) (fun h22 => ?_)
                                            · show AWl _ _ _ _ _
                                              refine aN rfl rfl (by constructor) ?_
                                              refine sE ?_
                                              refine ⟨_, out1 (r_tmp rfl (by constructor)), ?_⟩
                                              refine ⟨congrArg Value.string ?_, st.drop⟩
                                              unfold nameT
                                              have h1q := h1; simp only [beq_iff_eq, beq_eq_false_iff_ne, ne_eq] at h1q
                                              have h2q := h2; simp only [beq_iff_eq, beq_eq_false_iff_ne, ne_eq] at h2q
                                              have h3q := h3; simp only [beq_iff_eq, beq_eq_false_iff_ne, ne_eq] at h3q
                                              have h4q := h4; simp only [beq_iff_eq, beq_eq_false_iff_ne, ne_eq] at h4q
                                              have h5q := h5; simp only [beq_iff_eq, beq_eq_false_iff_ne, ne_eq] at h5q
                                              have h6q := h6; simp only [beq_iff_eq, beq_eq_false_iff_ne, ne_eq] at h6q
                                              have h7q := h7; simp only [beq_iff_eq, beq_eq_false_iff_ne, ne_eq] at h7q
                                              have h8q := h8; simp only [beq_iff_eq, beq_eq_false_iff_ne, ne_eq] at h8q
                                              have h9q := h9; simp only [beq_iff_eq, beq_eq_false_iff_ne, ne_eq] at h9q
                                              have h10q := h10; simp only [beq_iff_eq, beq_eq_false_iff_ne, ne_eq] at h10q
                                              have h11q := h11; simp only [beq_iff_eq, beq_eq_false_iff_ne, ne_eq] at h11q
                                              have h12q := h12; simp only [beq_iff_eq, beq_eq_false_iff_ne, ne_eq] at h12q
                                              have h13q := h13; simp only [beq_iff_eq, beq_eq_false_iff_ne, ne_eq] at h13q
                                              have h14q := h14; simp only [beq_iff_eq, beq_eq_false_iff_ne, ne_eq] at h14q
                                              have h15q := h15; simp only [beq_iff_eq, beq_eq_false_iff_ne, ne_eq] at h15q
                                              have h16q := h16; simp only [beq_iff_eq, beq_eq_false_iff_ne, ne_eq] at h16q
                                              have h17q := h17; simp only [beq_iff_eq, beq_eq_false_iff_ne, ne_eq] at h17q
                                              have h18q := h18; simp only [beq_iff_eq, beq_eq_false_iff_ne, ne_eq] at h18q
                                              have h19q := h19; simp only [beq_iff_eq, beq_eq_false_iff_ne, ne_eq] at h19q
                                              have h20q := h20; simp only [beq_iff_eq, beq_eq_false_iff_ne, ne_eq] at h20q
                                              have h21q := h21; simp only [beq_iff_eq, beq_eq_false_iff_ne, ne_eq] at h21q
                                              have h22q := h22; simp only [beq_iff_eq, beq_eq_false_iff_ne, ne_eq] at h22q
                                              rw [nameF, if_neg (fun e => h1q e.symm)]
                                              rw [nameF, if_neg (fun e => h2q e.symm)]
                                              rw [nameF, if_neg (fun e => h3q e.symm)]
                                              rw [nameF, if_neg (fun e => h4q e.symm)]
                                              rw [nameF, if_neg (fun e => h5q e.symm)]
                                              rw [nameF, if_neg (fun e => h6q e.symm)]
                                              rw [nameF, if_neg (fun e => h7q e.symm)]
                                              rw [nameF, if_neg (fun e => h8q e.symm)]
                                              rw [nameF, if_neg (fun e => h9q e.symm)]
                                              rw [nameF, if_neg (fun e => h10q e.symm)]
                                              rw [nameF, if_neg (fun e => h11q e.symm)]
                                              rw [nameF, if_neg (fun e => h12q e.symm)]
                                              rw [nameF, if_neg (fun e => h13q e.symm)]
                                              rw [nameF, if_neg (fun e => h14q e.symm)]
                                              rw [nameF, if_neg (fun e => h15q e.symm)]
                                              rw [nameF, if_neg (fun e => h16q e.symm)]
                                              rw [nameF, if_neg (fun e => h17q e.symm)]
                                              rw [nameF, if_neg (fun e => h18q e.symm)]
                                              rw [nameF, if_neg (fun e => h19q e.symm)]
                                              rw [nameF, if_neg (fun e => h20q e.symm)]
                                              rw [nameF, if_neg (fun e => h21q e.symm)]
                                              rw [nameF, if_pos h22q.symm]
                                            · show AWl _ _ _ _ _
                                              refine aN rfl rfl (by constructor) ?_
                                              refine sE ?_
                                              refine ⟨_, out1 (r_tmp rfl (by constructor)), ?_⟩
                                              refine ⟨congrArg Value.string ?_, st.drop⟩
                                              unfold nameT
                                              have h1q := h1; simp only [beq_iff_eq, beq_eq_false_iff_ne, ne_eq] at h1q
                                              have h2q := h2; simp only [beq_iff_eq, beq_eq_false_iff_ne, ne_eq] at h2q
                                              have h3q := h3; simp only [beq_iff_eq, beq_eq_false_iff_ne, ne_eq] at h3q
                                              have h4q := h4; simp only [beq_iff_eq, beq_eq_false_iff_ne, ne_eq] at h4q
                                              have h5q := h5; simp only [beq_iff_eq, beq_eq_false_iff_ne, ne_eq] at h5q
                                              have h6q := h6; simp only [beq_iff_eq, beq_eq_false_iff_ne, ne_eq] at h6q
                                              have h7q := h7; simp only [beq_iff_eq, beq_eq_false_iff_ne, ne_eq] at h7q
                                              have h8q := h8; simp only [beq_iff_eq, beq_eq_false_iff_ne, ne_eq] at h8q
                                              have h9q := h9; simp only [beq_iff_eq, beq_eq_false_iff_ne, ne_eq] at h9q
                                              have h10q := h10; simp only [beq_iff_eq, beq_eq_false_iff_ne, ne_eq] at h10q
                                              have h11q := h11; simp only [beq_iff_eq, beq_eq_false_iff_ne, ne_eq] at h11q
                                              have h12q := h12; simp only [beq_iff_eq, beq_eq_false_iff_ne, ne_eq] at h12q
                                              have h13q := h13; simp only [beq_iff_eq, beq_eq_false_iff_ne, ne_eq] at h13q
                                              have h14q := h14; simp only [beq_iff_eq, beq_eq_false_iff_ne, ne_eq] at h14q
                                              have h15q := h15; simp only [beq_iff_eq, beq_eq_false_iff_ne, ne_eq] at h15q
                                              have h16q := h16; simp only [beq_iff_eq, beq_eq_false_iff_ne, ne_eq] at h16q
                                              have h17q := h17; simp only [beq_iff_eq, beq_eq_false_iff_ne, ne_eq] at h17q
                                              have h18q := h18; simp only [beq_iff_eq, beq_eq_false_iff_ne, ne_eq] at h18q
                                              have h19q := h19; simp only [beq_iff_eq, beq_eq_false_iff_ne, ne_eq] at h19q
                                              have h20q := h20; simp only [beq_iff_eq, beq_eq_false_iff_ne, ne_eq] at h20q
                                              have h21q := h21; simp only [beq_iff_eq, beq_eq_false_iff_ne, ne_eq] at h21q
                                              have h22q := h22; simp only [beq_iff_eq, beq_eq_false_iff_ne, ne_eq] at h22q
                                              rw [nameF, if_neg (fun e => h1q e.symm)]
                                              rw [nameF, if_neg (fun e => h2q e.symm)]
                                              rw [nameF, if_neg (fun e => h3q e.symm)]
                                              rw [nameF, if_neg (fun e => h4q e.symm)]
                                              rw [nameF, if_neg (fun e => h5q e.symm)]
                                              rw [nameF, if_neg (fun e => h6q e.symm)]
                                              rw [nameF, if_neg (fun e => h7q e.symm)]
                                              rw [nameF, if_neg (fun e => h8q e.symm)]
                                              rw [nameF, if_neg (fun e => h9q e.symm)]
                                              rw [nameF, if_neg (fun e => h10q e.symm)]
                                              rw [nameF, if_neg (fun e => h11q e.symm)]
                                              rw [nameF, if_neg (fun e => h12q e.symm)]
                                              rw [nameF, if_neg (fun e => h13q e.symm)]
                                              rw [nameF, if_neg (fun e => h14q e.symm)]
                                              rw [nameF, if_neg (fun e => h15q e.symm)]
                                              rw [nameF, if_neg (fun e => h16q e.symm)]
                                              rw [nameF, if_neg (fun e => h17q e.symm)]
                                              rw [nameF, if_neg (fun e => h18q e.symm)]
                                              rw [nameF, if_neg (fun e => h19q e.symm)]
                                              rw [nameF, if_neg (fun e => h20q e.symm)]
                                              rw [nameF, if_neg (fun e => h21q e.symm)]
                                              rw [nameF, if_neg (fun e => h22q e.symm)]
                                              rfl
theorem names_call {H : Hp} {code : Int}  :
    ACalls Try.prog 4 [.int .u16 code] H (fun v _ => v = .bool true) := by
  refine acallsW Try.func4 f4_ok (Nat.le_of_ble_eq_true rfl) fun hw => ?_
  have st : Stt [] H H [] := Stt.start hw
  unfold f4c
  show AWl _ _ _ _ _
  refine aN rfl rfl (by constructor) ?_
  refine sE ?_
  show AWl _ _ _ _ _
  refine aC (awake_call) fun v3 H1 ⟨hv, st1⟩ => ?_
  subst hv
  replace st := st.call st1 rfl
  clear st1
  refine aN rfl rfl (by constructor) ?_
  refine gT rfl ?_
  refine aN rfl rfl (by constructor) ?_
  refine gT rfl ?_
  refine aC (name_call) fun v6 H2 ⟨hv, st1⟩ => ?_
  subst hv
  replace st := st.call st1 rfl
  clear st1
  refine gT rfl ?_
  refine aN rfl rfl (by constructor) ?_
  refine gT rfl ?_
  refine aC (rname_call) fun v8 H3 ⟨hv, st1⟩ => ?_
  subst hv
  replace st := st.call st1 rfl
  clear st1
  refine gT rfl ?_
  refine aEqSS rfl rfl ?_
  refine aN rfl rfl (by constructor) ?_
  refine aN rfl rfl (by constructor) ?_
  refine sE ?_
  refine ⟨_, out1 (r_tmp rfl (by constructor)), ?_⟩
  rfl
end Go.Proofs.Ytloigiieoehimaa.Abs
