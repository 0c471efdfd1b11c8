/- Reservations: what is saved is read again. -/
import Derived.Test.YtihkghfmihdicaaTL
import Derived.Test.YtihkghfmihdicaaR0
import Derived.Test.YtihkghfmihdicaaT8
set_option linter.unusedVariables false
set_option linter.unusedSimpArgs false
set_option maxRecDepth 100000
namespace Go.Proofs.Ytihkghfmihdicaa.Abs
open Go Go.RowKit

theorem any_key {l : List (Int × Int)} {n : Int} : (l.any fun r => r.1 == n) = (keyM l n).2 := by
  rw [Bool.eq_iff_iff, keyM_iff, List.any_eq_true]
  simp only [beq_iff_eq]
theorem res1 (P : PT) : (reservedM P).1 = P.kind := by
  unfold reservedM
  split
  · rename_i h; exact h.symm
  · split <;> rfl
theorem kind_cases {P : PT} (h : WFT P) : P.kind = 0 ∨ P.kind = 1 ∨ P.kind = 3 ∨ P.kind = 5 ∨ P.kind = 6 ∨ P.kind = 7 ∨ P.kind = 8 := by
  rcases h.kind with h | h
  · exact .inl h
  · unfold typeB at h
    simp only [Bool.or_eq_true, Bool.and_eq_true, beq_iff_eq, decide_eq_true_eq] at h
    omega
theorem hold_known {P : PT} (h : WFT P) {n : Int} (hh : holdsM P n = true) : (keyM P.regs n).2 = true ∧ P.kind ≠ 0 := by
  unfold holdsM at hh
  split at hh
  · cases hh
  · rename_i h0
    refine ⟨?_, h0⟩
    split at hh
    · exact hh
    · rename_i hA
      have : P.holder = n := by simpa using hh
      rw [← this]
      exact h.hold h0 (by simpa using hA)
theorem hold_free {P : PT} {n : Int} (hh : holdsM P n = true) (c : Int) : conflictM P n c = false := by
  unfold conflictM
  rw [if_pos (.inr (.inr hh))]
theorem conf0 (P : PT) (n : Int) : conflictM P n 0 = false := by
  unfold conflictM
  rw [if_pos (.inr (.inl rfl))]
theorem conf_k0 {P : PT} (h : P.kind = 0) (n c : Int) : conflictM P n c = false := by
  unfold conflictM
  rw [if_pos (.inl h)]
theorem conf_rw {P : PT} {n : Int} (h : conflictM P n 1 = true) : conflictM P n 2 = true := by
  unfold conflictM at h ⊢
  split at h
  · cases h
  · rename_i hc
    rw [if_neg (fun hd => hc (by rcases hd with h | h | h; exact .inl h; exact absurd h (by decide); exact .inr (.inr h)))]
    split at h
    · exact absurd h (by decide)
    · rename_i h1
      rw [if_neg h1]
      split at h
      · rename_i h3; rw [if_pos h3]
      · rename_i h3
        rw [if_neg h3]
        split at h
        · exact absurd h (by simp)
        · rename_i h5; rw [if_neg h5]; exact h
theorem conf_unk {P : PT} (hw : WFT P) {n : Int} (h0 : P.kind ≠ 0) (hk : (keyM P.regs n).2 = false) : conflictM P n 2 = true := by
  have hh : ¬ holdsM P n = true := fun h => by rw [(hold_known hw h).1] at hk; cases hk
  unfold conflictM
  rw [if_neg (fun hd => by rcases hd with h | h | h; exact h0 h; exact absurd h (by decide); exact hh h), hk]
  split
  · rfl
  · split
    · rfl
    · split <;> rfl
theorem hold_one {P : PT} {n : Int} (h0 : P.kind ≠ 0) (hA : allB P.kind = false) : holdsM P n = (n == (reservedM P).2) := by
  have e : (reservedM P).2 = P.holder := by
    unfold reservedM
    rw [if_neg h0, if_neg (by rw [hA]; decide)]
  unfold holdsM
  rw [if_neg h0, if_neg (by rw [hA]; decide), e, Bool.eq_iff_iff, beq_iff_eq, beq_iff_eq]
  exact eq_comm
theorem hold_all {P : PT} {n : Int} (hA : allB P.kind = true) : holdsM P n = (keyM P.regs n).2 := by
  have h0 : P.kind ≠ 0 := fun h => by rw [h] at hA; exact absurd hA (by decide)
  unfold holdsM
  rw [if_neg h0, if_pos hA]
theorem some_reg {P : PT} (h : WFT P) (h0 : P.kind ≠ 0) : typeB P.kind = true ∧ 0 < P.regs.length := by
  refine ⟨h.kind.resolve_left h0, ?_⟩
  rcases hA : allB P.kind with _ | _
  · obtain ⟨r, hr, _⟩ := keyM_iff.1 (h.hold h0 hA)
    exact List.length_pos_of_mem hr
  · exact List.length_pos_iff.2 (h.all h0 hA)

def normP (P : PT) : PT := ⟨P.regs, 0, P.kind, (reservedM P).2, true⟩
theorem flatI_at {α : Type} {enc : α → List Int} {c : Nat} (hc : ∀ a, (enc a).length = c) (d : α) : ∀ (l : List α) (j : Nat), j < l.length → ((l.flatMap enc).drop (j * c)).take c = enc (l.getD j d)
  | [], j, h => by cases h
  | a :: l, 0, _ => by rw [List.flatMap_cons, Nat.zero_mul, List.drop_zero, List.take_left' (hc a)]; rfl
  | a :: l, j + 1, h => by
    have ih := flatI_at hc d l j (by simpa using h)
    rw [List.flatMap_cons, show (j + 1) * c = c + j * c by rw [Nat.add_mul, Nat.one_mul, Nat.add_comm], ← List.drop_drop, List.drop_left' (hc a), ih]
    rfl
theorem res_bd {P : PT} (h : WFT P) : -1 ≤ (reservedM P).2 ∧ (reservedM P).2 < 8 := by
  unfold reservedM
  split
  · decide
  · rename_i h0
    split
    · exact ⟨by show (-1 : Int) ≤ -1; decide, by show (-1 : Int) < 8; decide⟩
    · rename_i hA
      have := h.key (h.hold h0 (by simpa using hA))
      exact ⟨by show -1 ≤ P.holder; omega, this.2.1⟩
theorem byte_back {x : Int} (h : -1 ≤ x ∧ x < 8) : IntKind.i64.wrap (IntKind.i8.wrap (IntKind.u8.wrap x)) = x := by
  have : x = -1 ∨ x = 0 ∨ x = 1 ∨ x = 2 ∨ x = 3 ∨ x = 4 ∨ x = 5 ∨ x = 6 ∨ x = 7 := by omega
  rcases this with h | h | h | h | h | h | h | h | h <;> subst h <;> decide
theorem kind_byte {P : PT} (h : WFT P) : 0 ≤ P.kind ∧ P.kind ≤ 255 := by
  rcases kind_cases h with h | h | h | h | h | h | h <;> rw [h] <;> decide
theorem save_eq {P : PT} (h : WFT P) (ha : P.aptpl = true) : saveM P = [80, 82, P.kind, IntKind.u8.wrap (reservedM P).2, (P.regs.length : Int)] ++ P.regs.flatMap regB := by
  have hl := h.len
  unfold saveM
  rw [if_neg (by rw [ha]; decide), res1, show IntKind.u8.wrap (P.regs.length : Int) = P.regs.length by rw [w8]; omega]
theorem save_length {P : PT} (h : WFT P) (ha : P.aptpl = true) : (saveM P).length = 5 + 9 * P.regs.length := by
  rw [save_eq h ha, List.length_append, flatB_len]
  simp only [List.length_cons, List.length_nil]
  omega
theorem save_bytes {P : PT} (h : WFT P) : ByteL (saveM P) := by
  rcases ha : P.aptpl with _ | _
  · unfold saveM; rw [if_pos ha]; exact ByteL.nil
  · rw [save_eq h ha]
    have hk := kind_byte h
    have hl := h.len
    refine ByteL.app ?_ ?_
    · simp only [byteL_cons, byteL_nil, and_true]
      refine ⟨by decide, by decide, hk, ?_, by omega⟩
      rw [w8]; omega
    · intro z hz
      obtain ⟨r, hr, hz⟩ := List.mem_flatMap.1 hz
      rcases List.mem_cons.1 hz with rfl | hz
      · rw [w8]; omega
      · exact beB_bytes _ _ z hz
theorem save_rec {P : PT} (h : WFT P) (ha : P.aptpl = true) {i : Nat} (hi : i < P.regs.length) : recN (saveM P) i = P.regs.getD i (0, 0) := by
  have hr := h.rng _ (getD_mem' (d := (0, 0)) hi)
  have e : ((saveM P).drop (5 + 9 * i)).take 9 = regB (P.regs.getD i (0, 0)) := by
    rw [save_eq h ha, ← List.drop_drop, List.drop_left' (by rfl), show 9 * i = i * 9 by omega]
    exact flatI_at regB_len (0, 0) P.regs i hi
  have hlen := save_length h ha
  have e1 : (saveM P).getD (5 + 9 * i) 0 = (P.regs.getD i (0, 0)).1 := by
    have h1 : (((saveM P).drop (5 + 9 * i)).take 9).getD 0 0 = (saveM P).getD (5 + 9 * i) 0 := by
      simp [List.getD, List.getElem?_take, List.getElem?_drop]
    rw [← h1, e]
    show IntKind.u8.wrap _ = _
    rw [w8]
    omega
  have e2 : rgetV (saveM P) ((5 + 9 * i + 1 : Nat) : Int) 8 = (P.regs.getD i (0, 0)).2 := by
    have hf : rfieldE (saveM P).length ((5 + 9 * i + 1 : Nat) : Int) 8 = 0 := by
      unfold rfieldE
      rw [if_neg (by decide), if_neg (by omega)]
    unfold rgetV
    rw [if_pos hf]
    have h1 : ((saveM P).drop (5 + 9 * i + 1)).take 8 = (((saveM P).drop (5 + 9 * i)).take 9).drop 1 := by
      rw [List.drop_take, List.drop_drop]
    rw [show (((5 + 9 * i + 1 : Nat) : Int)).toNat = 5 + 9 * i + 1 from rfl, show ((8 : Int)).toNat = 8 from rfl, h1, e]
    show beN (beB 8 _) = _
    rw [beN_beB]
    exact Int.emod_eq_of_lt (by omega) (by rw [show (256 : Int) ^ 8 = 18446744073709551616 by decide]; omega)
  unfold recN
  rw [e1, e2]
theorem save_cnt {P : PT} (h : WFT P) (ha : P.aptpl = true) : cntN (saveM P) = P.regs.length := by
  unfold cntN
  rw [save_eq h ha]
  rfl
theorem save_recs {P : PT} (h : WFT P) (ha : P.aptpl = true) : recs (saveM P) (cntN (saveM P)) = P.regs := by
  rw [save_cnt h ha]
  unfold recs
  apply List.ext_getElem
  · simp
  · intro i h1 h2
    rw [List.getElem_map, List.getElem_range, save_rec h ha h2]
    simp [List.getD, List.getElem?_eq_getElem h2]
theorem save_ok {P : PT} (h : WFT P) (ha : P.aptpl = true) : ∀ i, i < P.regs.length → okAt (saveM P) i = true := fun i hi => by
  have hr := h.rng _ (getD_mem' (d := (0, 0)) hi)
  have hp : prevN (saveM P) i < (P.regs.getD i (0, 0)).1 := by
    unfold prevN
    split
    · omega
    · rename_i h0
      rw [save_rec h ha (by omega)]
      have := List.pairwise_iff_getElem.1 h.sorted (i - 1) i (by omega) hi (by omega)
      simpa [List.getD, List.getElem?_eq_getElem hi, List.getElem?_eq_getElem (show i - 1 < P.regs.length by omega)] using this
  unfold okAt
  rw [save_rec h ha hi, decide_eq_true hp, decide_eq_true hr.2.1, show ((P.regs.getD i (0, 0)).2 != 0) = true by rw [bne_iff_ne]; omega]
  rfl
theorem load_save {P : PT} (h : WFT P) (ha : P.aptpl = true) : loadM (saveM P) = some (normP P) := by
  have hlen := save_length h ha
  have hcnt := save_cnt h ha
  have g0 : (saveM P).getD 0 0 = 80 := by rw [save_eq h ha]; rfl
  have g1 : (saveM P).getD 1 0 = 82 := by rw [save_eq h ha]; rfl
  have g2 : (saveM P).getD 2 0 = P.kind := by rw [save_eq h ha]; rfl
  have g4 : (saveM P).getD 4 0 = P.regs.length := by rw [save_eq h ha]; rfl
  have g3 : hold3 (saveM P) = (reservedM P).2 := by
    unfold hold3
    rw [show (saveM P).getD 3 0 = IntKind.u8.wrap (reservedM P).2 by rw [save_eq h ha]; rfl]
    exact byte_back (res_bd h)
  have hT : loadT (saveM P) = normP P := by
    unfold loadT normP
    rw [save_recs h ha, g2, g3]
  have q0 : (saveM P).length ≠ 0 := by omega
  have q1 : ¬ headB (saveM P) := by
    unfold headB
    rw [g0, g1, g4, hlen]
    omega
  have q2 : (List.range (cntN (saveM P))).all (okAt (saveM P)) = true := ok_all (by rw [hcnt]; exact save_ok h ha)
  rw [← hT]
  by_cases q3 : P.kind = 0 ∨ allB P.kind = true
  · refine lm4 q0 q1 q2 (by rw [g2]; exact q3) ?_
    rw [g2, g3, hcnt]
    have hr : (reservedM P).2 = -1 := by
      unfold reservedM
      rcases q3 with h0 | hA
      · rw [if_pos h0]
      · by_cases h0 : P.kind = 0
        · rw [if_pos h0]
        · rw [if_neg h0, if_pos hA]
    rintro (h1 | ⟨h1, h2⟩)
    · exact h1 hr
    · have h0 : P.kind ≠ 0 := fun h => by rw [h] at h1; exact absurd h1 (by decide)
      exact h.all h0 h1 (List.eq_nil_of_length_eq_zero h2)
  · have h0 : P.kind ≠ 0 := fun h => q3 (.inl h)
    have hA : allB P.kind = false := by
      rcases hb : allB P.kind with _ | _
      · rfl
      · exact absurd (.inr hb) q3
    refine lm6 q0 q1 q2 (by rw [g2]; exact q3) ?_
    rw [g2, g3, save_recs h ha]
    have hr : (reservedM P).2 = P.holder := by
      unfold reservedM
      rw [if_neg h0, if_neg (by rw [hA]; decide)]
    rw [hr]
    exact ⟨h.hold h0 hA, h.kind.resolve_left h0⟩
theorem norm_res (P : PT) : reservedM (normP P) = reservedM P := by
  unfold normP reservedM
  by_cases h0 : P.kind = 0
  · simp only [if_pos h0]
  · by_cases hA : allB P.kind = true
    · simp only [if_neg h0, if_pos hA]
    · simp only [if_neg h0, if_neg hA]
theorem norm_save {P : PT} (ha : P.aptpl = true) : saveM (normP P) = saveM P := by
  have e1 : saveM (normP P) = [80, 82, (reservedM (normP P)).1, IntKind.u8.wrap (reservedM (normP P)).2, IntKind.u8.wrap (normP P).regs.length] ++ (normP P).regs.flatMap regB := if_neg (show ¬ true = false by decide)
  have e2 : saveM P = [80, 82, (reservedM P).1, IntKind.u8.wrap (reservedM P).2, IntKind.u8.wrap P.regs.length] ++ P.regs.flatMap regB := if_neg (by rw [ha]; decide)
  rw [e1, e2, norm_res]
  rfl
theorem norm_holds (P : PT) (n : Int) : holdsM (normP P) n = holdsM P n := by
  show (if P.kind = 0 then false else if allB P.kind = true then (keyM P.regs n).2 else (reservedM P).2 == n) = _
  unfold holdsM
  by_cases h0 : P.kind = 0
  · rw [if_pos h0, if_pos h0]
  · rw [if_neg h0, if_neg h0]
    by_cases hA : allB P.kind = true
    · rw [if_pos hA, if_pos hA]
    · rw [if_neg hA, if_neg hA]
      congr 1
      unfold reservedM
      rw [if_neg h0, if_neg hA]
theorem norm_confl (P : PT) (n c : Int) : conflictM (normP P) n c = conflictM P n c := by
  unfold conflictM
  rw [norm_holds]
  rfl
theorem norm_wf {P : PT} (h : WFT P) : WFT (normP P) := by
  refine ⟨h.sorted, h.rng, by show (0 : Int) ≤ 0 ∧ (0 : Int) < 4294967296; decide, h.kind, fun h0 => ?_, fun h0 hA => ?_, h.all⟩
  · show (reservedM P).2 = -1
    unfold reservedM
    rw [if_pos (show P.kind = 0 from h0)]
  · show (keyM P.regs (reservedM P).2).2 = true
    have hr : (reservedM P).2 = P.holder := by
      unfold reservedM
      rw [if_neg (show ¬ P.kind = 0 from h0), if_neg (by rw [show allB P.kind = false from hA]; decide)]
    rw [hr]
    exact h.hold h0 hA
theorem do5 (P : PT) (l : Bool) : (doM P 5 ⟨6, 0, 0, 77, l⟩).tab.aptpl = l := by
  unfold doM
  rw [if_neg (fun hc => by rcases hc with h | h | h; exact absurd h (by decide); exact absurd h (by decide); exact absurd h (show ¬ (6 : Int) > 6 by decide)), if_pos rfl]
  show (registerP P 5 _ _).aptpl = l
  rw [(reg1 (show (77 : Int) ≠ 0 by decide)).1]

end Go.Proofs.Ytihkghfmihdicaa.Abs
