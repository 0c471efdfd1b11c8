/- PrHolders. -/
import Derived.Test.YtihkghfmihdicaaR0
set_option linter.unusedVariables false
set_option linter.unusedSimpArgs false
set_option maxRecDepth 100000
namespace Go.Proofs.Ytihkghfmihdicaa.Abs
open Go Go.RowKit

theorem any_key {l : List (Int × Int)} {n : Int} : (l.any fun r => r.1 == n) = (keyM l n).2 := by
  rw [Bool.eq_iff_iff, keyM_iff, List.any_eq_true]
  simp only [beq_iff_eq]
theorem res1 (P : PT) : (reservedM P).1 = P.kind := by
  unfold reservedM
  split
  · rename_i h; exact h.symm
  · split <;> rfl
theorem kind_cases {P : PT} (h : WFT P) : P.kind = 0 ∨ P.kind = 1 ∨ P.kind = 3 ∨ P.kind = 5 ∨ P.kind = 6 ∨ P.kind = 7 ∨ P.kind = 8 := by
  rcases h.kind with h | h
  · exact .inl h
  · unfold typeB at h
    simp only [Bool.or_eq_true, Bool.and_eq_true, beq_iff_eq, decide_eq_true_eq] at h
    omega
theorem hold_known {P : PT} (h : WFT P) {n : Int} (hh : holdsM P n = true) : (keyM P.regs n).2 = true ∧ P.kind ≠ 0 := by
  unfold holdsM at hh
  split at hh
  · cases hh
  · rename_i h0
    refine ⟨?_, h0⟩
    split at hh
    · exact hh
    · rename_i hA
      have : P.holder = n := by simpa using hh
      rw [← this]
      exact h.hold h0 (by simpa using hA)
theorem hold_free {P : PT} {n : Int} (hh : holdsM P n = true) (c : Int) : conflictM P n c = false := by
  unfold conflictM
  rw [if_pos (.inr (.inr hh))]
theorem conf0 (P : PT) (n : Int) : conflictM P n 0 = false := by
  unfold conflictM
  rw [if_pos (.inr (.inl rfl))]
theorem conf_k0 {P : PT} (h : P.kind = 0) (n c : Int) : conflictM P n c = false := by
  unfold conflictM
  rw [if_pos (.inl h)]
theorem conf_rw {P : PT} {n : Int} (h : conflictM P n 1 = true) : conflictM P n 2 = true := by
  unfold conflictM at h ⊢
  split at h
  · cases h
  · rename_i hc
    rw [if_neg (fun hd => hc (by rcases hd with h | h | h; exact .inl h; exact absurd h (by decide); exact .inr (.inr h)))]
    split at h
    · exact absurd h (by decide)
    · rename_i h1
      rw [if_neg h1]
      split at h
      · rename_i h3; rw [if_pos h3]
      · rename_i h3
        rw [if_neg h3]
        split at h
        · exact absurd h (by simp)
        · rename_i h5; rw [if_neg h5]; exact h
theorem conf_unk {P : PT} (hw : WFT P) {n : Int} (h0 : P.kind ≠ 0) (hk : (keyM P.regs n).2 = false) : conflictM P n 2 = true := by
  have hh : ¬ holdsM P n = true := fun h => by rw [(hold_known hw h).1] at hk; cases hk
  unfold conflictM
  rw [if_neg (fun hd => by rcases hd with h | h | h; exact h0 h; exact absurd h (by decide); exact hh h), hk]
  split
  · rfl
  · split
    · rfl
    · split <;> rfl
theorem hold_one {P : PT} {n : Int} (h0 : P.kind ≠ 0) (hA : allB P.kind = false) : holdsM P n = (n == (reservedM P).2) := by
  have e : (reservedM P).2 = P.holder := by
    unfold reservedM
    rw [if_neg h0, if_neg (by rw [hA]; decide)]
  unfold holdsM
  rw [if_neg h0, if_neg (by rw [hA]; decide), e, Bool.eq_iff_iff, beq_iff_eq, beq_iff_eq]
  exact eq_comm
theorem hold_all {P : PT} {n : Int} (hA : allB P.kind = true) : holdsM P n = (keyM P.regs n).2 := by
  have h0 : P.kind ≠ 0 := fun h => by rw [h] at hA; exact absurd hA (by decide)
  unfold holdsM
  rw [if_neg h0, if_pos hA]
theorem some_reg {P : PT} (h : WFT P) (h0 : P.kind ≠ 0) : typeB P.kind = true ∧ 0 < P.regs.length := by
  refine ⟨h.kind.resolve_left h0, ?_⟩
  rcases hA : allB P.kind with _ | _
  · obtain ⟨r, hr, _⟩ := keyM_iff.1 (h.hold h0 hA)
    exact List.length_pos_of_mem hr
  · exact List.length_pos_iff.2 (h.all h0 hA)
theorem holders_call {H : Hp} {xs : List PAct} {x : Value} (hs : Sl H 7 xs.length (xs.flatMap actE) x) (hsw : ∀ a ∈ xs, 0 ≤ a.o.act ∧ a.o.act < 18446744073709551616) (hl : xs.length ≤ 140737488351232) :
    ACalls Try.prog 4 [x] H (fun v _ => v = .bool true) := by
  refine acallsW Try.func4 f4_ok (Nat.le_of_ble_eq_true rfl) fun hw => ?_
  have st : Stt [] H H [] := Stt.start hw
  unfold f4c
  show AWl _ _ _ _ _
  refine aN rfl rfl (by constructor) ?_
  refine sE ?_
  show AWl _ _ _ _ _
  refine aC (awake_call) fun v11 H1 ⟨hv, st1⟩ => ?_
  subst hv
  replace st := st.call st1 rfl
  clear st1
  refine aN rfl rfl (by constructor) ?_
  refine sE ?_
  show AW _ (.cond _ _ _) _ _ _
  refine cF' rfl ?_
  show AWl _ _ _ _ _
  refine aMovV x rfl ?_
  refine aC (play_call (st.slc hs) hsw hl) fun v14 H2 ⟨b14, ob14, P14, hv, st1, hP14⟩ => ?_
  subst hv
  replace st := st.call st1 rfl
  clear st1
  have hP8 := hP14.len
  refine aN rfl rfl (by constructor) ?_
  refine sE ?_
  show AWl _ _ _ _ _
  refine aN rfl rfl (by constructor) ?_
  refine aC (regs_call (P := P14) (st.get (j := 0) rfl) (st.rowAcc 1 rfl (by decide) (flat_len' regE_len _)) (by omega)) fun v16 H3 ⟨oc16, hv, st1⟩ => ?_
  subst hv
  replace st := st.call st1 rfl
  clear st1
  refine aMovA rfl ?_
  refine sE ?_
  show AWl _ _ _ _ _
  refine aN rfl rfl (by constructor) ?_
  refine aC (reserved_call (P := P14) (st.get (j := 1) rfl) (st.rowAcc 2 rfl (by decide) (flat_len' regE_len _)) (by omega)) fun v19 H4 ⟨hv, st1⟩ => ?_
  subst hv
  replace st := st.call st1 rfl
  clear st1
  rw [res1 P14]
  refine aN rfl rfl (by constructor) ?_
  refine aN rfl rfl (by constructor) ?_
  refine aN rfl rfl (by constructor) ?_
  refine aN rfl rfl (by constructor) ?_
  refine aN rfl rfl (by constructor) ?_
  refine sE ?_
  show AWl _ _ _ _ _
  refine aN rfl rfl (by constructor) ?_
  refine sE ?_
  show AW _ (.loop _) _ _ _
  refine AW_loopN (fun m t1 H1 => ∃ (n : Nat), m = 8 - n ∧ (n ≤ 8) ∧ t1 7 = .int .i64 (n : Int) ∧ Stt [] H H1 [⟨some b14, true, ⟨true, 79, [accV ob14 P14.regs.length 2, .int .u32 P14.gen, .int .u8 P14.kind, .int .i64 P14.holder, .bool P14.aptpl]⟩⟩, ⟨ob14, true, ⟨true, 30, (P14.regs).flatMap regE⟩⟩, ⟨oc16, true, ⟨true, 30, (P14.regs).flatMap regE⟩⟩]) (8 - 0) ⟨0, rfl, by omega, rfl, (st.sel [1, 2, 0] (by decide))⟩ [2, 7, 8, 9, 10, 22, 23, 24, 25, 26, 27, 28, 29, 30, 31, 32, 33, 34, 35, 36, 37, 38, 39, 40, 41, 42, 43, 44, 45, 46, 47, 48, 49, 50, 51, 52, 53, 54, 55, 56, 57, 58, 59, 60, 61, 62, 63, 64, 65, 66, 67, 68, 69, 70, 71, 72, 73, 74, 75, 76, 77, 78, 79, 80, 81, 82, 83, 84, 85, 86, 87, 88, 89, 90, 91, 92, 93, 94, 95, 96, 97, 98, 99, 100, 101, 102, 103, 104, 105, 106, 107, 108, 109, 110, 111, 112, 113, 114, 115, 116, 117, 118, 119, 120] (by decide) ?_
  rintro m t1 H1 hk hI
  obtain ⟨n, rfl, hn8, ht7, st⟩ := hI
  obtain ⟨u, rfl⟩ : ∃ u, t1 = (upd (mix [2, 7, 8, 9, 10, 22, 23, 24, 25, 26, 27, 28, 29, 30, 31, 32, 33, 34, 35, 36, 37, 38, 39, 40, 41, 42, 43, 44, 45, 46, 47, 48, 49, 50, 51, 52, 53, 54, 55, 56, 57, 58, 59, 60, 61, 62, 63, 64, 65, 66, 67, 68, 69, 70, 71, 72, 73, 74, 75, 76, 77, 78, 79, 80, 81, 82, 83, 84, 85, 86, 87, 88, 89, 90, 91, 92, 93, 94, 95, 96, 97, 98, 99, 100, 101, 102, 103, 104, 105, 106, 107, 108, 109, 110, 111, 112, 113, 114, 115, 116, 117, 118, 119, 120] _ u) (some 7) _) := ⟨t1, by rw [← hk, upd_self ht7]⟩
  clear hk ht7
  show AWl _ _ _ _ _
  refine aN rfl rfl (by constructor) ?_
  refine aN rfl rfl (by constructor) ?_
  refine sE ?_
  show AW _ (.cond _ _ _) _ _ _
  refine cC' rfl (fun h5 => ?_) (fun h5 => ?_)
  · have hlt8 : n < 8 := by have := of_decide_eq_true h5; omega
    show AWl _ _ _ _ _
    refine aN rfl rfl (by constructor) ?_
    refine sE ?_
    refine AW_cutK (b := .seq (.list (⟨some 39, _, _⟩ :: _)) _) (fun t1 H1 => t1 8 = .bool (keyM P14.regs (n : Int)).2 ∧ Stt [] H H1 [⟨some b14, true, ⟨true, 79, [accV ob14 P14.regs.length 2, .int .u32 P14.gen, .int .u8 P14.kind, .int .i64 P14.holder, .bool P14.aptpl]⟩⟩, ⟨ob14, true, ⟨true, 30, (P14.regs).flatMap regE⟩⟩, ⟨oc16, true, ⟨true, 30, (P14.regs).flatMap regE⟩⟩]) [8, 9, 26, 27, 28, 29, 30, 31, 32, 33, 34, 35, 36, 37, 38] (by decide) ?_ fun t1 H1 hk hI => ?_
    · show AWl _ _ _ _ _
      refine aN rfl rfl (by constructor) ?_
      refine sE ?_
      show AW _ (.loop _) _ _ _
      refine AW_loopN (fun m t1 H1 => ∃ (j : Nat), m = P14.regs.length - j ∧ (j ≤ P14.regs.length) ∧ t1 9 = .int .i64 (j : Int) ∧ t1 8 = .bool ((P14.regs.take j).any fun r => r.1 == (n : Int)) ∧ Stt [] H H1 [⟨some b14, true, ⟨true, 79, [accV ob14 P14.regs.length 2, .int .u32 P14.gen, .int .u8 P14.kind, .int .i64 P14.holder, .bool P14.aptpl]⟩⟩, ⟨ob14, true, ⟨true, 30, (P14.regs).flatMap regE⟩⟩, ⟨oc16, true, ⟨true, 30, (P14.regs).flatMap regE⟩⟩]) (P14.regs.length - 0) ⟨0, rfl, by omega, rfl, rfl, (st.sel [0, 1, 2] (by decide))⟩ [8, 9, 26, 27, 28, 29, 30, 31, 32, 33, 34, 35, 36, 37, 38] (by decide) ?_
      rintro m t1 H1 hk hI
      obtain ⟨j, rfl, hj, ht9, ht8, st⟩ := hI
      obtain ⟨u, rfl⟩ : ∃ u, t1 = (upd (upd (mix [8, 9, 26, 27, 28, 29, 30, 31, 32, 33, 34, 35, 36, 37, 38] _ u) (some 9) _) (some 8) _) := ⟨t1, by rw [← hk, upd_self ht9, upd_self ht8]⟩
      clear hk ht9 ht8
      show AWl _ _ _ _ _
      refine aN rfl rfl (by constructor) ?_
      refine aMovA rfl ?_
      refine aLen (st.rowAcc 2 rfl (by decide) (by exact flat_len' regE_len _)) rfl ?_
      refine aN rfl rfl (by constructor) ?_
      refine sE ?_
      show AW _ (.cond _ _ _) _ _ _
      refine cC' rfl (fun h6 => ?_) (fun h6 => ?_)
      · have hlt : j < P14.regs.length := by have := of_decide_eq_true h6; omega
        show AWl _ _ _ _ _
        refine aMovA rfl ?_
        refine aN rfl rfl (by constructor) ?_
        refine aIxE regE_len (0, 0) (l := P14.regs) (st.rowAcc 2 rfl (by decide) (by exact flat_len' regE_len _)) rfl rfl (by omega) fun b34 o34 g34 => ?_
        refine aN rfl rfl (by constructor) ?_
        refine aLdP g34 0 rfl (rfl) (by constructor) (by decide) ?_
        refine aN rfl rfl (by constructor) ?_
        refine aN rfl rfl (by constructor) ?_
        refine sE ?_
        show AW _ (.cond _ _ _) _ _ _
        refine cC' rfl (fun h7 => ?_) (fun h7 => ?_)
        · show AWl _ _ _ _ _
          refine aN rfl rfl (by constructor) ?_
          refine sE ?_
          show AWl _ _ _ _ _
          refine aN rfl rfl (by constructor) ?_
          refine aN rfl rfl (by constructor) ?_
          refine aN rfl rfl (by constructor) ?_
          refine sE ?_
          exact ⟨_, by omega, j + 1, rfl, by omega, congrArg (Value.int .i64) (wi _ (by omega)), congrArg Value.bool (by rw [any_step (d := (0, 0)) hlt]; show _ = (_ || ((P14.regs.getD j (0, 0)).1 == (n : Int))); rw [show ((P14.regs.getD j (0, 0)).1 == (n : Int)) = true from h7]; simp), (st.sel [0, 1, 2] (by decide))⟩
        · show AWl _ _ _ _ _
          refine aN rfl rfl (by constructor) ?_
          refine aN rfl rfl (by constructor) ?_
          refine aN rfl rfl (by constructor) ?_
          refine sE ?_
          exact ⟨_, by omega, j + 1, rfl, by omega, congrArg (Value.int .i64) (wi _ (by omega)), congrArg Value.bool (by rw [any_step (d := (0, 0)) hlt]; show _ = (_ || ((P14.regs.getD j (0, 0)).1 == (n : Int))); rw [show ((P14.regs.getD j (0, 0)).1 == (n : Int)) = false from h7]; simp), (st.sel [0, 1, 2] (by decide))⟩
      · have hge : j = P14.regs.length := by have := of_decide_eq_false h6; omega
        subst hge
        rw [List.take_length, any_key]
        exact ⟨rfl, (st.sel [0, 1, 2] (by decide))⟩
    · obtain ⟨ht8, st⟩ := hI
      obtain ⟨u, rfl⟩ : ∃ u, t1 = (upd (mix [8, 9, 26, 27, 28, 29, 30, 31, 32, 33, 34, 35, 36, 37, 38] _ u) (some 8) _) := ⟨t1, by rw [← hk, upd_self ht8]⟩
      clear hk ht8
      show AWl _ _ _ _ _
      have F1 : holdsM P14 (n : Int) = true → (keyM P14.regs (n : Int)).2 = true ∧ P14.kind ≠ 0 ∧ conflictM P14 (n : Int) 1 = false ∧ conflictM P14 (n : Int) 2 = false := fun h => ⟨(hold_known hP14 h).1, (hold_known hP14 h).2, hold_free h 1, hold_free h 2⟩
      have F2 := conf0 P14 (n : Int)
      have F3 : conflictM P14 (n : Int) 1 = true → conflictM P14 (n : Int) 2 = true := conf_rw
      have F4 : P14.kind = 0 → conflictM P14 (n : Int) 2 = false := fun h => conf_k0 h _ _
      have F5 : P14.kind ≠ 0 → (keyM P14.regs (n : Int)).2 = false → conflictM P14 (n : Int) 2 = true := fun h k => conf_unk hP14 h k
      have F6 : P14.kind ≠ 0 → allB P14.kind = false → holdsM P14 (n : Int) = ((n : Int) == (reservedM P14).2) := hold_one
      have F7 : allB P14.kind = true → holdsM P14 (n : Int) = (keyM P14.regs (n : Int)).2 := hold_all
      refine aN rfl rfl (by constructor) ?_
      refine aN rfl rfl (by constructor) ?_
      refine aC (holds_call (P := P14) (n := (n : Int)) (st.get (j := 0) rfl) (st.rowAcc 1 rfl (by decide) (flat_len' regE_len _)) (by omega)) fun v41 H8 ⟨hv, st1⟩ => ?_
      subst hv
      replace st := st.call st1 rfl
      clear st1
      refine aN rfl rfl (by constructor) ?_
      refine sE ?_
      refine AW_cutK (b := .seq (.seq (.list (⟨some 66, _, _⟩ :: _)) _) _) (fun t1 H1 => t1 10 = .bool (holdsM P14 (n : Int)) ∧ Stt [] H H1 [⟨some b14, true, ⟨true, 79, [accV ob14 P14.regs.length 2, .int .u32 P14.gen, .int .u8 P14.kind, .int .i64 P14.holder, .bool P14.aptpl]⟩⟩, ⟨ob14, true, ⟨true, 30, (P14.regs).flatMap regE⟩⟩, ⟨oc16, true, ⟨true, 30, (P14.regs).flatMap regE⟩⟩]) [2, 42, 43, 44, 45, 46, 47, 48, 49, 50, 51, 52, 53, 54, 55, 56, 57, 58, 59, 60, 61, 62, 63, 64, 65] (by decide) ?_ fun t1 H1 hk hI => ?_
      · show AWl _ _ _ _ _
        refine aN rfl rfl (by constructor) ?_
        refine aN rfl rfl (by constructor) ?_
        refine gCase 43 rfl (fun h9 => ?_) (fun h9 => ?_)
        · refine gT rfl ?_
          refine aN rfl rfl (by constructor) ?_
          refine gT rfl ?_
          refine aN rfl rfl (by constructor) ?_
          refine gT rfl ?_
          refine aN rfl rfl (by constructor) ?_
          refine gCase 46 rfl (fun h10 => ?_) (fun h10 => ?_)
          · have h10n : (keyM P14.regs (n : Int)).2 = false := by simpa using h10
            refine gF rfl (by decide) ?_
            refine gF rfl (by decide) ?_
            refine gT rfl ?_
            refine aN rfl rfl (by constructor) ?_
            refine gT rfl ?_
            refine aN rfl rfl (by constructor) ?_
            refine gF rfl (by decide) ?_
            refine gF rfl (by decide) ?_
            refine gF rfl (by decide) ?_
            refine gT rfl ?_
            refine aN rfl rfl (by constructor) ?_
            refine gT rfl ?_
            refine aN rfl rfl (by constructor) ?_
            refine gF rfl (by decide) ?_
            refine gF rfl (by decide) ?_
            refine gF rfl (by decide) ?_
            refine gT rfl ?_
            refine aN rfl rfl (by constructor) ?_
            refine aN rfl rfl (by constructor) ?_
            refine aN rfl rfl (by constructor) ?_
            refine gF rfl (by decide) ?_
            refine gF rfl (by decide) ?_
            refine gF rfl (by decide) ?_
            refine aN rfl rfl (by constructor) ?_
            refine sE ?_
            show AW _ (.cond _ _ _) _ _ _
            refine cT rfl ?_
            show AWl _ _ _ _ _
            refine aN rfl rfl (by constructor) ?_
            refine sE ?_
            refine ⟨_, out1 (r_tmp rfl (by constructor)), ?_⟩
            exfalso
            clear st hs hsw
            simp_all
          · have h10n : (keyM P14.regs (n : Int)).2 = true := by simpa using h10
            refine gT rfl ?_
            refine aN rfl rfl (by constructor) ?_
            refine gT rfl ?_
            refine aN rfl rfl (by constructor) ?_
            refine gT rfl ?_
            refine aN rfl rfl (by constructor) ?_
            refine gT rfl ?_
            refine aN rfl rfl (by constructor) ?_
            refine gCase 50 rfl (fun h11 => ?_) (fun h11 => ?_)
            · refine gF rfl (by decide) ?_
              refine gF rfl (by decide) ?_
              refine gF rfl (by decide) ?_
              refine gT rfl ?_
              refine aN rfl rfl (by constructor) ?_
              refine gT rfl ?_
              refine aN rfl rfl (by constructor) ?_
              refine gF rfl (by decide) ?_
              refine gF rfl (by decide) ?_
              refine gF rfl (by decide) ?_
              refine gT rfl ?_
              refine aN rfl rfl (by constructor) ?_
              refine aN rfl rfl (by constructor) ?_
              refine aN rfl rfl (by constructor) ?_
              refine gF rfl (by decide) ?_
              refine gF rfl (by decide) ?_
              refine gF rfl (by decide) ?_
              refine aN rfl rfl (by constructor) ?_
              refine sE ?_
              show AW _ (.cond _ _ _) _ _ _
              refine cT rfl ?_
              show AWl _ _ _ _ _
              refine aN rfl rfl (by constructor) ?_
              refine sE ?_
              refine ⟨_, out1 (r_tmp rfl (by constructor)), ?_⟩
              exfalso
              clear st hs hsw
              simp_all
            · refine gT rfl ?_
              refine aN rfl rfl (by constructor) ?_
              refine gT rfl ?_
              refine aN rfl rfl (by constructor) ?_
              refine gT rfl ?_
              refine aC (conflict_call (P := P14) (n := (n : Int)) (c := 1) (st.get (j := 0) rfl) (st.rowAcc 1 rfl (by decide) (flat_len' regE_len _)) (by omega)) fun v53 H12 ⟨hv, st1⟩ => ?_
              subst hv
              replace st := st.call st1 rfl
              clear st1
              refine gT rfl ?_
              refine aN rfl rfl (by constructor) ?_
              refine gT rfl ?_
              refine aN rfl rfl (by constructor) ?_
              refine gCase 55 rfl (fun h13 => ?_) (fun h13 => ?_)
              · refine gF rfl (by decide) ?_
                refine gF rfl (by decide) ?_
                refine gF rfl (by decide) ?_
                refine gT rfl ?_
                refine aN rfl rfl (by constructor) ?_
                refine aN rfl rfl (by constructor) ?_
                refine aN rfl rfl (by constructor) ?_
                refine gF rfl (by decide) ?_
                refine gF rfl (by decide) ?_
                refine gF rfl (by decide) ?_
                refine aN rfl rfl (by constructor) ?_
                refine sE ?_
                show AW _ (.cond _ _ _) _ _ _
                refine cT rfl ?_
                show AWl _ _ _ _ _
                refine aN rfl rfl (by constructor) ?_
                refine sE ?_
                refine ⟨_, out1 (r_tmp rfl (by constructor)), ?_⟩
                exfalso
                clear st hs hsw
                simp_all
              · refine gT rfl ?_
                refine aN rfl rfl (by constructor) ?_
                refine gT rfl ?_
                refine aN rfl rfl (by constructor) ?_
                refine gT rfl ?_
                refine aC (conflict_call (P := P14) (n := (n : Int)) (c := 2) (st.get (j := 0) rfl) (st.rowAcc 1 rfl (by decide) (flat_len' regE_len _)) (by omega)) fun v58 H14 ⟨hv, st1⟩ => ?_
                subst hv
                replace st := st.call st1 rfl
                clear st1
                refine gT rfl ?_
                refine aN rfl rfl (by constructor) ?_
                refine aN rfl rfl (by constructor) ?_
                refine aN rfl rfl (by constructor) ?_
                refine gCase 61 rfl (fun h15 => ?_) (fun h15 => ?_)
                · refine gF rfl (by decide) ?_
                  refine gF rfl (by decide) ?_
                  refine gF rfl (by decide) ?_
                  refine aN rfl rfl (by constructor) ?_
                  refine sE ?_
                  show AW _ (.cond _ _ _) _ _ _
                  refine cT rfl ?_
                  show AWl _ _ _ _ _
                  refine aN rfl rfl (by constructor) ?_
                  refine sE ?_
                  refine ⟨_, out1 (r_tmp rfl (by constructor)), ?_⟩
                  exfalso
                  clear st hs hsw
                  simp_all
                · refine gT rfl ?_
                  refine aN rfl rfl (by constructor) ?_
                  refine gT rfl ?_
                  refine aN rfl rfl (by constructor) ?_
                  refine gT rfl ?_
                  refine aC (conflict_call (P := P14) (n := (n : Int)) (c := 0) (st.get (j := 0) rfl) (st.rowAcc 1 rfl (by decide) (flat_len' regE_len _)) (by omega)) fun v64 H16 ⟨hv, st1⟩ => ?_
                  subst hv
                  replace st := st.call st1 rfl
                  clear st1
                  refine aN rfl rfl (by constructor) ?_
                  refine sE ?_
                  show AW _ (.cond _ _ _) _ _ _
                  refine cC' rfl (fun h17 => ?_) (fun h17 => ?_)
                  · show AWl _ _ _ _ _
                    refine aN rfl rfl (by constructor) ?_
                    refine sE ?_
                    refine ⟨_, out1 (r_tmp rfl (by constructor)), ?_⟩
                    exfalso
                    clear st hs hsw
                    simp_all
                  · exact ⟨rfl, (st.sel [0, 1, 2] (by decide))⟩
        · refine gF rfl (by decide) ?_
          refine gF rfl (by decide) ?_
          refine gF rfl (by decide) ?_
          refine gU rfl ?_
          refine gU rfl ?_
          refine gF rfl (by decide) ?_
          refine gF rfl (by decide) ?_
          refine gU rfl ?_
          refine gU rfl ?_
          refine gU rfl ?_
          refine gF rfl (by decide) ?_
          refine gF rfl (by decide) ?_
          refine gU rfl ?_
          refine gU rfl ?_
          refine gU rfl ?_
          refine gF rfl (by decide) ?_
          refine aN rfl rfl (by constructor) ?_
          refine aN rfl rfl (by constructor) ?_
          refine gT rfl ?_
          refine aN rfl rfl (by constructor) ?_
          refine gT rfl ?_
          refine aN rfl rfl (by constructor) ?_
          refine gT rfl ?_
          refine aC (conflict_call (P := P14) (n := (n : Int)) (c := 0) (st.get (j := 0) rfl) (st.rowAcc 1 rfl (by decide) (flat_len' regE_len _)) (by omega)) fun v64 H18 ⟨hv, st1⟩ => ?_
          subst hv
          replace st := st.call st1 rfl
          clear st1
          refine aN rfl rfl (by constructor) ?_
          refine sE ?_
          show AW _ (.cond _ _ _) _ _ _
          refine cC' rfl (fun h19 => ?_) (fun h19 => ?_)
          · show AWl _ _ _ _ _
            refine aN rfl rfl (by constructor) ?_
            refine sE ?_
            refine ⟨_, out1 (r_tmp rfl (by constructor)), ?_⟩
            exfalso
            clear st hs hsw
            simp_all
          · exact ⟨rfl, (st.sel [0, 1, 2] (by decide))⟩
      · obtain ⟨ht10, st⟩ := hI
        obtain ⟨u, rfl⟩ : ∃ u, t1 = (upd (mix [2, 42, 43, 44, 45, 46, 47, 48, 49, 50, 51, 52, 53, 54, 55, 56, 57, 58, 59, 60, 61, 62, 63, 64, 65] _ u) (some 10) _) := ⟨t1, by rw [← hk, upd_self ht10]⟩
        clear hk ht10
        refine AW_cutK (b := .seq (.list (⟨some 98, _, _⟩ :: _)) _) (fun t1 H1 => Stt [] H H1 [⟨some b14, true, ⟨true, 79, [accV ob14 P14.regs.length 2, .int .u32 P14.gen, .int .u8 P14.kind, .int .i64 P14.holder, .bool P14.aptpl]⟩⟩, ⟨ob14, true, ⟨true, 30, (P14.regs).flatMap regE⟩⟩, ⟨oc16, true, ⟨true, 30, (P14.regs).flatMap regE⟩⟩]) [2, 66, 67, 68, 69, 70, 71, 72, 73, 74, 75, 76, 77, 78, 79, 80, 81, 82, 83, 84, 85, 86, 87, 88, 89, 90, 91, 92, 93, 94, 95, 96, 97] (by decide) ?_ fun t1 H1 hk hI => ?_
        · show AWl _ _ _ _ _
          refine aN rfl rfl (by constructor) ?_
          refine aN rfl rfl (by constructor) ?_
          refine aC (conflict_call (P := P14) (n := (n : Int)) (c := 1) (st.get (j := 0) rfl) (st.rowAcc 1 rfl (by decide) (flat_len' regE_len _)) (by omega)) fun v68 H20 ⟨hv, st1⟩ => ?_
          subst hv
          replace st := st.call st1 rfl
          clear st1
          refine aN rfl rfl (by constructor) ?_
          refine gCase 69 rfl (fun h21 => ?_) (fun h21 => ?_)
          · refine gT rfl ?_
            refine aN rfl rfl (by constructor) ?_
            refine gT rfl ?_
            refine aN rfl rfl (by constructor) ?_
            refine gT rfl ?_
            refine aC (conflict_call (P := P14) (n := (n : Int)) (c := 2) (st.get (j := 0) rfl) (st.rowAcc 1 rfl (by decide) (flat_len' regE_len _)) (by omega)) fun v72 H22 ⟨hv, st1⟩ => ?_
            subst hv
            replace st := st.call st1 rfl
            clear st1
            refine gT rfl ?_
            refine aN rfl rfl (by constructor) ?_
            refine aN rfl rfl (by constructor) ?_
            refine aN rfl rfl (by constructor) ?_
            refine gCase 75 rfl (fun h23 => ?_) (fun h23 => ?_)
            · have h23n : conflictM P14 (n : Int) 2 = false := by simpa using h23
              refine gF rfl (by decide) ?_
              refine gF rfl (by decide) ?_
              refine gF rfl (by decide) ?_
              refine gU rfl ?_
              refine gU rfl ?_
              refine gU rfl ?_
              refine gF rfl (by decide) ?_
              refine aN rfl rfl (by constructor) ?_
              refine aN rfl rfl (by constructor) ?_
              refine gF rfl (by decide) ?_
              refine gF rfl (by decide) ?_
              refine gF rfl (by decide) ?_
              refine gU rfl ?_
              refine gU rfl ?_
              refine gF rfl (by decide) ?_
              refine gF rfl (by decide) ?_
              refine gU rfl ?_
              refine gU rfl ?_
              refine gU rfl ?_
              refine gU rfl ?_
              refine gF rfl (by decide) ?_
              refine aN rfl rfl (by constructor) ?_
              refine sE ?_
              show AW _ (.cond _ _ _) _ _ _
              refine cT rfl ?_
              show AWl _ _ _ _ _
              refine aN rfl rfl (by constructor) ?_
              refine sE ?_
              refine ⟨_, out1 (r_tmp rfl (by constructor)), ?_⟩
              exfalso
              clear st hs hsw
              simp_all
            · have h23n : conflictM P14 (n : Int) 2 = true := by simpa using h23
              refine gT rfl ?_
              refine aN rfl rfl (by constructor) ?_
              refine gT rfl ?_
              refine aN rfl rfl (by constructor) ?_
              refine gT rfl ?_
              refine aN rfl rfl (by constructor) ?_
              refine gCase 78 rfl (fun h24 => ?_) (fun h24 => ?_)
              · refine gT rfl ?_
                refine aN rfl rfl (by constructor) ?_
                refine gT rfl ?_
                refine aN rfl rfl (by constructor) ?_
                refine gT rfl ?_
                refine aC (conflict_call (P := P14) (n := (n : Int)) (c := 2) (st.get (j := 0) rfl) (st.rowAcc 1 rfl (by decide) (flat_len' regE_len _)) (by omega)) fun v81 H25 ⟨hv, st1⟩ => ?_
                subst hv
                replace st := st.call st1 rfl
                clear st1
                refine gT rfl ?_
                refine aN rfl rfl (by constructor) ?_
                refine aN rfl rfl (by constructor) ?_
                refine aMovV (.bool true) (congrArg Value.bool h23n) ?_
                refine gF rfl (by decide) ?_
                refine gF rfl (by decide) ?_
                refine gF rfl (by decide) ?_
                refine gU rfl ?_
                refine gU rfl ?_
                refine gF rfl (by decide) ?_
                refine gF rfl (by decide) ?_
                refine gU rfl ?_
                refine gU rfl ?_
                refine gU rfl ?_
                refine gU rfl ?_
                refine gF rfl (by decide) ?_
                refine aN rfl rfl (by constructor) ?_
                refine sE ?_
                show AW _ (.cond _ _ _) _ _ _
                refine cT rfl ?_
                show AWl _ _ _ _ _
                refine aN rfl rfl (by constructor) ?_
                refine sE ?_
                refine ⟨_, out1 (r_tmp rfl (by constructor)), ?_⟩
                exfalso
                clear st hs hsw
                simp_all
              · refine gF rfl (by decide) ?_
                refine gF rfl (by decide) ?_
                refine gF rfl (by decide) ?_
                refine gT rfl ?_
                refine aN rfl rfl (by constructor) ?_
                refine aN rfl rfl (by constructor) ?_
                refine aN rfl rfl (by constructor) ?_
                refine gT rfl ?_
                refine aN rfl rfl (by constructor) ?_
                refine gT rfl ?_
                refine aN rfl rfl (by constructor) ?_
                refine gT rfl ?_
                refine aN rfl rfl (by constructor) ?_
                refine gCase 87 rfl (fun h26 => ?_) (fun h26 => ?_)
                · refine gT rfl ?_
                  refine aN rfl rfl (by constructor) ?_
                  refine gT rfl ?_
                  refine aN rfl rfl (by constructor) ?_
                  refine gT rfl ?_
                  refine aN rfl rfl (by constructor) ?_
                  refine gT rfl ?_
                  refine aN rfl rfl (by constructor) ?_
                  refine gCase 91 rfl (fun h27 => ?_) (fun h27 => ?_)
                  · have h27n : (keyM P14.regs (n : Int)).2 = false := by simpa using h27
                    refine gT rfl ?_
                    refine aN rfl rfl (by constructor) ?_
                    refine gT rfl ?_
                    refine aN rfl rfl (by constructor) ?_
                    refine gT rfl ?_
                    refine aC (conflict_call (P := P14) (n := (n : Int)) (c := 2) (st.get (j := 0) rfl) (st.rowAcc 1 rfl (by decide) (flat_len' regE_len _)) (by omega)) fun v94 H28 ⟨hv, st1⟩ => ?_
                    subst hv
                    replace st := st.call st1 rfl
                    clear st1
                    refine gT rfl ?_
                    refine aN rfl rfl (by constructor) ?_
                    refine gT rfl ?_
                    refine aN rfl rfl (by constructor) ?_
                    refine aN rfl rfl (by constructor) ?_
                    refine sE ?_
                    show AW _ (.cond _ _ _) _ _ _
                    refine cF' (congrArg (fun z => Value.bool (!z)) h23n) ?_
                    exact (st.sel [0, 1, 2] (by decide))
                  · have h27n : (keyM P14.regs (n : Int)).2 = true := by simpa using h27
                    refine gF rfl (by decide) ?_
                    refine gF rfl (by decide) ?_
                    refine gF rfl (by decide) ?_
                    refine gF rfl (by decide) ?_
                    refine gT rfl ?_
                    refine aN rfl rfl (by constructor) ?_
                    refine aN rfl rfl (by constructor) ?_
                    refine sE ?_
                    show AW _ (.cond _ _ _) _ _ _
                    refine cF' rfl ?_
                    exact (st.sel [0, 1, 2] (by decide))
                · refine gF rfl (by decide) ?_
                  refine gF rfl (by decide) ?_
                  refine gT rfl ?_
                  refine aN rfl rfl (by constructor) ?_
                  refine gT rfl ?_
                  refine aN rfl rfl (by constructor) ?_
                  refine gF rfl (by decide) ?_
                  refine gF rfl (by decide) ?_
                  refine gF rfl (by decide) ?_
                  refine gF rfl (by decide) ?_
                  refine gT rfl ?_
                  refine aN rfl rfl (by constructor) ?_
                  refine aN rfl rfl (by constructor) ?_
                  refine sE ?_
                  show AW _ (.cond _ _ _) _ _ _
                  refine cF' rfl ?_
                  exact (st.sel [0, 1, 2] (by decide))
          · refine gF rfl (by decide) ?_
            refine gF rfl (by decide) ?_
            refine gF rfl (by decide) ?_
            refine gF rfl (by decide) ?_
            refine aN rfl rfl (by constructor) ?_
            refine aN rfl rfl (by constructor) ?_
            refine gT rfl ?_
            refine aN rfl rfl (by constructor) ?_
            refine gT rfl ?_
            refine aN rfl rfl (by constructor) ?_
            refine gT rfl ?_
            refine aN rfl rfl (by constructor) ?_
            refine gCase 78 rfl (fun h29 => ?_) (fun h29 => ?_)
            · refine gT rfl ?_
              refine aN rfl rfl (by constructor) ?_
              refine gT rfl ?_
              refine aN rfl rfl (by constructor) ?_
              refine gT rfl ?_
              refine aC (conflict_call (P := P14) (n := (n : Int)) (c := 2) (st.get (j := 0) rfl) (st.rowAcc 1 rfl (by decide) (flat_len' regE_len _)) (by omega)) fun v81 H30 ⟨hv, st1⟩ => ?_
              subst hv
              replace st := st.call st1 rfl
              clear st1
              refine gT rfl ?_
              refine aN rfl rfl (by constructor) ?_
              refine aN rfl rfl (by constructor) ?_
              refine aN rfl rfl (by constructor) ?_
              refine gCase 84 rfl (fun h31 => ?_) (fun h31 => ?_)
              · refine gF rfl (by decide) ?_
                refine gF rfl (by decide) ?_
                refine gF rfl (by decide) ?_
                refine gU rfl ?_
                refine gU rfl ?_
                refine gF rfl (by decide) ?_
                refine gF rfl (by decide) ?_
                refine gU rfl ?_
                refine gU rfl ?_
                refine gU rfl ?_
                refine gU rfl ?_
                refine gF rfl (by decide) ?_
                refine aN rfl rfl (by constructor) ?_
                refine sE ?_
                show AW _ (.cond _ _ _) _ _ _
                refine cT rfl ?_
                show AWl _ _ _ _ _
                refine aN rfl rfl (by constructor) ?_
                refine sE ?_
                refine ⟨_, out1 (r_tmp rfl (by constructor)), ?_⟩
                exfalso
                clear st hs hsw
                simp_all
              · refine gT rfl ?_
                refine aN rfl rfl (by constructor) ?_
                refine gT rfl ?_
                refine aN rfl rfl (by constructor) ?_
                refine gT rfl ?_
                refine aN rfl rfl (by constructor) ?_
                refine gCase 87 rfl (fun h32 => ?_) (fun h32 => ?_)
                · refine gT rfl ?_
                  refine aN rfl rfl (by constructor) ?_
                  refine gT rfl ?_
                  refine aN rfl rfl (by constructor) ?_
                  refine gT rfl ?_
                  refine aN rfl rfl (by constructor) ?_
                  refine gT rfl ?_
                  refine aN rfl rfl (by constructor) ?_
                  refine gCase 91 rfl (fun h33 => ?_) (fun h33 => ?_)
                  · have h33n : (keyM P14.regs (n : Int)).2 = false := by simpa using h33
                    refine gT rfl ?_
                    refine aN rfl rfl (by constructor) ?_
                    refine gT rfl ?_
                    refine aN rfl rfl (by constructor) ?_
                    refine gT rfl ?_
                    refine aC (conflict_call (P := P14) (n := (n : Int)) (c := 2) (st.get (j := 0) rfl) (st.rowAcc 1 rfl (by decide) (flat_len' regE_len _)) (by omega)) fun v94 H34 ⟨hv, st1⟩ => ?_
                    subst hv
                    replace st := st.call st1 rfl
                    clear st1
                    refine gT rfl ?_
                    refine aN rfl rfl (by constructor) ?_
                    refine gT rfl ?_
                    refine aN rfl rfl (by constructor) ?_
                    refine aN rfl rfl (by constructor) ?_
                    refine sE ?_
                    show AW _ (.cond _ _ _) _ _ _
                    refine cT (congrArg (fun z => Value.bool (!z)) h31) ?_
                    show AWl _ _ _ _ _
                    refine aN rfl rfl (by constructor) ?_
                    refine sE ?_
                    refine ⟨_, out1 (r_tmp rfl (by constructor)), ?_⟩
                    exfalso
                    clear st hs hsw
                    simp_all
                  · have h33n : (keyM P14.regs (n : Int)).2 = true := by simpa using h33
                    refine gF rfl (by decide) ?_
                    refine gF rfl (by decide) ?_
                    refine gF rfl (by decide) ?_
                    refine gF rfl (by decide) ?_
                    refine gT rfl ?_
                    refine aN rfl rfl (by constructor) ?_
                    refine aN rfl rfl (by constructor) ?_
                    refine sE ?_
                    show AW _ (.cond _ _ _) _ _ _
                    refine cF' rfl ?_
                    exact (st.sel [0, 1, 2] (by decide))
                · refine gF rfl (by decide) ?_
                  refine gF rfl (by decide) ?_
                  refine gT rfl ?_
                  refine aN rfl rfl (by constructor) ?_
                  refine gT rfl ?_
                  refine aN rfl rfl (by constructor) ?_
                  refine gF rfl (by decide) ?_
                  refine gF rfl (by decide) ?_
                  refine gF rfl (by decide) ?_
                  refine gF rfl (by decide) ?_
                  refine gT rfl ?_
                  refine aN rfl rfl (by constructor) ?_
                  refine aN rfl rfl (by constructor) ?_
                  refine sE ?_
                  show AW _ (.cond _ _ _) _ _ _
                  refine cF' rfl ?_
                  exact (st.sel [0, 1, 2] (by decide))
            · refine gF rfl (by decide) ?_
              refine gF rfl (by decide) ?_
              refine gF rfl (by decide) ?_
              refine gT rfl ?_
              refine aN rfl rfl (by constructor) ?_
              refine aN rfl rfl (by constructor) ?_
              refine aN rfl rfl (by constructor) ?_
              refine gT rfl ?_
              refine aN rfl rfl (by constructor) ?_
              refine gT rfl ?_
              refine aN rfl rfl (by constructor) ?_
              refine gT rfl ?_
              refine aN rfl rfl (by constructor) ?_
              refine gCase 87 rfl (fun h35 => ?_) (fun h35 => ?_)
              · refine gT rfl ?_
                refine aN rfl rfl (by constructor) ?_
                refine gT rfl ?_
                refine aN rfl rfl (by constructor) ?_
                refine gT rfl ?_
                refine aN rfl rfl (by constructor) ?_
                refine gT rfl ?_
                refine aN rfl rfl (by constructor) ?_
                refine gCase 91 rfl (fun h36 => ?_) (fun h36 => ?_)
                · have h36n : (keyM P14.regs (n : Int)).2 = false := by simpa using h36
                  refine gT rfl ?_
                  refine aN rfl rfl (by constructor) ?_
                  refine gT rfl ?_
                  refine aN rfl rfl (by constructor) ?_
                  refine gT rfl ?_
                  refine aC (conflict_call (P := P14) (n := (n : Int)) (c := 2) (st.get (j := 0) rfl) (st.rowAcc 1 rfl (by decide) (flat_len' regE_len _)) (by omega)) fun v94 H37 ⟨hv, st1⟩ => ?_
                  subst hv
                  replace st := st.call st1 rfl
                  clear st1
                  refine gT rfl ?_
                  refine aN rfl rfl (by constructor) ?_
                  refine gT rfl ?_
                  refine aN rfl rfl (by constructor) ?_
                  refine aN rfl rfl (by constructor) ?_
                  refine sE ?_
                  show AW _ (.cond _ _ _) _ _ _
                  refine cC' rfl (fun h38 => ?_) (fun h38 => ?_)
                  · have h38n : conflictM P14 (n : Int) 2 = false := by simpa using h38
                    show AWl _ _ _ _ _
                    refine aN rfl rfl (by constructor) ?_
                    refine sE ?_
                    refine ⟨_, out1 (r_tmp rfl (by constructor)), ?_⟩
                    exfalso
                    clear st hs hsw
                    simp_all
                  · have h38n : conflictM P14 (n : Int) 2 = true := by simpa using h38
                    exact (st.sel [0, 1, 2] (by decide))
                · have h36n : (keyM P14.regs (n : Int)).2 = true := by simpa using h36
                  refine gF rfl (by decide) ?_
                  refine gF rfl (by decide) ?_
                  refine gF rfl (by decide) ?_
                  refine gF rfl (by decide) ?_
                  refine gT rfl ?_
                  refine aN rfl rfl (by constructor) ?_
                  refine aN rfl rfl (by constructor) ?_
                  refine sE ?_
                  show AW _ (.cond _ _ _) _ _ _
                  refine cF' rfl ?_
                  exact (st.sel [0, 1, 2] (by decide))
              · refine gF rfl (by decide) ?_
                refine gF rfl (by decide) ?_
                refine gT rfl ?_
                refine aN rfl rfl (by constructor) ?_
                refine gT rfl ?_
                refine aN rfl rfl (by constructor) ?_
                refine gF rfl (by decide) ?_
                refine gF rfl (by decide) ?_
                refine gF rfl (by decide) ?_
                refine gF rfl (by decide) ?_
                refine gT rfl ?_
                refine aN rfl rfl (by constructor) ?_
                refine aN rfl rfl (by constructor) ?_
                refine sE ?_
                show AW _ (.cond _ _ _) _ _ _
                refine cF' rfl ?_
                exact (st.sel [0, 1, 2] (by decide))
        · have st := hI
          obtain ⟨u, rfl⟩ : ∃ u, t1 = (mix [2, 66, 67, 68, 69, 70, 71, 72, 73, 74, 75, 76, 77, 78, 79, 80, 81, 82, 83, 84, 85, 86, 87, 88, 89, 90, 91, 92, 93, 94, 95, 96, 97] _ u) := ⟨t1, by rw [← hk]⟩
          clear hk
          show AWl _ _ _ _ _
          refine aN rfl rfl (by constructor) ?_
          refine aN rfl rfl (by constructor) ?_
          refine aN rfl rfl (by constructor) ?_
          refine gCase 100 rfl (fun h39 => ?_) (fun h39 => ?_)
          · refine gT rfl ?_
            refine aN rfl rfl (by constructor) ?_
            refine gT rfl ?_
            refine aC (all_call) fun v102 H40 ⟨hv, st1⟩ => ?_
            subst hv
            replace st := st.call st1 rfl
            clear st1
            refine gT rfl ?_
            refine aN rfl rfl (by constructor) ?_
            refine aN rfl rfl (by constructor) ?_
            refine aN rfl rfl (by constructor) ?_
            refine gCase 105 rfl (fun h41 => ?_) (fun h41 => ?_)
            · have h41n : allB P14.kind = false := by simpa using h41
              refine gT rfl ?_
              refine aN rfl rfl (by constructor) ?_
              refine gT rfl ?_
              refine aN rfl rfl (by constructor) ?_
              refine gT rfl ?_
              refine aN rfl rfl (by constructor) ?_
              refine gT rfl ?_
              refine aN rfl rfl (by constructor) ?_
              refine gT rfl ?_
              refine aN rfl rfl (by constructor) ?_
              refine aN rfl rfl (by constructor) ?_
              refine aN rfl rfl (by constructor) ?_
              refine gCase 112 rfl (fun h42 => ?_) (fun h42 => ?_)
              · refine gF rfl (by decide) ?_
                refine gF rfl (by decide) ?_
                refine gF rfl (by decide) ?_
                refine gU rfl ?_
                refine gU rfl ?_
                refine gU rfl ?_
                refine gF rfl (by decide) ?_
                refine aN rfl rfl (by constructor) ?_
                refine sE ?_
                show AW _ (.cond _ _ _) _ _ _
                refine cT rfl ?_
                show AWl _ _ _ _ _
                refine aN rfl rfl (by constructor) ?_
                refine sE ?_
                refine ⟨_, out1 (r_tmp rfl (by constructor)), ?_⟩
                exfalso
                clear st hs hsw
                simp_all
              · refine gT rfl ?_
                refine aN rfl rfl (by constructor) ?_
                refine gT rfl ?_
                refine aC (all_call) fun v114 H43 ⟨hv, st1⟩ => ?_
                subst hv
                replace st := st.call st1 rfl
                clear st1
                refine gT rfl ?_
                refine aMovV (.bool false) (congrArg Value.bool h41n) ?_
                refine gF rfl (by decide) ?_
                refine gF rfl (by decide) ?_
                refine gF rfl (by decide) ?_
                refine gT rfl ?_
                refine aN rfl rfl (by constructor) ?_
                refine aN rfl rfl (by constructor) ?_
                refine sE ?_
                show AW _ (.cond _ _ _) _ _ _
                refine cF' rfl ?_
                show AWl _ _ _ _ _
                refine aN rfl rfl (by constructor) ?_
                refine aN rfl rfl (by constructor) ?_
                refine aN rfl rfl (by constructor) ?_
                refine sE ?_
                exact ⟨_, by omega, n + 1, rfl, by omega, congrArg (Value.int .i64) (wi _ (by omega)), (st.sel [0, 1, 2] (by decide))⟩
            · have h41n : allB P14.kind = true := by simpa using h41
              refine gF rfl (by decide) ?_
              refine gF rfl (by decide) ?_
              refine gF rfl (by decide) ?_
              refine gF rfl (by decide) ?_
              refine gF rfl (by decide) ?_
              refine aN rfl rfl (by constructor) ?_
              refine aN rfl rfl (by constructor) ?_
              refine gT rfl ?_
              refine aN rfl rfl (by constructor) ?_
              refine gT rfl ?_
              refine aC (all_call) fun v114 H44 ⟨hv, st1⟩ => ?_
              subst hv
              replace st := st.call st1 rfl
              clear st1
              refine gT rfl ?_
              refine aMovV (.bool true) (congrArg Value.bool h41n) ?_
              refine gT rfl ?_
              refine aN rfl rfl (by constructor) ?_
              refine gT rfl ?_
              refine aN rfl rfl (by constructor) ?_
              refine gT rfl ?_
              refine aN rfl rfl (by constructor) ?_
              refine gT rfl ?_
              refine aN rfl rfl (by constructor) ?_
              refine aN rfl rfl (by constructor) ?_
              refine sE ?_
              show AW _ (.cond _ _ _) _ _ _
              refine cC' rfl (fun h45 => ?_) (fun h45 => ?_)
              · show AWl _ _ _ _ _
                refine aN rfl rfl (by constructor) ?_
                refine sE ?_
                refine ⟨_, out1 (r_tmp rfl (by constructor)), ?_⟩
                exfalso
                clear st hs hsw
                simp_all
              · show AWl _ _ _ _ _
                refine aN rfl rfl (by constructor) ?_
                refine aN rfl rfl (by constructor) ?_
                refine aN rfl rfl (by constructor) ?_
                refine sE ?_
                exact ⟨_, by omega, n + 1, rfl, by omega, congrArg (Value.int .i64) (wi _ (by omega)), (st.sel [0, 1, 2] (by decide))⟩
          · refine gF rfl (by decide) ?_
            refine gF rfl (by decide) ?_
            refine gF rfl (by decide) ?_
            refine aN rfl rfl (by constructor) ?_
            refine aN rfl rfl (by constructor) ?_
            refine gF rfl (by decide) ?_
            refine gF rfl (by decide) ?_
            refine gF rfl (by decide) ?_
            refine gF rfl (by decide) ?_
            refine gF rfl (by decide) ?_
            refine aN rfl rfl (by constructor) ?_
            refine aN rfl rfl (by constructor) ?_
            refine gT rfl ?_
            refine aN rfl rfl (by constructor) ?_
            refine gT rfl ?_
            refine aC (all_call) fun v114 H46 ⟨hv, st1⟩ => ?_
            subst hv
            replace st := st.call st1 rfl
            clear st1
            refine gT rfl ?_
            refine aN rfl rfl (by constructor) ?_
            refine gCase 115 rfl (fun h47 => ?_) (fun h47 => ?_)
            · refine gT rfl ?_
              refine aN rfl rfl (by constructor) ?_
              refine gT rfl ?_
              refine aN rfl rfl (by constructor) ?_
              refine gT rfl ?_
              refine aN rfl rfl (by constructor) ?_
              refine gT rfl ?_
              refine aN rfl rfl (by constructor) ?_
              refine aN rfl rfl (by constructor) ?_
              refine sE ?_
              show AW _ (.cond _ _ _) _ _ _
              refine cC' rfl (fun h48 => ?_) (fun h48 => ?_)
              · show AWl _ _ _ _ _
                refine aN rfl rfl (by constructor) ?_
                refine sE ?_
                refine ⟨_, out1 (r_tmp rfl (by constructor)), ?_⟩
                exfalso
                clear st hs hsw
                simp_all
              · show AWl _ _ _ _ _
                refine aN rfl rfl (by constructor) ?_
                refine aN rfl rfl (by constructor) ?_
                refine aN rfl rfl (by constructor) ?_
                refine sE ?_
                exact ⟨_, by omega, n + 1, rfl, by omega, congrArg (Value.int .i64) (wi _ (by omega)), (st.sel [0, 1, 2] (by decide))⟩
            · refine gF rfl (by decide) ?_
              refine gF rfl (by decide) ?_
              refine gF rfl (by decide) ?_
              refine gT rfl ?_
              refine aN rfl rfl (by constructor) ?_
              refine aN rfl rfl (by constructor) ?_
              refine sE ?_
              show AW _ (.cond _ _ _) _ _ _
              refine cF' rfl ?_
              show AWl _ _ _ _ _
              refine aN rfl rfl (by constructor) ?_
              refine aN rfl rfl (by constructor) ?_
              refine aN rfl rfl (by constructor) ?_
              refine sE ?_
              exact ⟨_, by omega, n + 1, rfl, by omega, congrArg (Value.int .i64) (wi _ (by omega)), (st.sel [0, 1, 2] (by decide))⟩
  · show AWl _ _ _ _ _
    have F8 := some_reg hP14
    refine aN rfl rfl (by constructor) ?_
    refine aN rfl rfl (by constructor) ?_
    refine aN rfl rfl (by constructor) ?_
    refine gCase 123 rfl (fun h49 => ?_) (fun h49 => ?_)
    · refine gF rfl (by decide) ?_
      refine gF rfl (by decide) ?_
      refine gF rfl (by decide) ?_
      refine gU rfl ?_
      refine gU rfl ?_
      refine gU rfl ?_
      refine gF rfl (by decide) ?_
      refine aN rfl rfl (by constructor) ?_
      refine aN rfl rfl (by constructor) ?_
      refine sE ?_
      refine ⟨_, out1 (r_tmp rfl (by constructor)), ?_⟩
      rfl
    · refine gT rfl ?_
      refine aN rfl rfl (by constructor) ?_
      refine gT rfl ?_
      refine aC (types_call) fun v125 H50 ⟨hv, st1⟩ => ?_
      subst hv
      replace st := st.call st1 rfl
      clear st1
      refine gT rfl ?_
      refine aN rfl rfl (by constructor) ?_
      refine gCase 126 rfl (fun h51 => ?_) (fun h51 => ?_)
      · refine gT rfl ?_
        refine aMovA rfl ?_
        refine gT rfl ?_
        refine aLen (st.rowAcc 2 rfl (by decide) (by exact flat_len' regE_len _)) rfl ?_
        refine gT rfl ?_
        refine aN rfl rfl (by constructor) ?_
        refine gT rfl ?_
        refine aN rfl rfl (by constructor) ?_
        refine aN rfl rfl (by constructor) ?_
        refine aN rfl rfl (by constructor) ?_
        refine sE ?_
        refine ⟨_, out1 (r_tmp rfl (by constructor)), ?_⟩
        refine congrArg Value.bool ?_
        simp_all
      · refine gF rfl (by decide) ?_
        refine gF rfl (by decide) ?_
        refine gF rfl (by decide) ?_
        refine gT rfl ?_
        refine aN rfl rfl (by constructor) ?_
        refine aN rfl rfl (by constructor) ?_
        refine aN rfl rfl (by constructor) ?_
        refine sE ?_
        refine ⟨_, out1 (r_tmp rfl (by constructor)), ?_⟩
        exfalso
        clear st hs hsw
        simp_all
theorem prHolders_law {H : Hp} {B : Nat} {xs : List Value} (hro : Ro H) (hd : datArgs Try.prog H B 8 [22] xs) : ACalls Try.prog 4 xs H fun v _ => v = .bool true := by
  obtain ⟨x0, rfl, d0⟩ := args1 hd
  obtain ⟨zs, hzs, lzs, wzs⟩ := acts_of d0
  exact holders_call hzs (fun z hz => (wzs z hz).2.2.2.1) lzs

end Go.Proofs.Ytihkghfmihdicaa.Abs
