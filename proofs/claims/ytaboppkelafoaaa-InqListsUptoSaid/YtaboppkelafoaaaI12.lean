/- Inq: InqKeeps. -/
import Derived.Test.YtaboppkelafoaaaI11
set_option linter.unusedVariables false
set_option linter.unusedSimpArgs false
set_option maxRecDepth 100000
namespace Go.Proofs.Ytaboppkelafoaaa.Abs
open Go Go.RowKit
theorem pageL_len (i : Inf) (pg : Int) : (pageL i pg).length ≤ 64 := by
  unfold pageL pageR
  by_cases h : formI i = true
  · have hq := form_lens h
    have hw := wide_len (n := 8) hq.1
    rw [if_pos h]
    unfold pageB
    by_cases h0 : pg = 0
    · rw [if_pos h0]; simp
    · by_cases h1 : pg = 128
      · rw [if_neg h0, if_pos h1]; simp; omega
      · by_cases h2 : pg = 131
        · rw [if_neg h0, if_neg h1, if_pos h2]; simp [hw]; omega
        · by_cases h3 : pg = 176
          · rw [if_neg h0, if_neg h1, if_neg h2, if_pos h3]; simp [pgB0]
          · by_cases h4 : pg = 178
            · rw [if_neg h0, if_neg h1, if_neg h2, if_neg h3, if_pos h4]; simp
            · rw [if_neg h0, if_neg h1, if_neg h2, if_neg h3, if_neg h4]; simp
  · rw [if_neg h]; simp
theorem cutL_all (xs : List Int) : cutL xs (xs.length : Int) = xs := by
  unfold cutL cutN
  rw [List.take_of_length_le]
  have : ¬ ((xs.length : Int) < 0) := by omega
  simp [this]
theorem keeps_call {H : Hp} {i : Inf} {pg : Int} (hs : i.wf) :
    ACalls Try.prog 3 [.agg #[.string (ofInts i.v), .string (ofInts i.p), .string (ofInts i.r), .string (ofInts i.s), .int .u8 i.prot], .int .u8 pg] H (fun v _ => v = .bool true) := by
  refine acallsW Try.func3 f3_ok (Nat.le_of_ble_eq_true rfl) fun hw => ?_
  have st : Stt [] H H [] := Stt.start hw
  unfold f3c
  show AWl _ _ _ _ _
  refine aBoxN st rfl rfl (by repeat constructor) rfl fun b2 H1 st => ?_
  refine aN rfl rfl (by constructor) ?_
  refine sE ?_
  show AWl _ _ _ _ _
  refine aC (awake_call) fun v12 H2 ⟨hv, st1⟩ => ?_
  subst hv
  replace st := st.call st1 rfl
  clear st1
  refine aN rfl rfl (by constructor) ?_
  refine sE ?_
  show AW _ (.cond _ _ _) _ _ _
  refine cF' rfl ?_
  show AWl _ _ _ _ _
  refine aLdA st 0 rfl rfl (by first | decide | simp [*]) (by repeat constructor) ?_
  refine aN rfl rfl (by constructor) ?_
  refine aC (page_call hs) fun v17 H3 ⟨ob17, hv, st1⟩ => ?_
  subst hv
  replace st := st.call st1 rfl
  clear st1
  refine aN rfl rfl (by constructor) ?_
  refine aExtA rfl rfl ?_
  refine aN rfl rfl (by constructor) ?_
  refine aMovA rfl ?_
  refine aN rfl rfl (by constructor) ?_
  refine sE ?_
  show AWl _ _ _ _ _
  refine aMovA rfl ?_
  refine aMovA rfl ?_
  refine aLen (st.rowAcc 0 rfl (by decide) (by simp)) rfl ?_
  refine aC (cut_call (st.rowAcc 0 rfl (by decide) (by simp)) (by have := pageL_len i pg; omega)) fun v23 H4 ⟨ob23, hv, st1⟩ => ?_
  subst hv
  replace st := st.call st1 rfl
  clear st1
  rw [cutL_all] at st
  rw [cutL_all]
  refine aMovA rfl ?_
  rcases Nat.eq_zero_or_pos (pageL i pg).length with hz | hz
  · refine sE ?_
    show AWl _ _ _ _ _
    refine aMovA rfl ?_
    refine aText (st.rowAcc 1 rfl (by decide) (by simp)) rfl ?_
    refine aN rfl rfl (by constructor) ?_
    refine sE ?_
    show AWl _ _ _ _ _
    refine aN rfl rfl (by constructor) ?_
    refine sE ?_
    show AW _ (.loop _) _ _ _
    refine AW_loopN (fun m t1 H1 => ∃ (j : Nat), m = 0 - j ∧ (j = 0) ∧ t1 9 = .int .i64 (j : Int) ∧ Stt [] H H1 [⟨ob23, true, ⟨true, 5, (pageL i pg).map (Value.int .u8)⟩⟩, ⟨ob17, true, ⟨true, 5, (pageL i pg).map (Value.int .u8)⟩⟩, ⟨some b2, true, ⟨true, 23, [.string (ofInts i.v), .string (ofInts i.p), .string (ofInts i.r), .string (ofInts i.s), .int .u8 i.prot]⟩⟩]) (0 - 0) ⟨0, rfl, by rfl, rfl, (st.sel [0, 1, 2] (by decide))⟩ [9, 26, 27, 28, 29, 30, 31, 32, 33, 34, 35, 36, 37, 38, 39] (by decide) ?_
    rintro m t1 H1 hk hI
    obtain ⟨j, rfl, hj, ht9, st⟩ := hI
    obtain ⟨u, rfl⟩ : ∃ u, t1 = (upd (mix [9, 26, 27, 28, 29, 30, 31, 32, 33, 34, 35, 36, 37, 38, 39] _ u) (some 9) _) := ⟨t1, by rw [← hk, upd_self ht9]⟩
    clear hk ht9
    show AWl _ _ _ _ _
    refine aN rfl rfl (by constructor) ?_
    refine aMovA rfl ?_
    refine aLen (st.rowAcc 0 rfl (by decide) (by simp)) rfl ?_
    refine aN rfl rfl (by constructor) ?_
    refine sE ?_
    show AW _ (.cond _ _ _) _ _ _
    refine cC' rfl (fun h5 => ?_) (fun h5 => ?_)
    · have hlt : j < (pageL i pg).length := by have := of_decide_eq_true h5; omega
      exact absurd hlt (by omega)
    · have hge : ¬ (j < (pageL i pg).length) := by have := of_decide_eq_false h5; omega
      show AWl _ _ _ _ _
      refine aLdA st 2 rfl rfl (by first | decide | simp [*]) (by repeat constructor) ?_
      refine aN rfl rfl (by constructor) ?_
      refine aC (page_call hs) fun v43 H6 ⟨ob43, hv, st1⟩ => ?_
      subst hv
      replace st := st.call st1 rfl
      clear st1
      refine aN rfl rfl (by constructor) ?_
      refine aExtA rfl rfl ?_
      refine aN rfl rfl (by constructor) ?_
      refine aMovA rfl ?_
      refine aN rfl rfl (by constructor) ?_
      refine sE ?_
      show AWl _ _ _ _ _
      refine aMovA rfl ?_
      refine aText (st.rowAcc 2 rfl (by decide) (by simp)) rfl ?_
      refine aN rfl rfl (by constructor) ?_
      refine aEqSS rfl rfl ?_
      refine aN rfl rfl (by constructor) ?_
      refine gT rfl ?_
      refine aMovA rfl ?_
      refine gT rfl ?_
      refine aText (st.rowAcc 0 rfl (by decide) (by simp)) rfl ?_
      refine gT rfl ?_
      refine aN rfl rfl (by constructor) ?_
      refine gT rfl ?_
      refine aEqSS rfl rfl ?_
      refine aN rfl rfl (by constructor) ?_
      refine aN rfl rfl (by constructor) ?_
      refine sE ?_
      refine ⟨_, out1 (r_tmp rfl (by constructor)), ?_⟩
      rfl
  · obtain ⟨bob23, rfl⟩ := st.isSome 0 rfl (by intro hc; rw [List.map_eq_nil_iff] at hc; rw [hc] at hz; exact absurd hz (by decide))
    obtain ⟨bob17, rfl⟩ := st.isSome 1 rfl (by intro hc; rw [List.map_eq_nil_iff] at hc; rw [hc] at hz; exact absurd hz (by decide))
    refine sE ?_
    show AWl _ _ _ _ _
    refine aN rfl rfl (by constructor) ?_
    refine aText (st.rowAll 1 rfl (by simp)) rfl ?_
    refine aN rfl rfl (by constructor) ?_
    refine sE ?_
    show AWl _ _ _ _ _
    refine aN rfl rfl (by constructor) ?_
    refine sE ?_
    show AW _ (.loop _) _ _ _
    refine AW_loopN (fun m t1 H1 => ∃ (j : Nat) (zs : List Int), m = (pageL i pg).length - j ∧ (j ≤ (pageL i pg).length) ∧ (zs.length = (pageL i pg).length) ∧ t1 9 = .int .i64 (j : Int) ∧ Stt [] H H1 [⟨some bob23, true, ⟨true, 5, zs.map (Value.int .u8)⟩⟩, ⟨some bob17, true, ⟨true, 5, (pageL i pg).map (Value.int .u8)⟩⟩, ⟨some b2, true, ⟨true, 23, [.string (ofInts i.v), .string (ofInts i.p), .string (ofInts i.r), .string (ofInts i.s), .int .u8 i.prot]⟩⟩]) ((pageL i pg).length - 0) ⟨0, (pageL i pg), rfl, Nat.zero_le _, rfl, rfl, (st.sel [0, 1, 2] (by decide))⟩ [9, 26, 27, 28, 29, 30, 31, 32, 33, 34, 35, 36, 37, 38, 39] (by decide) ?_
    rintro m t1 H1 hk hI
    obtain ⟨j, zs, rfl, hj, hzs, ht9, st⟩ := hI
    obtain ⟨u, rfl⟩ : ∃ u, t1 = (upd (mix [9, 26, 27, 28, 29, 30, 31, 32, 33, 34, 35, 36, 37, 38, 39] _ u) (some 9) _) := ⟨t1, by rw [← hk, upd_self ht9]⟩
    clear hk ht9
    show AWl _ _ _ _ _
    refine aN rfl rfl (by constructor) ?_
    refine aN rfl rfl (by constructor) ?_
    refine aN rfl rfl (by constructor) ?_
    refine aN rfl rfl (by constructor) ?_
    refine sE ?_
    show AW _ (.cond _ _ _) _ _ _
    refine cC' rfl (fun h7 => ?_) (fun h7 => ?_)
    · have hlt : j < (pageL i pg).length := by have := of_decide_eq_true h7; omega
      show AWl _ _ _ _ _
      refine aN rfl rfl (by constructor) ?_
      refine aN rfl rfl (by constructor) ?_
      refine aN rfl rfl (by constructor) ?_
      refine aN rfl rfl (by constructor) ?_
      refine aIxB (st.rowAll 0 rfl (by first | (simp; done) | (rw [List.length_map, hzs]; omega))) rfl rfl (by omega) fun b36 o36 g36 => ?_
      refine aLdG rfl g36 ?_
      refine aN rfl rfl (by constructor) ?_
      refine aIxL rfl rfl (by omega) ?_
      refine aStAt st 0 rfl rfl rfl rfl rfl (by rw [List.length_map, hzs]; omega) (cs := (zs.set j (IntKind.u8.wrap (zs.getD ((j : Int)).toNat 0 + 1))).map (Value.int .u8)) (by rw [List.map_set, show 0 + ((j : Int)).toNat * 1 = j by omega]; rfl) fun H8 st => ?_
      refine sE ?_
      show AWl _ _ _ _ _
      refine aN rfl rfl (by constructor) ?_
      refine aN rfl rfl (by constructor) ?_
      refine aN rfl rfl (by constructor) ?_
      refine sE ?_
      exact ⟨_, by omega, j + 1, _, rfl, by omega, by rw [List.length_set]; exact hzs, congrArg (Value.int .i64) (wi _ (by have := pageL_len i pg; omega)), (st.sel [0, 1, 2] (by decide))⟩
    · have hge : ¬ (j < (pageL i pg).length) := by have := of_decide_eq_false h7; omega
      show AWl _ _ _ _ _
      refine aLdA st 2 rfl rfl (by first | decide | simp [*]) (by repeat constructor) ?_
      refine aN rfl rfl (by constructor) ?_
      refine aC (page_call hs) fun v43 H9 ⟨ob43, hv, st1⟩ => ?_
      subst hv
      replace st := st.call st1 rfl
      clear st1
      refine aN rfl rfl (by constructor) ?_
      refine aExtA rfl rfl ?_
      refine aN rfl rfl (by constructor) ?_
      refine aMovA rfl ?_
      refine aN rfl rfl (by constructor) ?_
      refine sE ?_
      show AWl _ _ _ _ _
      refine aN rfl rfl (by constructor) ?_
      refine aText (st.rowAll 2 rfl (by first | (simp; done) | (rw [List.length_map, hzs]; omega))) rfl ?_
      refine aN rfl rfl (by constructor) ?_
      refine aEqSS rfl rfl ?_
      refine aN rfl rfl (by constructor) ?_
      refine gT rfl ?_
      refine aMovA rfl ?_
      refine gT rfl ?_
      refine aText (st.rowAcc 0 rfl (by decide) (by simp)) rfl ?_
      refine gT rfl ?_
      refine aN rfl rfl (by constructor) ?_
      refine gT rfl ?_
      refine aEqSS rfl rfl ?_
      refine aN rfl rfl (by constructor) ?_
      refine aN rfl rfl (by constructor) ?_
      refine sE ?_
      refine ⟨_, out1 (r_tmp rfl (by constructor)), ?_⟩
      rfl
end Go.Proofs.Ytaboppkelafoaaa.Abs
