/- Reservations: types, keys. -/
import Derived.Test.YtihkghfmihdicaaT0
set_option linter.unusedVariables false
set_option linter.unusedSimpArgs false
set_option maxRecDepth 100000
namespace Go.Proofs.Ytihkghfmihdicaa.Abs
open Go Go.RowKit
theorem all_call {H : Hp} {k : Int}  :
    ACalls Try.prog 19 [.int .u8 k] H (fun v H' => v = .bool (allB k) ∧ Stt [] H H' []) := by
  refine acallsW Try.func19 f19_ok (Nat.le_of_ble_eq_true rfl) fun hw => ?_
  have st : Stt [] H H [] := Stt.start hw
  unfold f19c
  show AWl _ _ _ _ _
  refine aN rfl rfl (by constructor) ?_
  refine sE ?_
  show AWl _ _ _ _ _
  refine aN rfl rfl (by constructor) ?_
  refine aN rfl rfl (by constructor) ?_
  refine aN rfl rfl (by constructor) ?_
  refine gCase 5 rfl (fun h1 => ?_) (fun h1 => ?_)
  · refine gF rfl (by decide) ?_
    refine gF rfl (by decide) ?_
    refine aN rfl rfl (by constructor) ?_
    refine aN rfl rfl (by constructor) ?_
    refine sE ?_
    refine ⟨_, out1 (r_tmp rfl (by constructor)), ?_⟩
    refine ⟨congrArg Value.bool ?_, st.drop⟩
    unfold allB; simp_all
  · refine gT rfl ?_
    refine aN rfl rfl (by constructor) ?_
    refine gT rfl ?_
    refine aN rfl rfl (by constructor) ?_
    refine aN rfl rfl (by constructor) ?_
    refine aN rfl rfl (by constructor) ?_
    refine sE ?_
    refine ⟨_, out1 (r_tmp rfl (by constructor)), ?_⟩
    refine ⟨congrArg Value.bool ?_, st.drop⟩
    unfold allB; simp_all
theorem types_call {H : Hp} {k : Int}  :
    ACalls Try.prog 20 [.int .u8 k] H (fun v H' => v = .bool (typeB k) ∧ Stt [] H H' []) := by
  refine acallsW Try.func20 f20_ok (Nat.le_of_ble_eq_true rfl) fun hw => ?_
  have st : Stt [] H H [] := Stt.start hw
  unfold f20c
  show AWl _ _ _ _ _
  refine aN rfl rfl (by constructor) ?_
  refine sE ?_
  show AWl _ _ _ _ _
  refine aN rfl rfl (by constructor) ?_
  refine aN rfl rfl (by constructor) ?_
  refine aN rfl rfl (by constructor) ?_
  refine gCase 5 rfl (fun h1 => ?_) (fun h1 => ?_)
  · refine gF rfl (by decide) ?_
    refine gF rfl (by decide) ?_
    refine aN rfl rfl (by constructor) ?_
    refine aN rfl rfl (by constructor) ?_
    refine gF rfl (by decide) ?_
    refine gF rfl (by decide) ?_
    refine gF rfl (by decide) ?_
    refine gU rfl ?_
    refine gU rfl ?_
    refine gF rfl (by decide) ?_
    refine aN rfl rfl (by constructor) ?_
    refine aN rfl rfl (by constructor) ?_
    refine sE ?_
    refine ⟨_, out1 (r_tmp rfl (by constructor)), ?_⟩
    refine ⟨congrArg Value.bool ?_, st.drop⟩
    unfold typeB; simp_all <;> omega
  · refine gT rfl ?_
    refine aN rfl rfl (by constructor) ?_
    refine gT rfl ?_
    refine aN rfl rfl (by constructor) ?_
    refine aN rfl rfl (by constructor) ?_
    refine aN rfl rfl (by constructor) ?_
    refine gCase 9 rfl (fun h2 => ?_) (fun h2 => ?_)
    · refine gF rfl (by decide) ?_
      refine gF rfl (by decide) ?_
      refine gF rfl (by decide) ?_
      refine gU rfl ?_
      refine gU rfl ?_
      refine gF rfl (by decide) ?_
      refine aN rfl rfl (by constructor) ?_
      refine aN rfl rfl (by constructor) ?_
      refine sE ?_
      refine ⟨_, out1 (r_tmp rfl (by constructor)), ?_⟩
      refine ⟨congrArg Value.bool ?_, st.drop⟩
      unfold typeB; simp_all <;> omega
    · refine gT rfl ?_
      refine aN rfl rfl (by constructor) ?_
      refine gT rfl ?_
      refine aN rfl rfl (by constructor) ?_
      refine gT rfl ?_
      refine aN rfl rfl (by constructor) ?_
      refine gCase 12 rfl (fun h3 => ?_) (fun h3 => ?_)
      · refine gT rfl ?_
        refine aN rfl rfl (by constructor) ?_
        refine gT rfl ?_
        refine aN rfl rfl (by constructor) ?_
        refine gT rfl ?_
        refine aN rfl rfl (by constructor) ?_
        refine aN rfl rfl (by constructor) ?_
        refine aN rfl rfl (by constructor) ?_
        refine sE ?_
        refine ⟨_, out1 (r_tmp rfl (by constructor)), ?_⟩
        refine ⟨congrArg Value.bool ?_, st.drop⟩
        unfold typeB; simp_all <;> omega
      · refine gF rfl (by decide) ?_
        refine gF rfl (by decide) ?_
        refine gT rfl ?_
        refine aN rfl rfl (by constructor) ?_
        refine aN rfl rfl (by constructor) ?_
        refine aN rfl rfl (by constructor) ?_
        refine sE ?_
        refine ⟨_, out1 (r_tmp rfl (by constructor)), ?_⟩
        refine ⟨congrArg Value.bool ?_, st.drop⟩
        unfold typeB; simp_all <;> omega
theorem key_call {H : Hp} {b : Nat} {x : Value} {P : PT} {n : Int} (hk : H.m b = some ⟨true, 79, [x, .int .u32 P.gen, .int .u8 P.kind, .int .i64 P.holder, .bool P.aptpl]⟩) (hS : Sl H 2 P.regs.length (P.regs.flatMap regE) x) (hn : P.regs.length ≤ 1000) :
    ACalls Try.prog 29 [.pointer (some ⟨b, 0, none⟩), .int .i64 n] H (fun v H' => v = .tuple #[.int .u64 (keyM P.regs n).1, .bool (keyM P.regs n).2] ∧ Stt [] H H' []) := by
  refine acallsW Try.func29 f29_ok (Nat.le_of_ble_eq_true rfl) fun hw => ?_
  have st : Stt [] H H [] := Stt.start hw
  replace st := st.ro hk (by simp)
  unfold f29c
  show AWl _ _ _ _ _
  refine aN rfl rfl (by constructor) ?_
  refine aN rfl rfl (by constructor) ?_
  refine sE ?_
  show AWl _ _ _ _ _
  refine aN rfl rfl (by constructor) ?_
  refine aN rfl rfl (by constructor) ?_
  refine aN rfl rfl (by constructor) ?_
  refine aLdQ st 0 rfl rfl rfl (rfl : x = _) ?_
  refine aLen (st.slc hS) rfl ?_
  refine aN rfl rfl (by constructor) ?_
  refine sE ?_
  show AW _ (.loop _) _ _ _
  refine AW_loopN (fun m t1 H1 => ∃ (j : Nat), m = P.regs.length - j ∧ (j ≤ P.regs.length) ∧ (∀ i, i < j → (P.regs.getD i (0, 0)).1 ≠ n) ∧ t1 13 = .int .i64 (j : Int) ∧ Stt [] H H1 []) (P.regs.length - 0) ⟨0, rfl, by omega, fun i hi => by omega, rfl, (st.sel [] (by decide))⟩ [4, 5, 7, 13, 14, 15, 16, 17, 18, 19, 20, 21, 22, 23] (by decide) ?_
  rintro m t1 H1 hk hI
  obtain ⟨j, rfl, hj, hno, ht13, st⟩ := hI
  obtain ⟨u, rfl⟩ : ∃ u, t1 = (upd (mix [4, 5, 7, 13, 14, 15, 16, 17, 18, 19, 20, 21, 22, 23] _ u) (some 13) _) := ⟨t1, by rw [← hk, upd_self ht13]⟩
  clear hk ht13
  show AWl _ _ _ _ _
  refine aN rfl rfl (by constructor) ?_
  refine sE ?_
  show AW _ (.cond _ _ _) _ _ _
  refine cC' rfl (fun h1 => ?_) (fun h1 => ?_)
  · have hlt : j < P.regs.length := by have := of_decide_eq_true h1; omega
    show AWl _ _ _ _ _
    refine aIxE regE_len (0, 0) (l := P.regs) (st.slc hS) rfl rfl (by omega) fun b15 o15 g15 => ?_
    refine aLdAG rfl g15 ?_
    refine aNewP st rfl rfl (by repeat constructor) fun b7 H2 st => ?_
    refine aSt st 0 rfl rfl rfl rfl (by first | rfl | simp [cellsOf, *]) (by first | decide | simp [*]) (by repeat constructor) fun H3 st => ?_
    refine sE ?_
    show AWl _ _ _ _ _
    refine aN rfl rfl (by constructor) ?_
    refine aLd st 0 rfl rfl rfl (by constructor) ?_
    refine aN rfl rfl (by constructor) ?_
    refine aN rfl rfl (by constructor) ?_
    refine sE ?_
    show AW _ (.cond _ _ _) _ _ _
    refine cC' rfl (fun h4 => ?_) (fun h4 => ?_)
    · have hq : (P.regs.getD j (0, 0)).1 = n := by simpa using h4
      show AWl _ _ _ _ _
      refine aN rfl rfl (by constructor) ?_
      refine aLd st 0 rfl rfl rfl (by constructor) ?_
      refine aN rfl rfl (by constructor) ?_
      refine aN rfl rfl (by constructor) ?_
      refine sE ?_
      refine ⟨_, out2 (r_tmp rfl (by constructor)) (r_tmp rfl (by constructor)) ⟨rfl, rfl⟩, ?_⟩
      exact ⟨by rw [keyM_at hlt hno hq]; rfl, st.drop⟩
    · have hq : (P.regs.getD j (0, 0)).1 ≠ n := by simpa using h4
      show AWl _ _ _ _ _
      refine aN rfl rfl (by constructor) ?_
      refine aN rfl rfl (by constructor) ?_
      refine sE ?_
      exact ⟨_, by omega, j + 1, rfl, by omega, fun i hi => by { rcases Nat.lt_succ_iff_lt_or_eq.1 hi with h | h; exact hno i h; subst h; exact hq }, congrArg (Value.int .i64) (wi _ (by omega)), (st.sel [] (by decide))⟩
  · have hge : j = P.regs.length := by have := of_decide_eq_false h1; omega
    subst hge
    show AWl _ _ _ _ _
    refine aN rfl rfl (by constructor) ?_
    refine aN rfl rfl (by constructor) ?_
    refine sE ?_
    refine ⟨_, out2 (r_tmp rfl (by constructor)) (r_tmp rfl (by constructor)) ⟨rfl, rfl⟩, ?_⟩
    exact ⟨by rw [keyM_no hno], st.drop⟩
end Go.Proofs.Ytihkghfmihdicaa.Abs
