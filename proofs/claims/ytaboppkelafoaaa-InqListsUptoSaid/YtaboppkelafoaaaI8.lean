/- Inq: cuts, awake. -/
import Derived.Test.YtaboppkelafoaaaI7
set_option linter.unusedVariables false
set_option linter.unusedSimpArgs false
set_option maxRecDepth 100000
namespace Go.Proofs.Ytaboppkelafoaaa.Abs
open Go Go.RowKit
theorem rcut_call {H : Hp} {xs : List Int} {x : Value} {n : Int} (hx : Sl H 1 xs.length (xs.map (Value.int .u8)) x) (hl : xs.length ≤ 140737488351232) :
    ACalls Try.prog 12 [x, .int .i64 n] H (fun v H' => Sl H' 1 (cutL xs n).length ((cutL xs n).map (Value.int .u8)) v ∧ Stt [] H H' []) := by
  refine acallsW Try.func12 f12_ok (Nat.le_of_ble_eq_true rfl) fun hw => ?_
  have st : Stt [] H H [] := Stt.start hw
  unfold f12c
  show AWl _ _ _ _ _
  refine aN rfl rfl (by constructor) ?_
  refine sE ?_
  show AWl _ _ _ _ _
  refine aN rfl rfl (by constructor) ?_
  refine aN rfl rfl (by constructor) ?_
  refine sE ?_
  show AW _ (.cond _ _ _) _ _ _
  refine cC' rfl (fun h1 => ?_) (fun h1 => ?_)
  · show AWl _ _ _ _ _
    refine aN rfl rfl (by constructor) ?_
    refine sE ?_
    show AWl _ _ _ _ _
    refine aN rfl rfl (by constructor) ?_
    refine aMovV x rfl ?_
    refine aLen (st.slc hx) rfl ?_
    refine aN rfl rfl (by constructor) ?_
    refine sE ?_
    show AW _ (.cond _ _ _) _ _ _
    refine cC' rfl (fun h2 => ?_) (fun h2 => ?_)
    · show AWl _ _ _ _ _
      refine aMovV x rfl ?_
      refine aLen (st.slc hx) rfl ?_
      refine aN rfl rfl (by constructor) ?_
      refine sE ?_
      show AWl _ _ _ _ _
      refine aMovV x rfl ?_
      refine aN rfl rfl (by constructor) ?_
      have q1 := of_decide_eq_true h1; have q2 := of_decide_eq_true h2
      refine aCutH (st.slc hx) rfl rfl (by omega) fun v15 s15 => ?_
      replace s15 := s15 _ hx
      have e : ((xs.length : Int)).toNat = cutN xs n := by unfold cutN; rw [if_pos q1]; split <;> omega
      rw [e] at s15
      refine aMovV v15 rfl ?_
      refine sE ?_
      refine ⟨_, out1 (r_val v15 rfl), ?_⟩
      exact ⟨by unfold cutL; rw [List.length_take, Nat.min_eq_left (cutN_le xs n)]; exact st.slc s15, st.drop⟩
    · show AWl _ _ _ _ _
      refine aMovV x rfl ?_
      refine aN rfl rfl (by constructor) ?_
      have q1 := of_decide_eq_true h1; have q2 := of_decide_eq_false h2
      refine aCutH (st.slc hx) rfl rfl (by omega) fun v15 s15 => ?_
      replace s15 := s15 _ hx
      have e : ((0 : Int)).toNat = cutN xs n := by unfold cutN; rw [if_pos q1]; split <;> omega
      rw [e] at s15
      refine aMovV v15 rfl ?_
      refine sE ?_
      refine ⟨_, out1 (r_val v15 rfl), ?_⟩
      exact ⟨by unfold cutL; rw [List.length_take, Nat.min_eq_left (cutN_le xs n)]; exact st.slc s15, st.drop⟩
  · show AWl _ _ _ _ _
    refine aN rfl rfl (by constructor) ?_
    refine aMovV x rfl ?_
    refine aLen (st.slc hx) rfl ?_
    refine aN rfl rfl (by constructor) ?_
    refine sE ?_
    show AW _ (.cond _ _ _) _ _ _
    refine cC' rfl (fun h3 => ?_) (fun h3 => ?_)
    · show AWl _ _ _ _ _
      refine aMovV x rfl ?_
      refine aLen (st.slc hx) rfl ?_
      refine aN rfl rfl (by constructor) ?_
      refine sE ?_
      show AWl _ _ _ _ _
      refine aMovV x rfl ?_
      refine aN rfl rfl (by constructor) ?_
      have q1 := of_decide_eq_false h1; have q2 := of_decide_eq_true h3
      refine aCutH (st.slc hx) rfl rfl (by omega) fun v15 s15 => ?_
      replace s15 := s15 _ hx
      have e : ((xs.length : Int)).toNat = cutN xs n := by unfold cutN; rw [if_neg q1]; split <;> omega
      rw [e] at s15
      refine aMovV v15 rfl ?_
      refine sE ?_
      refine ⟨_, out1 (r_val v15 rfl), ?_⟩
      exact ⟨by unfold cutL; rw [List.length_take, Nat.min_eq_left (cutN_le xs n)]; exact st.slc s15, st.drop⟩
    · show AWl _ _ _ _ _
      refine aMovV x rfl ?_
      refine aN rfl rfl (by constructor) ?_
      have q1 := of_decide_eq_false h1; have q2 := of_decide_eq_false h3
      refine aCutH (st.slc hx) rfl rfl (by omega) fun v15 s15 => ?_
      replace s15 := s15 _ hx
      have e : (n).toNat = cutN xs n := by unfold cutN; rw [if_neg q1]; split <;> omega
      rw [e] at s15
      refine aMovV v15 rfl ?_
      refine sE ?_
      refine ⟨_, out1 (r_val v15 rfl), ?_⟩
      exact ⟨by unfold cutL; rw [List.length_take, Nat.min_eq_left (cutN_le xs n)]; exact st.slc s15, st.drop⟩
theorem page0_call {H : Hp} : ACalls Try.prog 8 [.agg #[.string ⟨#[]⟩, .string ⟨#[]⟩, .string ⟨#[]⟩, .string ⟨#[83, 48]⟩, .int .u8 0], .int .u8 128] H (fun v H' => ∃ b, v = .tuple #[.slice (some ⟨b, 0, none⟩) 6 1, .bool true] ∧ Stt [] H H' [⟨some b, true, ⟨true, 5, [.int .u8 0, .int .u8 128, .int .u8 0, .int .u8 2, .int .u8 83, .int .u8 48]⟩⟩]) := by
  refine (page_call (i := (⟨[], [], [], [83, 48], 0⟩ : Inf)) (pg := 128) (by refine ⟨⟨?_, by decide⟩, ⟨?_, by decide⟩, ⟨?_, by decide⟩, ⟨?_, by decide⟩, by decide, by decide⟩ <;> simp only [byteL_cons, byteL_nil, and_true] <;> decide)).mono fun v H' ⟨ob, hv, st⟩ => ?_
  have hL : pageL (⟨[], [], [], [83, 48], 0⟩ : Inf) 128 = [0, 128, 0, 2, 83, 48] := by decide
  have hR : (pageR (⟨[], [], [], [83, 48], 0⟩ : Inf) 128).isSome = true := by decide
  rw [hL, hR] at hv
  rw [hL] at st
  obtain ⟨b, rfl⟩ := st.isSome 0 rfl (by simp)
  exact ⟨b, hv, st⟩
theorem awake_call {H : Hp}  :
    ACalls Try.prog 7 [] H (fun v H' => v = .bool true ∧ Stt [] H H' []) := by
  refine acallsW Try.func7 f7_ok (Nat.le_of_ble_eq_true rfl) fun hw => ?_
  have st : Stt [] H H [] := Stt.start hw
  unfold f7c
  show AWl _ _ _ _ _
  refine aN rfl rfl (by constructor) ?_
  refine sE ?_
  show AWl _ _ _ _ _
  refine aBld rfl (by repeat constructor) ?_
  refine aC (page0_call) fun v5 H1 ⟨b5, hv, st1⟩ => ?_
  subst hv
  replace st := st.call st1 rfl
  clear st1
  refine aN rfl rfl (by constructor) ?_
  refine aN rfl rfl (by constructor) ?_
  refine aN rfl rfl (by constructor) ?_
  refine aN rfl rfl (by constructor) ?_
  refine aN rfl rfl (by constructor) ?_
  refine sE ?_
  show AWl _ _ _ _ _
  refine aN rfl rfl (by constructor) ?_
  refine aN rfl rfl (by constructor) ?_
  refine gT rfl ?_
  refine aN rfl rfl (by constructor) ?_
  refine gT rfl ?_
  have st := st.toI 0 rfl rfl (by repeat constructor)
  refine aText (st.rowAll 0 rfl (rfl)) rfl ?_
  refine gT rfl ?_
  refine aEqSS (u := ofInts [0, 128, 0, 2, 83, 48]) rfl rfl ?_
  refine aN rfl rfl (by constructor) ?_
  refine aN rfl rfl (by constructor) ?_
  refine sE ?_
  refine ⟨_, out1 (r_tmp rfl (by constructor)), ?_⟩
  exact ⟨rfl, st.drop⟩
end Go.Proofs.Ytaboppkelafoaaa.Abs
