/- Same. -/
import Derived.Test.YtbbdggmnjkkjkaaPK5
set_option linter.unusedVariables false
set_option linter.unusedSimpArgs false
set_option maxRecDepth 100000
namespace Go.Proofs.Ytbbdggmnjkkjkaa.Abs
open Go Go.RowKit
theorem enc_eq {b : Bk} (h : b.ok) : eqL [5, 5, 5, 5, 5, 5, 5, 5, 5, 5, 5, 5, 5, 5, 5, 5, 5, 5, 5] b.enc b.enc = some true := by
  have : ∀ us : List Value, (∀ u ∈ us, ∃ k n, u = .int k n) → eqL (List.replicate us.length 5) us us = some true := by
    intro us
    induction us with
    | nil => intro _; rfl
    | cons u us ih =>
      intro hu
      obtain ⟨k, n, rfl⟩ := hu u (by simp)
      have := ih fun x hx => hu x (List.mem_cons_of_mem _ hx)
      simp [eqL, eqV, List.replicate_succ, this]
  have h2 := this b.enc (fun u hu => by
    unfold Bk.enc blk at hu
    rcases List.mem_append.1 hu with hu | hu
    · obtain ⟨n, _, rfl⟩ := List.mem_map.1 hu; exact ⟨_, _, rfl⟩
    · simp at hu
      rcases hu with rfl | rfl | rfl <;> exact ⟨_, _, rfl⟩)
  rw [Bk_len h] at h2
  exact h2
theorem same_call {H : Hp} {bs : List Bk} {x y : Value} (hx : Sl H 19 bs.length (encs bs) x) (hy : Sl H 19 bs.length (encs bs) y) (hb : BksOk bs) (hl : bs.length ≤ 140737488351232) :
    ACalls Try.prog 16 [x, y] H (fun v H' => v = .bool true ∧ Stt [] H H' []) := by
  refine acallsW Try.func16 f16_ok (Nat.le_of_ble_eq_true rfl) fun hw => ?_
  have st : Stt [] H H [] := Stt.start hw
  unfold f16c
  show AWl _ _ _ _ _
  refine aN rfl rfl (by constructor) ?_
  refine sE ?_
  show AWl _ _ _ _ _
  refine aMovV x rfl ?_
  refine aLen (st.slc hx) rfl ?_
  refine aMovV y rfl ?_
  refine aLen (st.slc hy) rfl ?_
  refine aN rfl rfl (by constructor) ?_
  refine sE ?_
  show AW _ (.cond _ _ _) _ _ _
  refine cC' rfl (fun h1 => ?_) (fun h1 => ?_)
  · exact absurd h1 (by simp)
  · show AWl _ _ _ _ _
    refine aN rfl rfl (by constructor) ?_
    refine sE ?_
    show AW _ (.loop _) _ _ _
    refine AW_loopN (fun m t1 H1 => ∃ (j : Nat), m = bs.length - j ∧ j ≤ bs.length ∧ t1 5 = .int .i64 (j : Int) ∧ Stt [] H H1 []) (bs.length - 0) ⟨0, rfl, by omega, rfl, (st.sel [] (by decide))⟩ [4, 5, 11, 12, 13, 14, 15, 16, 17, 18, 19, 20, 21, 22, 23, 24, 25] (by decide) ?_
    rintro m t1 H1 hk hI
    obtain ⟨j, rfl, hf0, ht5, st⟩ := hI
    obtain ⟨u, rfl⟩ : ∃ u, t1 = (upd (mix [4, 5, 11, 12, 13, 14, 15, 16, 17, 18, 19, 20, 21, 22, 23, 24, 25] _ u) (some 5) _) := ⟨t1, by rw [← hk, upd_self ht5]⟩
    clear hk ht5
    show AWl _ _ _ _ _
    refine aN rfl rfl (by constructor) ?_
    refine aMovV x rfl ?_
    refine aLen (st.slc hx) rfl ?_
    refine aN rfl rfl (by constructor) ?_
    refine sE ?_
    show AW _ (.cond _ _ _) _ _ _
    refine cC' rfl (fun h2 => ?_) (fun h2 => ?_)
    · have hlt : j < bs.length := by have := of_decide_eq_true h2; omega
      have hbj := hb _ (List.getElem_mem hlt)
      show AWp _ _ _ _ _
      refine aMovV x rfl ?_
      refine aN rfl rfl (by constructor) ?_
      refine aIx (st.slc hx) rfl rfl (by omega) fun b19 o19 g19 => ?_
      rw [show ((j : Int)).toNat = j from rfl, encs_get hb hlt] at g19
      refine aLdAG rfl g19 ?_
      refine aMovV y rfl ?_
      refine aN rfl rfl (by constructor) ?_
      refine aIx (st.slc hy) rfl rfl (by omega) fun b23 o23 g23 => ?_
      rw [show ((j : Int)).toNat = j from rfl, encs_get hb hlt] at g23
      refine aLdAG rfl g23 ?_
      refine aEqAV true rfl rfl (enc_eq hbj) ?_
      refine pE ?_
      show AW _ (.cond _ _ _) _ _ _
      refine cF' rfl ?_
      show AWl _ _ _ _ _
      refine aN rfl rfl (by constructor) ?_
      refine aN rfl rfl (by constructor) ?_
      refine aN rfl rfl (by constructor) ?_
      refine sE ?_
      exact ⟨_, by omega, j + 1, rfl, by omega, congrArg (Value.int .i64) (wi _ (by omega)), (st.sel [] (by decide))⟩
    · show AWl _ _ _ _ _
      refine aN rfl rfl (by constructor) ?_
      refine sE ?_
      refine ⟨_, out1 (r_tmp rfl (by constructor)), ?_⟩
      exact ⟨rfl, st.drop⟩
end Go.Proofs.Ytbbdggmnjkkjkaa.Abs
