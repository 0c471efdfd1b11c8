/- Pack. -/
import Derived.Test.YtbbdggmnjkkjkaaPK0
set_option linter.unusedVariables false
set_option linter.unusedSimpArgs false
set_option maxRecDepth 100000
namespace Go.Proofs.Ytbbdggmnjkkjkaa.Abs
open Go Go.RowKit
theorem enc_take {b : Bk} (h : b.ok) : (b.enc.drop (0 + 0 + 0 * 1)).take (16 * 1) = b.d.map (Value.int .u8) := by
  rw [show (0 + 0 + 0 * 1 : Nat) = 0 from rfl, List.drop_zero]
  unfold Bk.enc blk
  rw [List.take_left' (by simp [h.1])]
theorem enc_tail {b : Bk} (h : b.ok) : (b.enc.drop (0 + 16)).take 3 = [.int .u16 b.g, .int .u16 b.a, .int .u32 b.r] := by
  unfold Bk.enc blk
  rw [List.drop_left' (by simp [h.1])]
  rfl
theorem pack_call {H : Hp} {bs : List Bk} {x : Value} {w : Bool} (hx : Sl H 19 bs.length (encs bs) x) (hb : BksOk bs) (hl : bs.length * 24 ≤ 140737488351232) :
    ACalls Try.prog 12 [x, .bool w] H (fun v H' => ∃ ob, v = accV ob (pkL w bs).length 1 ∧ Stt [] H H' [⟨ob, true, ⟨true, 5, (pkL w bs).map (Value.int .u8)⟩⟩]) := by
  refine acallsW Try.func12 f12_ok (Nat.le_of_ble_eq_true rfl) fun hw => ?_
  have st : Stt [] H H [] := Stt.start hw
  unfold f12c
  show AWl _ _ _ _ _
  refine aN rfl rfl (by constructor) ?_
  refine sE ?_
  show AWl _ _ _ _ _
  refine aN rfl rfl (by constructor) ?_
  refine sE ?_
  show AWl _ _ _ _ _
  refine aMovV x rfl ?_
  refine aLen (st.slc hx) rfl ?_
  refine aN rfl rfl (by constructor) ?_
  refine sE ?_
  show AW _ (.loop _) _ _ _
  have st := st.nil 5
  refine AW_loopN (fun m t1 H1 => ∃ (j : Nat) (ob : Option Nat), m = bs.length - j ∧ j ≤ bs.length ∧ t1 5 = accV ob (pkL w (bs.take j)).length 1 ∧ t1 11 = .int .i64 (j : Int) ∧ Stt [] H H1 [⟨ob, true, ⟨true, 5, (pkL w (bs.take j)).map (Value.int .u8)⟩⟩]) (bs.length - 0) ⟨0, none, rfl, by omega, rfl, rfl, (st.sel [0] (by decide))⟩ [5, 7, 8, 11, 12, 13, 14, 15, 16, 17, 18, 19, 20, 21, 22, 23, 24, 25, 26, 27, 28, 29, 30, 31, 32, 33, 34, 35, 36, 37, 38, 39, 40, 41, 42, 43, 44, 45, 46, 47, 48, 49, 50, 51, 52, 53, 54] (by decide) ?_
  rintro m t1 H1 hk hI
  obtain ⟨j, ob, rfl, hf0, ht5, ht11, st⟩ := hI
  obtain ⟨u, rfl⟩ : ∃ u, t1 = (upd (upd (mix [5, 7, 8, 11, 12, 13, 14, 15, 16, 17, 18, 19, 20, 21, 22, 23, 24, 25, 26, 27, 28, 29, 30, 31, 32, 33, 34, 35, 36, 37, 38, 39, 40, 41, 42, 43, 44, 45, 46, 47, 48, 49, 50, 51, 52, 53, 54] _ u) (some 5) _) (some 11) _) := ⟨t1, by rw [← hk, upd_self ht5, upd_self ht11]⟩
  clear hk ht5 ht11
  show AWl _ _ _ _ _
  refine aN rfl rfl (by constructor) ?_
  refine sE ?_
  show AW _ (.cond _ _ _) _ _ _
  refine cC' rfl (fun h1 => ?_) (fun h1 => ?_)
  · have hlt : j < bs.length := by have := of_decide_eq_true h1; omega
    have hbj := hb _ (List.getElem_mem hlt)
    have hbt : BksOk (bs.take j) := fun b hm => hb b (List.mem_of_mem_take hm)
    have hstep := pkL_take (w := w) hlt
    show AWl _ _ _ _ _
    refine aIx (st.slc hx) rfl rfl (by omega) fun b13 o13 g13 => ?_
    rw [show ((j : Int)).toNat = j from rfl, encs_get hb hlt] at g13
    refine aLdAG rfl g13 ?_
    refine aNewP st rfl rfl (by repeat constructor) fun b7 H2 st => ?_
    refine aStAllA st 0 rfl rfl rfl (Bk_len hbj) (rfl) fun H3 st => ?_
    refine sE ?_
    show AWl _ _ _ _ _
    refine aMovA rfl ?_
    refine aN rfl rfl (by constructor) ?_
    refine aN rfl rfl (by constructor) ?_
    refine aAppP st 1 (ob := ob) rfl rfl rfl (by decide) (by simp) (st.row (n := 16) (sz := 1) (c := 0) 0 rfl (by rw [Bk_len hbj]; omega) (enc_take hbj)).src (by simp [Bk_len hbj, hbj.1]) (by have := pkL_len (w := w) (bs := bs.take j) hbt; simp only [List.length_take] at this; split at this <;> omega) (by have := pkL_len (w := w) (bs := bs.take j) hbt; simp only [List.length_take] at this; split at this <;> omega) (by have := pkL_len (w := w) (bs := bs.take j) hbt; simp only [List.length_take] at this; split at this <;> omega) (NfL.any _) fun b18 H4 st => ?_
    refine aN rfl rfl (by constructor) ?_
    refine sE ?_
    show AWl _ _ _ _ _
    refine aN rfl rfl (by constructor) ?_
    refine sE ?_
    show AW _ (.cond _ _ _) _ _ _
    refine cC' rfl (fun h5 => ?_) (fun h5 => ?_)
    · have hwb : w = true := h5
      show AWl _ _ _ _ _
      refine aN rfl rfl (by constructor) ?_
      refine aLdA (xs := [.int .u16 bs[j].g, .int .u16 bs[j].a, .int .u32 bs[j].r]) st 0 rfl rfl (by rw [Bk_len hbj]; omega) (by rw [enc_tail hbj]; exact NfL.any _) ?_
      refine aNewP st rfl rfl (by repeat constructor) fun b8 H6 st => ?_
      refine aSt st 0 rfl rfl rfl rfl (by first | rfl | simp [cellsOf, *]) (by first | decide | simp [*]) (by repeat constructor) fun H7 st => ?_
      refine sE ?_
      show AWl _ _ _ _ _
      refine aN rfl rfl (by constructor) ?_
      refine aN rfl rfl (by constructor) ?_
      refine aLd st 0 rfl rfl rfl (by constructor) ?_
      refine aN rfl rfl (by constructor) ?_
      refine aN rfl rfl (by constructor) ?_
      refine aN rfl rfl (by constructor) ?_
      refine aLd st 0 rfl rfl rfl (by constructor) ?_
      refine aN rfl rfl (by constructor) ?_
      refine aN rfl rfl (by constructor) ?_
      refine aLd st 0 rfl rfl rfl (by constructor) ?_
      refine aN rfl rfl (by constructor) ?_
      refine aN rfl rfl (by constructor) ?_
      refine aN rfl rfl (by constructor) ?_
      refine aLd st 0 rfl rfl rfl (by constructor) ?_
      refine aN rfl rfl (by constructor) ?_
      refine aN rfl rfl (by constructor) ?_
      refine aLd st 0 rfl rfl rfl (by constructor) ?_
      refine aN rfl rfl (by constructor) ?_
      refine aN rfl rfl (by constructor) ?_
      refine aN rfl rfl (by constructor) ?_
      refine aLd st 0 rfl rfl rfl (by constructor) ?_
      refine aN rfl rfl (by constructor) ?_
      refine aN rfl rfl (by constructor) ?_
      refine aN rfl rfl (by constructor) ?_
      refine aLd st 0 rfl rfl rfl (by constructor) ?_
      refine aN rfl rfl (by constructor) ?_
      refine aN rfl rfl (by constructor) ?_
      refine aN rfl rfl (by constructor) ?_
      refine aLd st 0 rfl rfl rfl (by constructor) ?_
      refine aN rfl rfl (by constructor) ?_
      refine aLit st rfl (by repeat constructor) fun b52 H8 st => ?_
      refine aAppP st 3 (ob := some b18) rfl rfl rfl (by decide) (by simp [hbj.1]) (st.rowAll 0 rfl (by first | rfl | (simp [beB_len, *]; done) | (simp [beB_len, *]; omega))).src (rfl) (by have := pkL_len (w := w) (bs := bs.take j) hbt; simp only [List.length_take] at this; split at this <;> omega) (by have := pkL_len (w := w) (bs := bs.take j) hbt; simp only [List.length_take] at this; split at this <;> omega) (by have := pkL_len (w := w) (bs := bs.take j) hbt; simp only [List.length_take] at this; split at this <;> omega) (NfL.any _) fun b53 H9 st => ?_
      refine aN rfl rfl (by constructor) ?_
      refine sE ?_
      show AWl _ _ _ _ _
      refine aN rfl rfl (by constructor) ?_
      refine aN rfl rfl (by constructor) ?_
      refine sE ?_
      exact ⟨_, by omega, j + 1, some b53, rfl, by omega, congrArg (fun n => accV (some _) n 1) (by rw [hstep]; simp [pkB, hbj.1, beB_len, hwb]), congrArg (Value.int .i64) (wi _ (by omega)), (by have st2 := (st.sel [3] (by decide)); rw [hstep]; simpa [pkB, hwb, be2 hbj.2.2.1, be2 hbj.2.2.2.1, be4 hbj.2.2.2.2] using st2)⟩
    · have hwb : w = false := h5
      show AWl _ _ _ _ _
      refine aN rfl rfl (by constructor) ?_
      refine aN rfl rfl (by constructor) ?_
      refine sE ?_
      exact ⟨_, by omega, j + 1, some b18, rfl, by omega, congrArg (fun n => accV (some _) n 1) (by rw [hstep]; simp [pkB, hbj.1, beB_len, hwb]), congrArg (Value.int .i64) (wi _ (by omega)), (by have st2 := (st.sel [1] (by decide)); rw [hstep]; simpa [pkB, hwb, be2 hbj.2.2.1, be2 hbj.2.2.2.1, be4 hbj.2.2.2.2] using st2)⟩
  · have hge : j = bs.length := by have := of_decide_eq_false h1; omega
    subst hge
    show AWl _ _ _ _ _
    refine aMovA rfl ?_
    refine aMovA rfl ?_
    refine sE ?_
    refine ⟨_, out1 (r_acc rfl), ?_⟩
    rw [List.take_length] at st ⊢; exact ⟨ob, rfl, by simpa using st.pick 0 rfl⟩
end Go.Proofs.Ytbbdggmnjkkjkaa.Abs
