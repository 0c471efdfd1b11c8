/- Pack, as the document has it. -/
import Derived.Test.YtbbdggmnjkkjkaaPK1
set_option linter.unusedVariables false
set_option linter.unusedSimpArgs false
set_option maxRecDepth 100000
namespace Go.Proofs.Ytbbdggmnjkkjkaa.Abs
open Go Go.RowKit
theorem enc_g {b : Bk} (h : b.ok) : b.enc[16]? = some (.int .u16 b.g) := by
  unfold Bk.enc blk
  rw [List.getElem?_append_right (by simp [h.1])]
  simp [h.1]
theorem enc_a {b : Bk} (h : b.ok) : b.enc[17]? = some (.int .u16 b.a) := by
  unfold Bk.enc blk
  rw [List.getElem?_append_right (by simp [h.1])]
  simp [h.1]
theorem enc_r {b : Bk} (h : b.ok) : b.enc[18]? = some (.int .u32 b.r) := by
  unfold Bk.enc blk
  rw [List.getElem?_append_right (by simp [h.1])]
  simp [h.1]
theorem u64id {n : Int} (h : 0 ≤ n ∧ n < 18446744073709551616) : IntKind.u64.wrap n = n := by rw [w64]; omega
theorem rpack_call {H : Hp} {bs : List Bk} {x : Value} {w : Bool} (hx : Sl H 19 bs.length (encs bs) x) (hb : BksOk bs) (hl : bs.length * 24 ≤ 140737488351232) :
    ACalls Try.prog 15 [x, .bool w] H (fun v H' => ∃ ob, v = accV ob (pkL w bs).length 1 ∧ Stt [] H H' [⟨ob, true, ⟨true, 5, (pkL w bs).map (Value.int .u8)⟩⟩]) := by
  refine acallsW Try.func15 f15_ok (Nat.le_of_ble_eq_true rfl) fun hw => ?_
  have st : Stt [] H H [] := Stt.start hw
  unfold f15c
  show AWl _ _ _ _ _
  refine aN rfl rfl (by constructor) ?_
  refine sE ?_
  show AWl _ _ _ _ _
  refine aN rfl rfl (by constructor) ?_
  refine sE ?_
  show AWl _ _ _ _ _
  refine aN rfl rfl (by constructor) ?_
  refine sE ?_
  show AW _ (.loop _) _ _ _
  have st := st.nil 5
  refine AW_loopN (fun m t1 H1 => ∃ (j : Nat) (ob : Option Nat), m = bs.length - j ∧ j ≤ bs.length ∧ t1 5 = accV ob (pkL w (bs.take j)).length 1 ∧ t1 6 = .int .i64 (j : Int) ∧ Stt [] H H1 [⟨ob, true, ⟨true, 5, (pkL w (bs.take j)).map (Value.int .u8)⟩⟩]) (bs.length - 0) ⟨0, none, rfl, by omega, rfl, rfl, (st.sel [0] (by decide))⟩ [5, 6, 7, 8, 9, 10, 11, 12, 13, 14, 15, 16, 17, 18, 19, 20, 21, 22, 23, 24, 25, 26, 27, 28, 29, 30, 31, 32, 33, 34, 35, 36, 37, 38, 39, 40, 41, 42, 43, 44, 45, 46, 47, 48, 49, 50] (by decide) ?_
  rintro m t1 H1 hk hI
  obtain ⟨j, ob, rfl, hf0, ht5, ht6, st⟩ := hI
  obtain ⟨u, rfl⟩ : ∃ u, t1 = (upd (upd (mix [5, 6, 7, 8, 9, 10, 11, 12, 13, 14, 15, 16, 17, 18, 19, 20, 21, 22, 23, 24, 25, 26, 27, 28, 29, 30, 31, 32, 33, 34, 35, 36, 37, 38, 39, 40, 41, 42, 43, 44, 45, 46, 47, 48, 49, 50] _ u) (some 5) _) (some 6) _) := ⟨t1, by rw [← hk, upd_self ht5, upd_self ht6]⟩
  clear hk ht5 ht6
  show AWl _ _ _ _ _
  refine aN rfl rfl (by constructor) ?_
  refine aMovV x rfl ?_
  refine aLen (st.slc hx) rfl ?_
  refine aN rfl rfl (by constructor) ?_
  refine sE ?_
  show AW _ (.cond _ _ _) _ _ _
  refine cC' rfl (fun h1 => ?_) (fun h1 => ?_)
  · have hlt : j < bs.length := by have := of_decide_eq_true h1; omega
    have hbj := hb _ (List.getElem_mem hlt)
    have hbt : BksOk (bs.take j) := fun b hm => hb b (List.mem_of_mem_take hm)
    have hstep := pkL_take (w := w) hlt
    show AWl _ _ _ _ _
    refine aMovA rfl ?_
    refine aMovV x rfl ?_
    refine aN rfl rfl (by constructor) ?_
    refine aIx (st.slc hx) rfl rfl (by omega) fun b16 o16 g16 => ?_
    rw [show ((j : Int)).toNat = j from rfl, encs_get hb hlt] at g16
    refine aLdAG rfl g16 ?_
    refine aC (rbytes_call (xs := bs[j].d) (rest := [.int .u16 bs[j].g, .int .u16 bs[j].a, .int .u32 bs[j].r]) hbj.1 rfl) fun v18 H2 ⟨b18, hv, st1⟩ => ?_
    subst hv
    replace st := st.call st1 rfl
    clear st1
    refine aAppP st 1 (ob := ob) rfl rfl rfl (by decide) (by simp) (st.rowAll 0 rfl (by simp [hbj.1])).src (by simp [beB_len, hbj.1]) (by have := pkL_len (w := w) (bs := bs.take j) hbt; simp only [List.length_take] at this; split at this <;> omega) (by have := pkL_len (w := w) (bs := bs.take j) hbt; simp only [List.length_take] at this; split at this <;> omega) (by have := pkL_len (w := w) (bs := bs.take j) hbt; simp only [List.length_take] at this; split at this <;> omega) (NfL.any _) fun b19 H3 st => ?_
    refine aN rfl rfl (by constructor) ?_
    refine sE ?_
    show AWl _ _ _ _ _
    refine aN rfl rfl (by constructor) ?_
    refine sE ?_
    show AW _ (.cond _ _ _) _ _ _
    refine cC' rfl (fun h4 => ?_) (fun h4 => ?_)
    · have hwb : w = true := h4
      show AWl _ _ _ _ _
      refine aN rfl rfl (by constructor) ?_
      refine aMovV x rfl ?_
      refine aN rfl rfl (by constructor) ?_
      refine aIx (st.slc hx) rfl rfl (by omega) fun b24 o24 g24 => ?_
      rw [show ((j : Int)).toNat = j from rfl, encs_get hb hlt] at g24
      refine aN rfl rfl (by constructor) ?_
      refine aN rfl rfl (by constructor) ?_
      refine aLdP g24 16 rfl (enc_g hbj) (by constructor) (by decide) ?_
      refine aN rfl rfl (by constructor) ?_
      refine aC (big_call (n := 2) (by decide)) fun v29 H5 ⟨b29, hv, st1⟩ => ?_
      subst hv
      replace st := st.call st1 rfl
      clear st1
      refine aAppP st 2 (ob := some b19) rfl rfl rfl (by decide) (by simp [beB_len, hbj.1]) (st.rowAll 0 rfl (by simp [beB_len])).src (by simp [beB_len, hbj.1]) (by have := pkL_len (w := w) (bs := bs.take j) hbt; simp only [List.length_take] at this; split at this <;> omega) (by have := pkL_len (w := w) (bs := bs.take j) hbt; simp only [List.length_take] at this; split at this <;> omega) (by have := pkL_len (w := w) (bs := bs.take j) hbt; simp only [List.length_take] at this; split at this <;> omega) (NfL.any _) fun b30 H6 st => ?_
      refine aN rfl rfl (by constructor) ?_
      refine sE ?_
      show AWl _ _ _ _ _
      refine aN rfl rfl (by constructor) ?_
      refine aMovV x rfl ?_
      refine aN rfl rfl (by constructor) ?_
      refine aIx (st.slc hx) rfl rfl (by omega) fun b34 o34 g34 => ?_
      rw [show ((j : Int)).toNat = j from rfl, encs_get hb hlt] at g34
      refine aN rfl rfl (by constructor) ?_
      refine aN rfl rfl (by constructor) ?_
      refine aLdP g34 17 rfl (enc_a hbj) (by constructor) (by decide) ?_
      refine aN rfl rfl (by constructor) ?_
      refine aC (big_call (n := 2) (by decide)) fun v39 H7 ⟨b39, hv, st1⟩ => ?_
      subst hv
      replace st := st.call st1 rfl
      clear st1
      refine aAppP st 3 (ob := some b30) rfl rfl rfl (by decide) (by simp [beB_len, hbj.1]) (st.rowAll 0 rfl (by simp [beB_len])).src (by simp [beB_len, hbj.1]) (by have := pkL_len (w := w) (bs := bs.take j) hbt; simp only [List.length_take] at this; split at this <;> omega) (by have := pkL_len (w := w) (bs := bs.take j) hbt; simp only [List.length_take] at this; split at this <;> omega) (by have := pkL_len (w := w) (bs := bs.take j) hbt; simp only [List.length_take] at this; split at this <;> omega) (NfL.any _) fun b40 H8 st => ?_
      refine aN rfl rfl (by constructor) ?_
      refine sE ?_
      show AWl _ _ _ _ _
      refine aN rfl rfl (by constructor) ?_
      refine aMovV x rfl ?_
      refine aN rfl rfl (by constructor) ?_
      refine aIx (st.slc hx) rfl rfl (by omega) fun b44 o44 g44 => ?_
      rw [show ((j : Int)).toNat = j from rfl, encs_get hb hlt] at g44
      refine aN rfl rfl (by constructor) ?_
      refine aN rfl rfl (by constructor) ?_
      refine aLdP g44 18 rfl (enc_r hbj) (by constructor) (by decide) ?_
      refine aN rfl rfl (by constructor) ?_
      refine aC (big_call (n := 4) (by decide)) fun v49 H9 ⟨b49, hv, st1⟩ => ?_
      subst hv
      replace st := st.call st1 rfl
      clear st1
      refine aAppP st 4 (ob := some b40) rfl rfl rfl (by decide) (by simp [beB_len, hbj.1]) (st.rowAll 0 rfl (by simp [beB_len])).src (by simp [beB_len, hbj.1]) (by have := pkL_len (w := w) (bs := bs.take j) hbt; simp only [List.length_take] at this; split at this <;> omega) (by have := pkL_len (w := w) (bs := bs.take j) hbt; simp only [List.length_take] at this; split at this <;> omega) (by have := pkL_len (w := w) (bs := bs.take j) hbt; simp only [List.length_take] at this; split at this <;> omega) (NfL.any _) fun b50 H10 st => ?_
      refine aN rfl rfl (by constructor) ?_
      refine sE ?_
      show AWl _ _ _ _ _
      refine aN rfl rfl (by constructor) ?_
      refine aN rfl rfl (by constructor) ?_
      refine aN rfl rfl (by constructor) ?_
      refine sE ?_
      exact ⟨_, by omega, j + 1, some b50, rfl, by omega, congrArg (fun n => accV (some _) n 1) (by rw [hstep]; simp [pkB, hbj.1, beB_len, hwb]), congrArg (Value.int .i64) (wi _ (by omega)), (by have st2 := (st.sel [4] (by decide)); rw [hstep]; simpa [pkB, hwb, u64id (show 0 ≤ bs[j].g ∧ bs[j].g < 18446744073709551616 from ⟨hbj.2.2.1.1, by have := hbj.2.2.1.2; omega⟩), u64id (show 0 ≤ bs[j].a ∧ bs[j].a < 18446744073709551616 from ⟨hbj.2.2.2.1.1, by have := hbj.2.2.2.1.2; omega⟩), u64id (show 0 ≤ bs[j].r ∧ bs[j].r < 18446744073709551616 from ⟨hbj.2.2.2.2.1, by have := hbj.2.2.2.2.2; omega⟩)] using st2)⟩
    · have hwb : w = false := h4
      show AWl _ _ _ _ _
      refine aN rfl rfl (by constructor) ?_
      refine aN rfl rfl (by constructor) ?_
      refine aN rfl rfl (by constructor) ?_
      refine sE ?_
      exact ⟨_, by omega, j + 1, some b19, rfl, by omega, congrArg (fun n => accV (some _) n 1) (by rw [hstep]; simp [pkB, hbj.1, beB_len, hwb]), congrArg (Value.int .i64) (wi _ (by omega)), (by have st2 := (st.sel [1] (by decide)); rw [hstep]; simpa [pkB, hwb, u64id (show 0 ≤ bs[j].g ∧ bs[j].g < 18446744073709551616 from ⟨hbj.2.2.1.1, by have := hbj.2.2.1.2; omega⟩), u64id (show 0 ≤ bs[j].a ∧ bs[j].a < 18446744073709551616 from ⟨hbj.2.2.2.1.1, by have := hbj.2.2.2.1.2; omega⟩), u64id (show 0 ≤ bs[j].r ∧ bs[j].r < 18446744073709551616 from ⟨hbj.2.2.2.2.1, by have := hbj.2.2.2.2.2; omega⟩)] using st2)⟩
  · have hge : j = bs.length := by have := of_decide_eq_false h1; omega
    subst hge
    show AWl _ _ _ _ _
    refine aMovA rfl ?_
    refine aMovA rfl ?_
    refine sE ?_
    refine ⟨_, out1 (r_acc rfl), ?_⟩
    rw [List.take_length] at st ⊢; exact ⟨ob, rfl, by simpa using st.pick 0 rfl⟩
end Go.Proofs.Ytbbdggmnjkkjkaa.Abs
