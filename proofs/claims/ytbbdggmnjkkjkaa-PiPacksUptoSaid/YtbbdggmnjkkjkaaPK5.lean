/- Unpack, as the document has it. -/
import Derived.Test.YtbbdggmnjkkjkaaPK4
set_option linter.unusedVariables false
set_option linter.unusedSimpArgs false
set_option maxRecDepth 100000
namespace Go.Proofs.Ytbbdggmnjkkjkaa.Abs
open Go Go.RowKit
theorem unStep {c : List Int} {i : Nat} {x : Int} {rest : List Value} (hi : i < 16) (hl : 16 ≤ c.length) (he : x = c.getD i 0) : ((c.take i ++ List.replicate (16 - i) (0 : Int)).map (Value.int .u8) ++ rest).set (0 + 0 + ((i : Nat) : Int).toNat * 1) (.int .u8 x) = (c.take (i + 1) ++ List.replicate (16 - (i + 1)) (0 : Int)).map (Value.int .u8) ++ rest := by
  subst he
  rw [show 0 + 0 + ((i : Nat) : Int).toNat * 1 = i by omega, List.set_append_left _ _ (by simp; omega), List.map_append, List.set_append_right _ _ (by simp; omega)]
  rw [show i - (List.map (Value.int IntKind.u8) (c.take i)).length = 0 by simp; omega, show 16 - i = 16 - (i + 1) + 1 by omega, List.replicate_succ, List.map_cons, List.set_cons_zero]
  have hc : i < c.length := by omega
  rw [List.take_add_one, List.getElem?_eq_getElem hc]
  simp only [List.getD, List.getElem?_eq_getElem hc, Option.getD_some, Option.toList_some, List.map_append, List.map_cons, List.map_nil, List.append_assoc, List.cons_append, List.nil_append]
theorem rget2 {xs : List Int} (hb : ByteL xs) (a : Nat) (z : Int) (hz : z = a) (h : a + 2 ≤ xs.length) : IntKind.u16.wrap (rgetV xs z 2) = xs.getD a 0 * 256 + xs.getD (a + 1) 0 := by
  subst hz
  have h1 := hb.getD a
  have h2 := hb.getD (a + 1)
  have e : (xs.drop a).take 2 = [xs.getD a 0, xs.getD (a + 1) 0] := by
    rw [List.drop_eq_getElem_cons (show a < xs.length by omega), List.drop_eq_getElem_cons (show a + 1 < xs.length by omega)]
    simp only [List.take_succ_cons, List.take_zero, List.getD, List.getElem?_eq_getElem (show a < xs.length by omega), List.getElem?_eq_getElem (show a + 1 < xs.length by omega), Option.getD_some]
  have hf : rfieldE xs.length (a : Int) 2 = 0 := by
    unfold rfieldE
    rw [if_neg (by omega), if_neg (by omega)]
  unfold rgetV
  rw [if_pos hf, show ((a : Int)).toNat = a from rfl, show ((2 : Int)).toNat = 2 from rfl, e, w16]
  simp only [beN, List.foldl_cons, List.foldl_nil]
  omega
theorem rget4 {xs : List Int} (hb : ByteL xs) (a : Nat) (z : Int) (hz : z = a) (h : a + 4 ≤ xs.length) : IntKind.u32.wrap (rgetV xs z 4) = ((xs.getD a 0 * 256 + xs.getD (a + 1) 0) * 256 + xs.getD (a + 2) 0) * 256 + xs.getD (a + 3) 0 := by
  subst hz
  have h1 := hb.getD a
  have h2 := hb.getD (a + 1)
  have h3 := hb.getD (a + 2)
  have h4 := hb.getD (a + 3)
  have e : (xs.drop a).take 4 = [xs.getD a 0, xs.getD (a + 1) 0, xs.getD (a + 2) 0, xs.getD (a + 3) 0] := by
    rw [List.drop_eq_getElem_cons (show a < xs.length by omega), List.drop_eq_getElem_cons (show a + 1 < xs.length by omega), List.drop_eq_getElem_cons (show a + 1 + 1 < xs.length by omega), List.drop_eq_getElem_cons (show a + 1 + 1 + 1 < xs.length by omega)]
    simp only [List.take_succ_cons, List.take_zero, List.getD, List.getElem?_eq_getElem (show a < xs.length by omega), List.getElem?_eq_getElem (show a + 1 < xs.length by omega), List.getElem?_eq_getElem (show a + 2 < xs.length by omega), List.getElem?_eq_getElem (show a + 3 < xs.length by omega), Option.getD_some]
  have hf : rfieldE xs.length (a : Int) 4 = 0 := by
    unfold rfieldE
    rw [if_neg (by omega), if_neg (by omega)]
  unfold rgetV
  rw [if_pos hf, show ((a : Int)).toNat = a from rfl, show ((4 : Int)).toNat = 4 from rfl, e, w32]
  simp only [beN, List.foldl_cons, List.foldl_nil]
  omega
theorem runpack_false_call {H : Hp} {xs : List Int} {x : Value} (hx : Sl H 1 xs.length (xs.map (Value.int .u8)) x) (hb0 : ByteL xs) (hl : xs.length ≤ 140737488355328) (hl2 : xs.length / 16 * 24 ≤ 140737488355328) :
    ACalls Try.prog 14 [x, .bool false] H (fun v H' => ∃ ob, v = .tuple #[accV ob (unR false xs).length 19, .bool (decide (xs.length % 16 = 0))] ∧ Stt [] H H' [⟨ob, true, ⟨true, 33, encs (unR false xs)⟩⟩]) := by
  refine acallsW Try.func14 f14_ok (Nat.le_of_ble_eq_true rfl) fun hw => ?_
  have st : Stt [] H H [] := Stt.start hw
  unfold f14c
  show AWl _ _ _ _ _
  refine aN rfl rfl (by constructor) ?_
  refine aN rfl rfl (by constructor) ?_
  refine sE ?_
  show AWl _ _ _ _ _
  refine aN rfl rfl (by constructor) ?_
  refine sE ?_
  show AWl _ _ _ _ _
  refine aN rfl rfl (by constructor) ?_
  refine sE ?_
  show AW _ (.cond _ _ _) _ _ _
  refine cF' rfl ?_
  show AWl _ _ _ _ _
  refine aMovV x rfl ?_
  refine aLen (st.slc hx) rfl ?_
  refine aN rfl rfl (by constructor) ?_
  refine aN rfl (e_rem rfl rfl (by first | decide | omega)) (by constructor) ?_
  refine aN rfl rfl (by constructor) ?_
  refine sE ?_
  show AW _ (.cond _ _ _) _ _ _
  refine cC' rfl (fun h1 => ?_) (fun h1 => ?_)
  · have hne : ¬ (xs.length % szB false = 0) := rem_ne h1 (by decide)
    show AWl _ _ _ _ _
    refine aN rfl rfl (by constructor) ?_
    refine aN rfl rfl (by constructor) ?_
    refine sE ?_
    refine ⟨_, out2 (r_tmp rfl (by constructor)) (r_tmp rfl (by constructor)) ⟨rfl, rfl⟩, ?_⟩
    exact ⟨none, by simp [unR, hne, accV]; exact hne, by simpa [unR, hne, encs] using (st.nil 33).pick 0 rfl⟩
  · have heq : xs.length % 16 = 0 := rem_eq h1 (by decide)
    show AWl _ _ _ _ _
    refine aN rfl rfl (by constructor) ?_
    refine sE ?_
    show AWl _ _ _ _ _
    refine aN rfl rfl (by constructor) ?_
    refine sE ?_
    show AW _ (.loop _) _ _ _
    have st := st.nil 33
    refine AW_loopN (fun m t1 H1 => ∃ (j : Nat) (ob : Option Nat), m = xs.length / 16 - j ∧ j * 16 ≤ xs.length ∧ t1 8 = .int .i64 ((j * 16 : Nat) : Int) ∧ t1 7 = accV ob j 19 ∧ Stt [] H H1 [⟨ob, true, ⟨true, 33, encs ((unL false xs).take j)⟩⟩]) (xs.length / 16 - 0) ⟨0, none, rfl, by omega, congrArg (Value.int .i64) (by omega), rfl, (by simpa [encs] using (st.sel [0] (by decide)))⟩ [7, 8, 9, 10, 17, 18, 19, 20, 21, 22, 23, 24, 25, 26, 27, 28, 29, 30, 31, 32, 33, 34, 35, 36, 37, 38, 39, 40, 41, 42, 43, 44, 45, 46, 47, 48, 49, 50, 51, 52, 53, 54, 55, 56, 57, 58] (by decide) ?_
    rintro m t1 H1 hk hI
    obtain ⟨j, ob, rfl, hj, ht8, ht7, st⟩ := hI
    obtain ⟨u, rfl⟩ : ∃ u, t1 = (upd (upd (mix [7, 8, 9, 10, 17, 18, 19, 20, 21, 22, 23, 24, 25, 26, 27, 28, 29, 30, 31, 32, 33, 34, 35, 36, 37, 38, 39, 40, 41, 42, 43, 44, 45, 46, 47, 48, 49, 50, 51, 52, 53, 54, 55, 56, 57, 58] _ u) (some 8) _) (some 7) _) := ⟨t1, by rw [← hk, upd_self ht8, upd_self ht7]⟩
    clear hk ht8 ht7
    show AWl _ _ _ _ _
    refine aN rfl rfl (by constructor) ?_
    refine aMovV x rfl ?_
    refine aLen (st.slc hx) rfl ?_
    refine aN rfl rfl (by constructor) ?_
    refine sE ?_
    show AW _ (.cond _ _ _) _ _ _
    refine cC' rfl (fun h2 => ?_) (fun h2 => ?_)
    · have hgt : j * 16 < xs.length := by have := of_decide_eq_true h2; omega
      have hj1 : (j + 1) * 16 ≤ xs.length := by omega
      have hlt : j < xs.length / szB false := by show j < xs.length / 16; omega
      have hstep := unL_take hlt
      show AWl _ _ _ _ _
      refine aNewP st rfl rfl (by repeat constructor) fun b9 H3 st => ?_
      refine sE ?_
      show AWl _ _ _ _ _
      refine aN rfl rfl (by constructor) ?_
      refine sE ?_
      show AW _ (.loop _) _ _ _
      refine AW_loopN (fun m t1 H1 => ∃ (i : Nat), m = 16 - i ∧ i ≤ 16 ∧ t1 10 = .int .i64 (i : Int) ∧ Stt [] H H1 [⟨some b9, true, ⟨true, 33, ((xs.drop (j * 16)).take i ++ List.replicate (16 - i) (0 : Int)).map (Value.int .u8) ++ [.int .u16 0, .int .u16 0, .int .u32 0]⟩⟩, ⟨ob, true, ⟨true, 33, encs ((unL false xs).take j)⟩⟩]) (16 - 0) ⟨0, rfl, by omega, rfl, (by have st2 := (st.sel [0, 1] (by decide)); exact st2)⟩ [10, 24, 25, 26, 27, 28, 29, 30, 31, 32, 33, 34, 35, 36] (by decide) ?_
      rintro m t1 H1 hk hI
      obtain ⟨i, rfl, hi0, ht10, st⟩ := hI
      obtain ⟨u, rfl⟩ : ∃ u, t1 = (upd (mix [10, 24, 25, 26, 27, 28, 29, 30, 31, 32, 33, 34, 35, 36] _ u) (some 10) _) := ⟨t1, by rw [← hk, upd_self ht10]⟩
      clear hk ht10
      show AWl _ _ _ _ _
      refine aN rfl rfl (by constructor) ?_
      refine aN rfl rfl (by constructor) ?_
      refine sE ?_
      show AW _ (.cond _ _ _) _ _ _
      refine cC' rfl (fun h4 => ?_) (fun h4 => ?_)
      · have hi : i < 16 := by have := of_decide_eq_true h4; omega
        show AWl _ _ _ _ _
        refine aN rfl rfl (by constructor) ?_
        refine aMovV x rfl ?_
        refine aN rfl rfl (by constructor) ?_
        refine aN rfl rfl (by constructor) ?_
        refine aN rfl rfl (by constructor) ?_
        refine aIxB (st.slc hx) rfl rfl (by rw [wi _ (by omega)]; omega) fun b33 o33 g33 => ?_
        refine aLdG rfl g33 ?_
        refine aN rfl rfl (by constructor) ?_
        refine aIxA rfl rfl (by omega) ?_
        refine aStAt st 0 rfl rfl rfl rfl rfl (by simp; omega) (unStep (c := xs.drop (j * 16)) hi (by simp; omega) (by rw [wi _ (by omega), getD_drop]; rfl)) fun H5 st => ?_
        refine sE ?_
        show AWl _ _ _ _ _
        refine aN rfl rfl (by constructor) ?_
        refine aN rfl rfl (by constructor) ?_
        refine aN rfl rfl (by constructor) ?_
        refine sE ?_
        exact ⟨_, by omega, i + 1, rfl, by omega, congrArg (Value.int .i64) (wi _ (by omega)), (st.sel [0, 1] (by decide))⟩
      · have hi : i = 16 := by have := of_decide_eq_false h4; omega
        subst hi
        show AWl _ _ _ _ _
        refine aN rfl rfl (by constructor) ?_
        refine sE ?_
        show AW _ (.cond _ _ _) _ _ _
        refine cF' rfl ?_
        show AWl _ _ _ _ _
        refine aMovA rfl ?_
        refine aLdAll st 0 rfl rfl (by simp; omega) ?_
        refine aLit1 st rfl (by simp; omega) rfl fun b57 H6 st => ?_
        refine aAppP st 2 (ob := ob) rfl rfl rfl (by decide) (by rw [encs_len (fun b hb => unL_ok hb0 b (List.mem_of_mem_take hb))]; simp [unL_len, szB]; omega) (st.rowAll 0 rfl (by simp; omega)).src (by simp; omega) (by omega) (by omega) (by omega) (NfL.any _) fun b58 H7 st => ?_
        refine aN rfl rfl (by constructor) ?_
        refine sE ?_
        show AWl _ _ _ _ _
        refine aN rfl rfl (by constructor) ?_
        refine aN rfl rfl (by constructor) ?_
        refine aN rfl rfl (by constructor) ?_
        refine aN rfl rfl (by constructor) ?_
        refine sE ?_
        exact ⟨_, by omega, j + 1, some b58, rfl, by omega, congrArg (Value.int .i64) (by rw [wi _ (by omega)]; omega), rfl, (by have st2 := (st.sel [2] (by decide)); rw [hstep, unB_enc_false]; simpa [List.map_take, szB] using st2)⟩
    · have hge : j = xs.length / szB false := by have := of_decide_eq_false h2; show j = xs.length / 16; omega
      show AWl _ _ _ _ _
      refine aMovA rfl ?_
      refine aMovA rfl ?_
      refine aN rfl rfl (by constructor) ?_
      refine sE ?_
      refine ⟨_, out2 (r_acc rfl) (r_tmp rfl (by constructor)) ⟨notTup_acc, rfl⟩, ?_⟩
      have hR : unR false xs = unL false xs := if_pos heq
      exact ⟨ob, by rw [hR, unL_len, ← hge]; simp [heq], by rw [hR]; have st2 := st.pick 0 rfl; rwa [List.take_of_length_le (by rw [unL_len]; omega)] at st2⟩
theorem runpack_true_call {H : Hp} {xs : List Int} {x : Value} (hx : Sl H 1 xs.length (xs.map (Value.int .u8)) x) (hb0 : ByteL xs) (hl : xs.length ≤ 140737488355328) (hl2 : xs.length / 24 * 24 ≤ 140737488355328) :
    ACalls Try.prog 14 [x, .bool true] H (fun v H' => ∃ ob, v = .tuple #[accV ob (unR true xs).length 19, .bool (decide (xs.length % 24 = 0))] ∧ Stt [] H H' [⟨ob, true, ⟨true, 33, encs (unR true xs)⟩⟩]) := by
  refine acallsW Try.func14 f14_ok (Nat.le_of_ble_eq_true rfl) fun hw => ?_
  have st : Stt [] H H [] := Stt.start hw
  unfold f14c
  show AWl _ _ _ _ _
  refine aN rfl rfl (by constructor) ?_
  refine aN rfl rfl (by constructor) ?_
  refine sE ?_
  show AWl _ _ _ _ _
  refine aN rfl rfl (by constructor) ?_
  refine sE ?_
  show AWl _ _ _ _ _
  refine aN rfl rfl (by constructor) ?_
  refine sE ?_
  show AW _ (.cond _ _ _) _ _ _
  refine cT rfl ?_
  show AWl _ _ _ _ _
  refine aN rfl rfl (by constructor) ?_
  refine sE ?_
  show AWl _ _ _ _ _
  refine aMovV x rfl ?_
  refine aLen (st.slc hx) rfl ?_
  refine aN rfl rfl (by constructor) ?_
  refine aN rfl (e_rem rfl rfl (by first | decide | omega)) (by constructor) ?_
  refine aN rfl rfl (by constructor) ?_
  refine sE ?_
  show AW _ (.cond _ _ _) _ _ _
  refine cC' rfl (fun h1 => ?_) (fun h1 => ?_)
  · have hne : ¬ (xs.length % szB true = 0) := rem_ne h1 (by decide)
    show AWl _ _ _ _ _
    refine aN rfl rfl (by constructor) ?_
    refine aN rfl rfl (by constructor) ?_
    refine sE ?_
    refine ⟨_, out2 (r_tmp rfl (by constructor)) (r_tmp rfl (by constructor)) ⟨rfl, rfl⟩, ?_⟩
    exact ⟨none, by simp [unR, hne, accV]; exact hne, by simpa [unR, hne, encs] using (st.nil 33).pick 0 rfl⟩
  · have heq : xs.length % 24 = 0 := rem_eq h1 (by decide)
    show AWl _ _ _ _ _
    refine aN rfl rfl (by constructor) ?_
    refine sE ?_
    show AWl _ _ _ _ _
    refine aN rfl rfl (by constructor) ?_
    refine sE ?_
    show AW _ (.loop _) _ _ _
    have st := st.nil 33
    refine AW_loopN (fun m t1 H1 => ∃ (j : Nat) (ob : Option Nat), m = xs.length / 24 - j ∧ j * 24 ≤ xs.length ∧ t1 8 = .int .i64 ((j * 24 : Nat) : Int) ∧ t1 7 = accV ob j 19 ∧ Stt [] H H1 [⟨ob, true, ⟨true, 33, encs ((unL true xs).take j)⟩⟩]) (xs.length / 24 - 0) ⟨0, none, rfl, by omega, congrArg (Value.int .i64) (by omega), rfl, (by simpa [encs] using (st.sel [0] (by decide)))⟩ [7, 8, 9, 10, 17, 18, 19, 20, 21, 22, 23, 24, 25, 26, 27, 28, 29, 30, 31, 32, 33, 34, 35, 36, 37, 38, 39, 40, 41, 42, 43, 44, 45, 46, 47, 48, 49, 50, 51, 52, 53, 54, 55, 56, 57, 58] (by decide) ?_
    rintro m t1 H1 hk hI
    obtain ⟨j, ob, rfl, hj, ht8, ht7, st⟩ := hI
    obtain ⟨u, rfl⟩ : ∃ u, t1 = (upd (upd (mix [7, 8, 9, 10, 17, 18, 19, 20, 21, 22, 23, 24, 25, 26, 27, 28, 29, 30, 31, 32, 33, 34, 35, 36, 37, 38, 39, 40, 41, 42, 43, 44, 45, 46, 47, 48, 49, 50, 51, 52, 53, 54, 55, 56, 57, 58] _ u) (some 8) _) (some 7) _) := ⟨t1, by rw [← hk, upd_self ht8, upd_self ht7]⟩
    clear hk ht8 ht7
    show AWl _ _ _ _ _
    refine aN rfl rfl (by constructor) ?_
    refine aMovV x rfl ?_
    refine aLen (st.slc hx) rfl ?_
    refine aN rfl rfl (by constructor) ?_
    refine sE ?_
    show AW _ (.cond _ _ _) _ _ _
    refine cC' rfl (fun h2 => ?_) (fun h2 => ?_)
    · have hgt : j * 24 < xs.length := by have := of_decide_eq_true h2; omega
      have hj1 : (j + 1) * 24 ≤ xs.length := by omega
      have hlt : j < xs.length / szB true := by show j < xs.length / 24; omega
      have hstep := unL_take hlt
      show AWl _ _ _ _ _
      refine aNewP st rfl rfl (by repeat constructor) fun b9 H3 st => ?_
      refine sE ?_
      show AWl _ _ _ _ _
      refine aN rfl rfl (by constructor) ?_
      refine sE ?_
      show AW _ (.loop _) _ _ _
      refine AW_loopN (fun m t1 H1 => ∃ (i : Nat), m = 16 - i ∧ i ≤ 16 ∧ t1 10 = .int .i64 (i : Int) ∧ Stt [] H H1 [⟨some b9, true, ⟨true, 33, ((xs.drop (j * 24)).take i ++ List.replicate (16 - i) (0 : Int)).map (Value.int .u8) ++ [.int .u16 0, .int .u16 0, .int .u32 0]⟩⟩, ⟨ob, true, ⟨true, 33, encs ((unL true xs).take j)⟩⟩]) (16 - 0) ⟨0, rfl, by omega, rfl, (by have st2 := (st.sel [0, 1] (by decide)); exact st2)⟩ [10, 24, 25, 26, 27, 28, 29, 30, 31, 32, 33, 34, 35, 36] (by decide) ?_
      rintro m t1 H1 hk hI
      obtain ⟨i, rfl, hi0, ht10, st⟩ := hI
      obtain ⟨u, rfl⟩ : ∃ u, t1 = (upd (mix [10, 24, 25, 26, 27, 28, 29, 30, 31, 32, 33, 34, 35, 36] _ u) (some 10) _) := ⟨t1, by rw [← hk, upd_self ht10]⟩
      clear hk ht10
      show AWl _ _ _ _ _
      refine aN rfl rfl (by constructor) ?_
      refine aN rfl rfl (by constructor) ?_
      refine sE ?_
      show AW _ (.cond _ _ _) _ _ _
      refine cC' rfl (fun h4 => ?_) (fun h4 => ?_)
      · have hi : i < 16 := by have := of_decide_eq_true h4; omega
        show AWl _ _ _ _ _
        refine aN rfl rfl (by constructor) ?_
        refine aMovV x rfl ?_
        refine aN rfl rfl (by constructor) ?_
        refine aN rfl rfl (by constructor) ?_
        refine aN rfl rfl (by constructor) ?_
        refine aIxB (st.slc hx) rfl rfl (by rw [wi _ (by omega)]; omega) fun b33 o33 g33 => ?_
        refine aLdG rfl g33 ?_
        refine aN rfl rfl (by constructor) ?_
        refine aIxA rfl rfl (by omega) ?_
        refine aStAt st 0 rfl rfl rfl rfl rfl (by simp; omega) (unStep (c := xs.drop (j * 24)) hi (by simp; omega) (by rw [wi _ (by omega), getD_drop]; rfl)) fun H5 st => ?_
        refine sE ?_
        show AWl _ _ _ _ _
        refine aN rfl rfl (by constructor) ?_
        refine aN rfl rfl (by constructor) ?_
        refine aN rfl rfl (by constructor) ?_
        refine sE ?_
        exact ⟨_, by omega, i + 1, rfl, by omega, congrArg (Value.int .i64) (wi _ (by omega)), (st.sel [0, 1] (by decide))⟩
      · have hi : i = 16 := by have := of_decide_eq_false h4; omega
        subst hi
        show AWl _ _ _ _ _
        refine aN rfl rfl (by constructor) ?_
        refine sE ?_
        show AW _ (.cond _ _ _) _ _ _
        refine cT rfl ?_
        show AWl _ _ _ _ _
        refine aMovV x rfl ?_
        refine aN rfl rfl (by constructor) ?_
        refine aN rfl rfl (by constructor) ?_
        refine aC (rnum_call (st.slc hx) hb0 (by omega) (by rw [wi _ (by omega)]; omega)) fun v41 H6 ⟨hv, st1⟩ => ?_
        subst hv
        replace st := st.call st1 rfl
        clear st1
        refine aN rfl rfl (by constructor) ?_
        refine aMovV x rfl ?_
        refine aN rfl rfl (by constructor) ?_
        refine aN rfl rfl (by constructor) ?_
        refine aC (rnum_call (st.slc hx) hb0 (by omega) (by rw [wi _ (by omega)]; omega)) fun v46 H7 ⟨hv, st1⟩ => ?_
        subst hv
        replace st := st.call st1 rfl
        clear st1
        refine aN rfl rfl (by constructor) ?_
        refine aMovV x rfl ?_
        refine aN rfl rfl (by constructor) ?_
        refine aN rfl rfl (by constructor) ?_
        refine aC (rnum_call (st.slc hx) hb0 (by omega) (by rw [wi _ (by omega)]; omega)) fun v51 H8 ⟨hv, st1⟩ => ?_
        subst hv
        replace st := st.call st1 rfl
        clear st1
        refine aN rfl rfl (by constructor) ?_
        refine aBld rfl (by repeat constructor) ?_
        refine aN rfl rfl (by constructor) ?_
        refine aSt (cs := ((xs.drop (j * 24)).take 16 ++ List.replicate (16 - 16) (0 : Int)).map (Value.int .u8) ++ [.int .u16 _, .int .u16 _, .int .u32 _]) st 0 rfl rfl rfl rfl rfl (by simp; omega) (by rw [storeTail _ _ _ (by simp; omega) rfl]; exact NfV.any _) fun H9 st => ?_
        refine sE ?_
        show AWl _ _ _ _ _
        refine aMovA rfl ?_
        refine aLdAll st 0 rfl rfl (by simp; omega) ?_
        refine aLit1 st rfl (by simp; omega) rfl fun b57 H10 st => ?_
        refine aAppP st 2 (ob := ob) rfl rfl rfl (by decide) (by rw [encs_len (fun b hb => unL_ok hb0 b (List.mem_of_mem_take hb))]; simp [unL_len, szB]; omega) (st.rowAll 0 rfl (by simp; omega)).src (by simp; omega) (by omega) (by omega) (by omega) (NfL.any _) fun b58 H11 st => ?_
        refine aN rfl rfl (by constructor) ?_
        refine sE ?_
        show AWl _ _ _ _ _
        refine aN rfl rfl (by constructor) ?_
        refine aN rfl rfl (by constructor) ?_
        refine aN rfl rfl (by constructor) ?_
        refine aN rfl rfl (by constructor) ?_
        refine sE ?_
        exact ⟨_, by omega, j + 1, some b58, rfl, by omega, congrArg (Value.int .i64) (by rw [wi _ (by omega)]; omega), rfl, (by have st2 := (st.sel [2] (by decide)); rw [hstep, unB_enc_true]; simp only [szB, getD_drop, if_true]; rw [wi (((j * 24 : Nat) : Int) + 16) (by omega), wi (((j * 24 : Nat) : Int) + 18) (by omega), wi (((j * 24 : Nat) : Int) + 20) (by omega), rget2 hb0 (j * 24 + 16) _ (by omega) (by omega), rget2 hb0 (j * 24 + 18) _ (by omega) (by omega), rget4 hb0 (j * 24 + 20) _ (by omega) (by omega)] at st2; simpa [List.map_take, Nat.add_assoc] using st2)⟩
    · have hge : j = xs.length / szB true := by have := of_decide_eq_false h2; show j = xs.length / 24; omega
      show AWl _ _ _ _ _
      refine aMovA rfl ?_
      refine aMovA rfl ?_
      refine aN rfl rfl (by constructor) ?_
      refine sE ?_
      refine ⟨_, out2 (r_acc rfl) (r_tmp rfl (by constructor)) ⟨notTup_acc, rfl⟩, ?_⟩
      have hR : unR true xs = unL true xs := if_pos heq
      exact ⟨ob, by rw [hR, unL_len, ← hge]; simp [heq], by rw [hR]; have st2 := st.pick 0 rfl; rwa [List.take_of_length_le (by rw [unL_len]; omega)] at st2⟩
end Go.Proofs.Ytbbdggmnjkkjkaa.Abs
