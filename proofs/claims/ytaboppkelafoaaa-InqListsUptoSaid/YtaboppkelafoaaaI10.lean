/- Inq: lists of units. -/
import Derived.Test.YtaboppkelafoaaaI9
set_option linter.unusedVariables false
set_option linter.unusedSimpArgs false
set_option maxRecDepth 100000
namespace Go.Proofs.Ytaboppkelafoaaa.Abs
open Go Go.RowKit
/-- A list of units. -/
def lunB (n : Int) : List Int := [0, n % 256, 0, 0, 0, 0, 0, 0]
def lunL (xs : List Int) : List Int := beB 4 (8 * (xs.length : Int)) ++ [0, 0, 0, 0] ++ xs.flatMap lunB
def lunP (xs : List Int) (j : Nat) : List Int := beB 4 (8 * (xs.length : Int)) ++ [0, 0, 0, 0] ++ (xs.take j).flatMap lunB
theorem lunP_len (xs : List Int) (j : Nat) (h : j ≤ xs.length) : (lunP xs j).length = 8 + 8 * j := by
  have : ∀ l : List Int, (l.flatMap lunB).length = 8 * l.length := by
    intro l
    induction l with
    | nil => rfl
    | cons x l ih => simp only [List.flatMap_cons, List.length_append, List.length_cons, ih, lunB, List.length_nil]; omega
  simp only [lunP, List.length_append, beB_len, this, List.length_take, List.length_cons, List.length_nil]
  omega
theorem lunP_step {xs : List Int} {j : Nat} (h : j < xs.length) : lunP xs (j + 1) = lunP xs j ++ lunB (xs.getD j 0) := by
  unfold lunP
  rw [List.take_add_one, List.getElem?_eq_getElem h, Option.toList_some, List.flatMap_append, List.append_assoc]
  simp only [List.flatMap_cons, List.flatMap_nil, List.append_nil, List.getD, List.getElem?_eq_getElem h, Option.getD_some, List.append_assoc]
theorem lunP_all (xs : List Int) : lunP xs xs.length = lunL xs := by simp [lunP, lunL]
theorem luns_call {H : Hp} {xs : List Int} {x : Value} (hx : Sl H 1 xs.length (xs.map (Value.int .i64)) x) (hl : xs.length ≤ 1048576) :
    ACalls Try.prog 10 [x] H (fun v H' => ∃ b, v = .slice (some ⟨b, 0, none⟩) (lunL xs).length 1 ∧ Stt [] H H' [⟨some b, true, ⟨true, 5, (lunL xs).map (Value.int .u8)⟩⟩]) := by
  refine acallsW Try.func10 f10_ok (Nat.le_of_ble_eq_true rfl) fun hw => ?_
  have st : Stt [] H H [] := Stt.start hw
  unfold f10c
  show AWl _ _ _ _ _
  refine aN rfl rfl (by constructor) ?_
  refine sE ?_
  show AWl _ _ _ _ _
  refine aNewS st rfl rfl (by repeat constructor) fun b8 H1 st => ?_
  refine aMovV x rfl ?_
  refine aLen (st.slc hx) rfl ?_
  refine aN rfl rfl (by constructor) ?_
  refine aN rfl rfl (by constructor) ?_
  have st := st.toI 0 rfl rfl (by repeat constructor)
  refine aC (put_call (st.rowAll 0 rfl rfl) (by simp only [byteL_cons, byteL_nil, and_true]; (repeat' apply And.intro); all_goals first | decide | omega) (by simp) (by simp) (by rw [wi _ (by omega), w64, show (256 : Int) ^ (4 : Int).toNat = 4294967296 by decide]; omega)) fun v13 H2 ⟨b13, hv, st1⟩ => ?_
  subst hv
  replace st := st.call st1 rfl
  clear st1
  refine aN rfl rfl (by constructor) ?_
  refine aN rfl rfl (by constructor) ?_
  refine aN rfl rfl (by constructor) ?_
  refine aN rfl rfl (by constructor) ?_
  refine aN rfl rfl (by constructor) ?_
  refine sE ?_
  show AWl _ _ _ _ _
  refine aMovV x rfl ?_
  refine aLen (st.slc hx) rfl ?_
  refine aN rfl rfl (by constructor) ?_
  refine sE ?_
  show AW _ (.loop _) _ _ _
  refine AW_loopN (fun m t1 H1 => ∃ (j : Nat) (b : Nat), m = xs.length - j ∧ (j ≤ xs.length) ∧ t1 18 = .int .i64 (j : Int) ∧ t1 3 = .slice (some ⟨b, 0, none⟩) (8 + 8 * j) 1 ∧ Stt [] H H1 [⟨some b, true, ⟨true, 5, (lunP xs j).map (Value.int .u8)⟩⟩]) (xs.length - 0) ⟨0, b13, rfl, by omega, rfl, rfl, (by have st2 := (st.sel [0] (by decide)); rw [wi _ (by omega), w64, show 8 * (xs.length : Int) % 18446744073709551616 = 8 * (xs.length : Int) by omega] at st2; exact st2)⟩ [3, 6, 18, 19, 20, 21, 22, 23, 24, 25, 26, 27] (by decide) ?_
  rintro m t1 H1 hk hI
  obtain ⟨j, b, rfl, hj, ht18, ht3, st⟩ := hI
  obtain ⟨u, rfl⟩ : ∃ u, t1 = (upd (upd (mix [3, 6, 18, 19, 20, 21, 22, 23, 24, 25, 26, 27] _ u) (some 18) _) (some 3) _) := ⟨t1, by rw [← hk, upd_self ht18, upd_self ht3]⟩
  clear hk ht18 ht3
  show AWl _ _ _ _ _
  refine aN rfl rfl (by constructor) ?_
  refine sE ?_
  show AW _ (.cond _ _ _) _ _ _
  refine cC' rfl (fun h3 => ?_) (fun h3 => ?_)
  · have hlt : j < xs.length := by have := of_decide_eq_true h3; omega
    show AWl _ _ _ _ _
    refine aIxB (st.slc hx) rfl rfl (by first | decide | omega) fun b20 o20 g20 => ?_
    refine aLdG rfl g20 ?_
    refine aN rfl rfl (by constructor) ?_
    refine sE ?_
    show AWl _ _ _ _ _
    refine aN rfl rfl (by constructor) ?_
    refine aN rfl rfl (by constructor) ?_
    refine aN rfl rfl (by constructor) ?_
    refine aLit st rfl (by repeat constructor) fun b25 H4 st => ?_
    refine aAppP st 1 (ob := some b) rfl rfl rfl (by decide) (by rw [List.length_map, lunP_len _ _ (by omega)]; omega) (st.rowAll 0 rfl (by first | rfl | (simp [beB_len, *]; done) | (simp [beB_len, *]; omega))).src (rfl) (by omega) (by omega) (by omega) (NfL.any _) fun b26 H5 st => ?_
    refine aN rfl rfl (by constructor) ?_
    refine sE ?_
    show AWl _ _ _ _ _
    refine aN rfl rfl (by constructor) ?_
    refine aN rfl rfl (by constructor) ?_
    refine sE ?_
    exact ⟨_, by omega, j + 1, b26, rfl, by omega, congrArg (Value.int .i64) (wi _ (by omega)), congrArg (fun n => Value.slice _ n 1) (by omega), (by have st2 := (st.sel [1] (by decide)); rw [lunP_step hlt, List.map_append]; rw [w8, show ((j : Int)).toNat = j from rfl] at st2; exact st2)⟩
  · have hge : j = xs.length := by have := of_decide_eq_false h3; omega
    subst hge
    show AWl _ _ _ _ _
    refine aN rfl rfl (by constructor) ?_
    refine aN rfl rfl (by constructor) ?_
    refine sE ?_
    refine ⟨_, out1 (r_tmp rfl (by constructor)), ?_⟩
    exact ⟨b, by rw [← lunP_all, lunP_len _ _ (Nat.le_refl _)], by have st2 := st.pick 0 rfl; rwa [lunP_all] at st2⟩
theorem rluns_call {H : Hp} {xs : List Int} {x : Value} (hx : Sl H 1 xs.length (xs.map (Value.int .i64)) x) (hl : xs.length ≤ 1048576) :
    ACalls Try.prog 11 [x] H (fun v H' => ∃ b, v = .slice (some ⟨b, 0, none⟩) (lunL xs).length 1 ∧ Stt [] H H' [⟨some b, true, ⟨true, 5, (lunL xs).map (Value.int .u8)⟩⟩]) := by
  refine acallsW Try.func11 f11_ok (Nat.le_of_ble_eq_true rfl) fun hw => ?_
  have st : Stt [] H H [] := Stt.start hw
  unfold f11c
  show AWl _ _ _ _ _
  refine aN rfl rfl (by constructor) ?_
  refine sE ?_
  show AWl _ _ _ _ _
  refine aMovV x rfl ?_
  refine aLen (st.slc hx) rfl ?_
  refine aN rfl rfl (by constructor) ?_
  refine aN rfl rfl (by constructor) ?_
  refine aC (big_call (n := 4) (by decide)) fun v9 H1 ⟨b9, hv, st1⟩ => ?_
  subst hv
  replace st := st.call st1 rfl
  clear st1
  refine aN rfl rfl (by constructor) ?_
  refine sE ?_
  show AWl _ _ _ _ _
  refine aN rfl rfl (by constructor) ?_
  refine aLit st rfl (by repeat constructor) fun b11 H2 st => ?_
  refine aAppP st 1 (ob := some b9) rfl rfl rfl (by decide) (by simp [beB_len]) (st.rowAll 0 rfl (by first | rfl | (simp [beB_len, *]; done) | (simp [beB_len, *]; omega))).src (rfl) (by decide) (by decide) (by decide) (by repeat constructor) fun b12 H3 st => ?_
  refine aN rfl rfl (by constructor) ?_
  refine sE ?_
  show AWl _ _ _ _ _
  refine aN rfl rfl (by constructor) ?_
  refine sE ?_
  show AW _ (.loop _) _ _ _
  refine AW_loopN (fun m t1 H1 => ∃ (j : Nat) (b : Nat), m = xs.length - j ∧ (j ≤ xs.length) ∧ t1 4 = .int .i64 (j : Int) ∧ t1 3 = .slice (some ⟨b, 0, none⟩) (8 + 8 * j) 1 ∧ Stt [] H H1 [⟨some b, true, ⟨true, 5, (lunP xs j).map (Value.int .u8)⟩⟩]) (xs.length - 0) ⟨0, b12, rfl, by omega, rfl, rfl, (by have st2 := (st.sel [1] (by decide)); rw [wi _ (by omega), w64, show 8 * (xs.length : Int) % 18446744073709551616 = 8 * (xs.length : Int) by omega] at st2; exact st2)⟩ [3, 4, 13, 14, 15, 16, 17, 18, 19, 20, 21, 22, 23, 24, 25, 26] (by decide) ?_
  rintro m t1 H1 hk hI
  obtain ⟨j, b, rfl, hj, ht4, ht3, st⟩ := hI
  obtain ⟨u, rfl⟩ : ∃ u, t1 = (upd (upd (mix [3, 4, 13, 14, 15, 16, 17, 18, 19, 20, 21, 22, 23, 24, 25, 26] _ u) (some 4) _) (some 3) _) := ⟨t1, by rw [← hk, upd_self ht4, upd_self ht3]⟩
  clear hk ht4 ht3
  show AWl _ _ _ _ _
  refine aN rfl rfl (by constructor) ?_
  refine aMovV x rfl ?_
  refine aLen (st.slc hx) rfl ?_
  refine aN rfl rfl (by constructor) ?_
  refine sE ?_
  show AW _ (.cond _ _ _) _ _ _
  refine cC' rfl (fun h4 => ?_) (fun h4 => ?_)
  · have hlt : j < xs.length := by have := of_decide_eq_true h4; omega
    show AWl _ _ _ _ _
    refine aN rfl rfl (by constructor) ?_
    refine aMovV x rfl ?_
    refine aN rfl rfl (by constructor) ?_
    refine aIxB (st.slc hx) rfl rfl (by first | decide | omega) fun b22 o22 g22 => ?_
    refine aLdG rfl g22 ?_
    refine aN rfl rfl (by constructor) ?_
    refine aLit st rfl (by repeat constructor) fun b25 H5 st => ?_
    refine aAppP st 1 (ob := some b) rfl rfl rfl (by decide) (by rw [List.length_map, lunP_len _ _ (by omega)]; omega) (st.rowAll 0 rfl (by first | rfl | (simp [beB_len, *]; done) | (simp [beB_len, *]; omega))).src (rfl) (by omega) (by omega) (by omega) (NfL.any _) fun b26 H6 st => ?_
    refine aN rfl rfl (by constructor) ?_
    refine sE ?_
    show AWl _ _ _ _ _
    refine aN rfl rfl (by constructor) ?_
    refine aN rfl rfl (by constructor) ?_
    refine aN rfl rfl (by constructor) ?_
    refine sE ?_
    exact ⟨_, by omega, j + 1, b26, rfl, by omega, congrArg (Value.int .i64) (wi _ (by omega)), congrArg (fun n => Value.slice _ n 1) (by omega), (by have st2 := (st.sel [1] (by decide)); rw [lunP_step hlt, List.map_append]; rw [w8, show ((j : Int)).toNat = j from rfl] at st2; exact st2)⟩
  · have hge : j = xs.length := by have := of_decide_eq_false h4; omega
    subst hge
    show AWl _ _ _ _ _
    refine aN rfl rfl (by constructor) ?_
    refine aN rfl rfl (by constructor) ?_
    refine sE ?_
    refine ⟨_, out1 (r_tmp rfl (by constructor)), ?_⟩
    exact ⟨b, by rw [← lunP_all, lunP_len _ _ (Nat.le_refl _)], by have st2 := st.pick 0 rfl; rwa [lunP_all] at st2⟩
end Go.Proofs.Ytaboppkelafoaaa.Abs
