/- Inq: InqSupports. -/
import Derived.Test.YtaboppkelafoaaaI12
set_option linter.unusedVariables false
set_option linter.unusedSimpArgs false
set_option maxRecDepth 100000
namespace Go.Proofs.Ytaboppkelafoaaa.Abs
open Go Go.RowKit
def lst (pg : Int) (k : Nat) : Bool := decide (pg ∈ ([0, 128, 131, 176, 178] : List Int).take k)
theorem lst_step (pg : Int) {k : Nat} (h : k < 5) : lst pg (k + 1) = (lst pg k || decide (([0, 0, 0, 5, 0, 128, 131, 176, 178] : List Int).getD (4 + k) 0 = pg)) := by
  have : k = 0 ∨ k = 1 ∨ k = 2 ∨ k = 3 ∨ k = 4 := by omega
  rcases this with h | h | h | h | h <;> subst h <;> simp [lst, eq_comm, Bool.or_assoc]
theorem isSome_lst {i : Inf} (h : formI i = true) (pg : Int) : (pageR i pg).isSome = lst pg 5 := by
  unfold pageR lst pageB
  rw [if_pos h]
  by_cases h0 : pg = 0
  · subst h0; rfl
  · by_cases h1 : pg = 128
    · subst h1; rfl
    · by_cases h2 : pg = 131
      · subst h2; rfl
      · by_cases h3 : pg = 176
        · subst h3; rfl
        · by_cases h4 : pg = 178
          · subst h4; rfl
          · rw [if_neg h0, if_neg h1, if_neg h2, if_neg h3, if_neg h4]; simp [h0, h1, h2, h3, h4]
theorem page_is {i : Inf} {pg : Int} (h : formI i = true) (hs : (pageR i pg).isSome = true) : ∃ b : List Int, pageL i pg = [0, pg, 0, (b.length : Int)] ++ b ∧ b.length ≤ 60 := by
  have hl := pageL_len i pg
  unfold pageR at hs
  rw [if_pos h] at hs
  obtain ⟨b, hb⟩ := Option.isSome_iff_exists.1 (by simpa using hs : (pageB i pg).isSome = true)
  refine ⟨b, (page_eq h hb).1, ?_⟩
  rw [(page_eq h hb).1] at hl
  simp at hl
  omega
theorem page_no {i : Inf} {pg : Int} (h : formI i = false) : pageL i pg = [] ∧ (pageR i pg).isSome = false := by
  unfold pageL pageR; rw [if_neg (by simp [h])]; exact ⟨rfl, rfl⟩
theorem page_0 {i : Inf} (h : formI i = true) : pageL i 0 = [0, 0, 0, 5, 0, 128, 131, 176, 178] ∧ (pageR i 0).isSome = true := by
  unfold pageL pageR; rw [if_pos h]; exact ⟨rfl, rfl⟩
theorem std_36 {i : Inf} (h : formI i = true) : (stdL i).length = 36 ∧ (stdL i).getD 4 0 = 31 := by
  have hq := form_lens h
  unfold stdL; rw [if_pos h]
  refine ⟨?_, rfl⟩
  unfold stdB
  simp [wide_len hq.1, wide_len hq.2.1, wide_len hq.2.2.1]
theorem supports_call {H : Hp} {i : Inf} (hs : i.wf) :
    ACalls Try.prog 6 [.agg #[.string (ofInts i.v), .string (ofInts i.p), .string (ofInts i.r), .string (ofInts i.s), .int .u8 i.prot]] H (fun v _ => v = .bool true) := by
  refine acallsW Try.func6 f6_ok (Nat.le_of_ble_eq_true rfl) fun hw => ?_
  have st : Stt [] H H [] := Stt.start hw
  unfold f6c
  show AWl _ _ _ _ _
  refine aBoxN st rfl rfl (by repeat constructor) rfl fun b1 H1 st => ?_
  refine aN rfl rfl (by constructor) ?_
  refine sE ?_
  show AWl _ _ _ _ _
  refine aC (awake_call) fun v11 H2 ⟨hv, st1⟩ => ?_
  subst hv
  replace st := st.call st1 rfl
  clear st1
  refine aN rfl rfl (by constructor) ?_
  refine sE ?_
  show AW _ (.cond _ _ _) _ _ _
  refine cF' rfl ?_
  show AWl _ _ _ _ _
  refine aLdA st 0 rfl rfl (by first | decide | simp [*]) (by repeat constructor) ?_
  refine aC (page_call (pg := 0) hs) fun v15 H3 ⟨ob15, hv, st1⟩ => ?_
  subst hv
  replace st := st.call st1 rfl
  clear st1
  refine aN rfl rfl (by constructor) ?_
  refine aExtA rfl rfl ?_
  refine aN rfl rfl (by constructor) ?_
  refine aMovA rfl ?_
  refine aN rfl rfl (by constructor) ?_
  refine sE ?_
  show AWl _ _ _ _ _
  refine aLdA st 1 rfl rfl (by first | decide | simp [*]) (by repeat constructor) ?_
  refine aC (form_call hs) fun v19 H4 ⟨hv, st1⟩ => ?_
  subst hv
  replace st := st.call st1 rfl
  clear st1
  refine aN rfl rfl (by constructor) ?_
  refine sE ?_
  show AW _ (.cond _ _ _) _ _ _
  refine cC' rfl (fun h5 => ?_) (fun h5 => ?_)
  · have h5n : formI i = false := by simpa using h5
    obtain ⟨e0, e1⟩ := page_no (pg := 0) h5n
    have es : stdL i = [] := by unfold stdL; rw [if_neg (by simp [h5n])]
    show AWl _ _ _ _ _
    refine aMovV (.bool false) (congrArg Value.bool e1) ?_
    refine aN rfl rfl (by constructor) ?_
    refine aN rfl rfl (by constructor) ?_
    refine gT rfl ?_
    refine aMovA rfl ?_
    refine gT rfl ?_
    refine aLen (st.rowAcc 0 rfl (by decide) (by simp)) rfl ?_
    refine gT rfl ?_
    refine aBinV (.bool true) rfl rfl (by rw [e0]; rfl) ?_
    refine aN rfl rfl (by constructor) ?_
    refine aN rfl rfl (by constructor) ?_
    refine gT rfl ?_
    refine aLdA st 1 rfl rfl (by first | decide | simp [*]) (by repeat constructor) ?_
    refine gT rfl ?_
    refine aC (std_call hs) fun v30 H6 ⟨ob30, hv, st1⟩ => ?_
    subst hv
    replace st := st.call st1 rfl
    clear st1
    refine gT rfl ?_
    refine aLen (st.rowAcc 0 rfl (by decide) (by simp)) rfl ?_
    refine gT rfl ?_
    refine aBinV (.bool true) rfl rfl (by rw [es]; rfl) ?_
    refine aN rfl rfl (by constructor) ?_
    refine aN rfl rfl (by constructor) ?_
    refine sE ?_
    refine ⟨_, out1 (r_tmp rfl (by constructor)), ?_⟩
    rfl
  · have h5n : formI i = true := by simpa using h5
    have hf := h5n
    obtain ⟨e0, e1⟩ := page_0 hf
    rw [e0]
    rw [e0] at st
    obtain ⟨b3, rfl⟩ := st.isSome 0 rfl (by simp)
    show AWl _ _ _ _ _
    refine aMovV (.bool true) (congrArg Value.bool e1) ?_
    refine aN rfl rfl (by constructor) ?_
    refine aN rfl rfl (by constructor) ?_
    refine gT rfl ?_
    refine aN rfl rfl (by constructor) ?_
    refine gT rfl ?_
    refine aN rfl rfl (by constructor) ?_
    refine gT rfl ?_
    refine aBinV (.bool false) rfl rfl rfl ?_
    refine aN rfl rfl (by constructor) ?_
    refine sE ?_
    show AW _ (.cond _ _ _) _ _ _
    refine cF' rfl ?_
    show AWl _ _ _ _ _
    refine aN rfl rfl (by constructor) ?_
    refine sE ?_
    show AW _ (.loop _) _ _ _
    refine AW_loopN (fun m t1 H1 => ∃ (j : Nat), m = 256 - j ∧ (j ≤ 256) ∧ t1 5 = .int .i64 (j : Int) ∧ Stt [] H H1 [⟨some b3, true, ⟨true, 5, ([0, 0, 0, 5, 0, 128, 131, 176, 178] : List Int).map (Value.int .u8)⟩⟩, ⟨some b1, true, ⟨true, 23, [.string (ofInts i.v), .string (ofInts i.p), .string (ofInts i.r), .string (ofInts i.s), .int .u8 i.prot]⟩⟩]) (256 - 0) ⟨0, rfl, by omega, rfl, (st.sel [0, 1] (by decide))⟩ [2, 5, 6, 7, 8, 9, 41, 42, 43, 44, 45, 46, 47, 48, 49, 50, 51, 52, 53, 54, 55, 56, 57, 58, 59, 60, 61, 62, 63, 64, 65, 66, 67, 68, 69, 70, 71, 72, 73, 74, 75, 76, 77, 78, 79, 80, 81, 82, 83, 84, 85, 86, 87, 88, 89, 90, 91, 92, 93, 94, 95, 96, 97, 98, 99] (by decide) ?_
    rintro m t1 H1 hk hI
    obtain ⟨j, rfl, hj, ht5, st⟩ := hI
    obtain ⟨u, rfl⟩ : ∃ u, t1 = (upd (mix [2, 5, 6, 7, 8, 9, 41, 42, 43, 44, 45, 46, 47, 48, 49, 50, 51, 52, 53, 54, 55, 56, 57, 58, 59, 60, 61, 62, 63, 64, 65, 66, 67, 68, 69, 70, 71, 72, 73, 74, 75, 76, 77, 78, 79, 80, 81, 82, 83, 84, 85, 86, 87, 88, 89, 90, 91, 92, 93, 94, 95, 96, 97, 98, 99] _ u) (some 5) _) := ⟨t1, by rw [← hk, upd_self ht5]⟩
    clear hk ht5
    show AWl _ _ _ _ _
    refine aN rfl rfl (by constructor) ?_
    refine aN rfl rfl (by constructor) ?_
    refine sE ?_
    show AW _ (.cond _ _ _) _ _ _
    refine cC' rfl (fun h7 => ?_) (fun h7 => ?_)
    · have hlt : j < 256 := by have := of_decide_eq_true h7; omega
      have hpw : IntKind.u8.wrap (j : Int) = j := by rw [w8]; omega
      show AWl _ _ _ _ _
      refine aLdA st 1 rfl rfl (by first | decide | simp [*]) (by repeat constructor) ?_
      refine aN rfl rfl (by constructor) ?_
      refine aN rfl rfl (by constructor) ?_
      refine aC (page_call (pg := (IntKind.u8.wrap (j : Int))) hs) fun v49 H8 ⟨ob49, hv, st1⟩ => ?_
      subst hv
      replace st := st.call st1 rfl
      clear st1
      refine aN rfl rfl (by constructor) ?_
      refine aExtA rfl rfl ?_
      refine aN rfl rfl (by constructor) ?_
      refine aMovA rfl ?_
      refine aN rfl rfl (by constructor) ?_
      refine sE ?_
      show AWl _ _ _ _ _
      refine aN rfl rfl (by constructor) ?_
      refine sE ?_
      show AWl _ _ _ _ _
      refine aN rfl rfl (by constructor) ?_
      refine sE ?_
      show AW _ (.loop _) _ _ _
      refine AW_loopN (fun m t1 H1 => ∃ (k : Nat), m = 5 - k ∧ (k ≤ 5) ∧ t1 8 = .bool (lst (IntKind.u8.wrap (j : Int)) k) ∧ t1 9 = .int .i64 ((4 + k : Nat) : Int) ∧ Stt [] H H1 [⟨ob49, true, ⟨true, 5, (pageL i (IntKind.u8.wrap (j : Int))).map (Value.int .u8)⟩⟩, ⟨some b3, true, ⟨true, 5, ([0, 0, 0, 5, 0, 128, 131, 176, 178] : List Int).map (Value.int .u8)⟩⟩, ⟨some b1, true, ⟨true, 23, [.string (ofInts i.v), .string (ofInts i.p), .string (ofInts i.r), .string (ofInts i.s), .int .u8 i.prot]⟩⟩]) (5 - 0) ⟨0, rfl, by omega, rfl, rfl, (st.sel [0, 1, 2] (by decide))⟩ [8, 9, 52, 53, 54, 55, 56, 57, 58, 59, 60, 61, 62, 63, 64] (by decide) ?_
      rintro m t1 H1 hk hI
      obtain ⟨k, rfl, hk5, ht8, ht9, st⟩ := hI
      obtain ⟨u, rfl⟩ : ∃ u, t1 = (upd (upd (mix [8, 9, 52, 53, 54, 55, 56, 57, 58, 59, 60, 61, 62, 63, 64] _ u) (some 8) _) (some 9) _) := ⟨t1, by rw [← hk, upd_self ht8, upd_self ht9]⟩
      clear hk ht8 ht9
      show AWl _ _ _ _ _
      refine aN rfl rfl (by constructor) ?_
      refine aN rfl rfl (by constructor) ?_
      refine aN rfl rfl (by constructor) ?_
      refine aN rfl rfl (by constructor) ?_
      refine sE ?_
      show AW _ (.cond _ _ _) _ _ _
      refine cC' rfl (fun h9 => ?_) (fun h9 => ?_)
      · have hlk : k < 5 := by have := of_decide_eq_true h9; simp at this; omega
        show AWl _ _ _ _ _
        refine aN rfl rfl (by constructor) ?_
        refine aN rfl rfl (by constructor) ?_
        refine aIxB (st.rowAll 1 rfl (rfl)) rfl rfl (by simp; omega) fun b60 o60 g60 => ?_
        refine aLdG rfl g60 ?_
        refine aN rfl rfl (by constructor) ?_
        refine aN rfl rfl (by constructor) ?_
        refine aN rfl rfl (by constructor) ?_
        refine sE ?_
        show AW _ (.cond _ _ _) _ _ _
        refine cC' rfl (fun h10 => ?_) (fun h10 => ?_)
        · show AWl _ _ _ _ _
          refine aN rfl rfl (by constructor) ?_
          refine sE ?_
          show AWl _ _ _ _ _
          refine aN rfl rfl (by constructor) ?_
          refine aN rfl rfl (by constructor) ?_
          refine aN rfl rfl (by constructor) ?_
          refine sE ?_
          have hs1 : lst (IntKind.u8.wrap (j : Int)) (k + 1) = true := by
            have hq := of_decide_eq_true h10
            rw [show (((4 + k : Nat) : Int)).toNat = 4 + k from rfl] at hq
            rw [lst_step _ hlk, decide_eq_true hq, Bool.or_true]
          exact ⟨_, by omega, k + 1, rfl, by omega, congrArg Value.bool hs1.symm, congrArg (Value.int .i64) (by rw [wi _ (by omega)]; omega), (st.sel [0, 1, 2] (by decide))⟩
        · show AWl _ _ _ _ _
          refine aN rfl rfl (by constructor) ?_
          refine aN rfl rfl (by constructor) ?_
          refine aN rfl rfl (by constructor) ?_
          refine sE ?_
          have hs1 : lst (IntKind.u8.wrap (j : Int)) (k + 1) = lst (IntKind.u8.wrap (j : Int)) k := by
            have hq := of_decide_eq_false h10
            rw [show (((4 + k : Nat) : Int)).toNat = 4 + k from rfl] at hq
            rw [lst_step _ hlk, decide_eq_false hq, Bool.or_false]
          exact ⟨_, by omega, k + 1, rfl, by omega, congrArg Value.bool hs1.symm, congrArg (Value.int .i64) (by rw [wi _ (by omega)]; omega), (st.sel [0, 1, 2] (by decide))⟩
      · have hge : k = 5 := by have := of_decide_eq_false h9; simp at this; omega
        subst hge
        show AWp _ _ _ _ _
        refine aN rfl rfl (by constructor) ?_
        refine aN rfl rfl (by constructor) ?_
        refine aBinV (.bool false) (u := .bool ((pageR i (IntKind.u8.wrap (j : Int))).isSome)) (u' := .bool (lst (IntKind.u8.wrap (j : Int)) 5)) rfl rfl (by rw [isSome_lst hf]; cases lst (IntKind.u8.wrap (j : Int)) 5 <;> rfl) ?_
        refine aN rfl rfl (by constructor) ?_
        refine gT rfl ?_
        refine aN rfl rfl (by constructor) ?_
        refine gT rfl ?_
        refine aN rfl rfl (by constructor) ?_
        refine gCase 70 rfl (fun h11 => ?_) (fun h11 => ?_)
        · refine gT rfl ?_
          refine aMovA rfl ?_
          refine gT rfl ?_
          refine aLen (st.rowAcc 0 rfl (by decide) (by simp)) rfl ?_
          refine gT rfl ?_
          obtain ⟨bb, ee, hbb⟩ := page_is (pg := (IntKind.u8.wrap (j : Int))) hf h11
          refine aBinV (.bool false) rfl rfl (by rw [ee]; exact congrArg (fun z => some (Value.bool z)) (decide_eq_false (by simp; omega))) ?_
          refine gT rfl ?_
          refine aN rfl rfl (by constructor) ?_
          refine gT rfl ?_
          refine aMovA rfl ?_
          refine gT rfl ?_
          refine aIxB (st.rowAcc 0 rfl (by decide) (by simp)) rfl rfl (by rw [ee]; simp; omega) fun b76 o76 g76 => ?_
          refine gT rfl ?_
          refine aLdG rfl g76 ?_
          refine gT rfl ?_
          refine aN rfl rfl (by constructor) ?_
          refine gT rfl ?_
          refine aN rfl rfl (by constructor) ?_
          refine gT rfl ?_
          refine aBinV (.bool false) (u := .int .u8 ((pageL i (IntKind.u8.wrap (j : Int))).getD (((1) : Int)).toNat 0)) (u' := .int .u8 (IntKind.u8.wrap (j : Int))) rfl rfl (by rw [ee]; simp [aBin, isShift, aInt]) ?_
          refine gT rfl ?_
          refine aN rfl rfl (by constructor) ?_
          refine gT rfl ?_
          refine aN rfl rfl (by constructor) ?_
          refine gT rfl ?_
          refine aMovA rfl ?_
          refine gT rfl ?_
          refine aIxB (st.rowAcc 0 rfl (by decide) (by simp)) rfl rfl (by rw [ee]; simp; omega) fun b84 o84 g84 => ?_
          refine gT rfl ?_
          refine aLdG rfl g84 ?_
          refine gT rfl ?_
          refine aN rfl rfl (by constructor) ?_
          refine gT rfl ?_
          refine aN rfl rfl (by constructor) ?_
          refine gT rfl ?_
          refine aMovA rfl ?_
          refine gT rfl ?_
          refine aIxB (st.rowAcc 0 rfl (by decide) (by simp)) rfl rfl (by rw [ee]; simp; omega) fun b89 o89 g89 => ?_
          refine gT rfl ?_
          refine aLdG rfl g89 ?_
          refine gT rfl ?_
          refine aN rfl rfl (by constructor) ?_
          refine gT rfl ?_
          refine aN rfl rfl (by constructor) ?_
          refine gT rfl ?_
          refine aMovA rfl ?_
          refine gT rfl ?_
          refine aLen (st.rowAcc 0 rfl (by decide) (by simp)) rfl ?_
          refine gT rfl ?_
          refine aN rfl rfl (by constructor) ?_
          refine gT rfl ?_
          refine aBinV (.bool false) (u := .int .i64 (IntKind.i64.wrap (IntKind.i64.wrap (IntKind.i64.wrap ((pageL i (IntKind.u8.wrap (j : Int))).getD (((2) : Int)).toNat 0) * 256) + IntKind.i64.wrap ((pageL i (IntKind.u8.wrap (j : Int))).getD (((3) : Int)).toNat 0)))) (u' := .int .i64 (IntKind.i64.wrap (((pageL i (IntKind.u8.wrap (j : Int))).length : Int) - 4))) rfl rfl (by rw [ee]; rw [show IntKind.i64.wrap (IntKind.i64.wrap (IntKind.i64.wrap ((([0, IntKind.u8.wrap (j : Int), 0, (bb.length : Int)] ++ bb) : List Int).getD ((2 : Int)).toNat 0) * 256) + IntKind.i64.wrap ((([0, IntKind.u8.wrap (j : Int), 0, (bb.length : Int)] ++ bb) : List Int).getD ((3 : Int)).toNat 0)) = bb.length by (show IntKind.i64.wrap (IntKind.i64.wrap (IntKind.i64.wrap 0 * 256) + IntKind.i64.wrap (bb.length : Int)) = bb.length); rw [wi 0 (by omega), wi (0 * 256) (by omega), wi (bb.length : Int) (by omega), wi _ (by omega)]; omega, show IntKind.i64.wrap (((([0, IntKind.u8.wrap (j : Int), 0, (bb.length : Int)] ++ bb) : List Int).length : Int) - 4) = bb.length by rw [wi _ (by simp; omega)]; simp; omega]; simp [aBin, isShift, aInt]) ?_
          refine gT rfl ?_
          refine aN rfl rfl (by constructor) ?_
          refine gT rfl ?_
          refine aN rfl rfl (by constructor) ?_
          refine aN rfl rfl (by constructor) ?_
          refine pE ?_
          show AW _ (.cond _ _ _) _ _ _
          refine cF' rfl ?_
          show AWl _ _ _ _ _
          refine aN rfl rfl (by constructor) ?_
          refine aN rfl rfl (by constructor) ?_
          refine aN rfl rfl (by constructor) ?_
          refine sE ?_
          exact ⟨_, by omega, j + 1, rfl, by omega, congrArg (Value.int .i64) (wi _ (by omega)), (st.sel [1, 2] (by decide))⟩
        · refine gF rfl (by decide) ?_
          refine gF rfl (by decide) ?_
          refine gF rfl (by decide) ?_
          refine gF rfl (by decide) ?_
          refine gU rfl ?_
          refine gU rfl ?_
          refine gU rfl ?_
          refine gU rfl ?_
          refine gU rfl ?_
          refine gU rfl ?_
          refine gF rfl (by decide) ?_
          refine gF rfl (by decide) ?_
          refine gU rfl ?_
          refine gU rfl ?_
          refine gU rfl ?_
          refine gU rfl ?_
          refine gU rfl ?_
          refine gU rfl ?_
          refine gU rfl ?_
          refine gU rfl ?_
          refine gU rfl ?_
          refine gU rfl ?_
          refine gU rfl ?_
          refine gU rfl ?_
          refine gU rfl ?_
          refine gU rfl ?_
          refine gF rfl (by decide) ?_
          refine gT rfl ?_
          refine aN rfl rfl (by constructor) ?_
          refine aN rfl rfl (by constructor) ?_
          refine pE ?_
          show AW _ (.cond _ _ _) _ _ _
          refine cF' rfl ?_
          show AWl _ _ _ _ _
          refine aN rfl rfl (by constructor) ?_
          refine aN rfl rfl (by constructor) ?_
          refine aN rfl rfl (by constructor) ?_
          refine sE ?_
          exact ⟨_, by omega, j + 1, rfl, by omega, congrArg (Value.int .i64) (wi _ (by omega)), (st.sel [1, 2] (by decide))⟩
    · show AWl _ _ _ _ _
      refine aLdA st 1 rfl rfl (by first | decide | simp [*]) (by repeat constructor) ?_
      refine aC (std_call hs) fun v101 H12 ⟨ob101, hv, st1⟩ => ?_
      subst hv
      replace st := st.call st1 rfl
      clear st1
      refine aMovA rfl ?_
      refine sE ?_
      show AWl _ _ _ _ _
      refine aMovA rfl ?_
      refine aLen (st.rowAcc 0 rfl (by decide) (by simp)) rfl ?_
      refine aBinV (.bool true) rfl rfl (by rw [(std_36 hf).1]; rfl) ?_
      refine aN rfl rfl (by constructor) ?_
      refine gT rfl ?_
      refine aMovA rfl ?_
      refine gT rfl ?_
      refine aIxB (st.rowAcc 0 rfl (by decide) (by simp)) rfl rfl (by rw [(std_36 hf).1]; omega) fun b107 o107 g107 => ?_
      refine gT rfl ?_
      refine aLdG rfl g107 ?_
      refine gT rfl ?_
      refine aN rfl rfl (by constructor) ?_
      refine gT rfl ?_
      refine aMovA rfl ?_
      refine gT rfl ?_
      refine aLen (st.rowAcc 0 rfl (by decide) (by simp)) rfl ?_
      refine gT rfl ?_
      refine aN rfl rfl (by constructor) ?_
      refine gT rfl ?_
      refine aBinV (.bool true) (u := .int .i64 (IntKind.i64.wrap ((stdL i).getD ((4 : Int)).toNat 0))) (u' := .int .i64 (IntKind.i64.wrap (((stdL i).length : Int) - 5))) rfl rfl (by rw [(std_36 hf).1]; have := (std_36 hf).2; rw [show ((4 : Int)).toNat = 4 from rfl, this]; rfl) ?_
      refine aN rfl rfl (by constructor) ?_
      refine aN rfl rfl (by constructor) ?_
      refine sE ?_
      refine ⟨_, out1 (r_tmp rfl (by constructor)), ?_⟩
      rfl
end Go.Proofs.Ytaboppkelafoaaa.Abs
