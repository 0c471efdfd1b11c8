/- CdbMany. -/
import Derived.Test.YtlbmfcbcmfcjbaaR3
set_option linter.unusedVariables false
set_option linter.unusedSimpArgs false
set_option maxRecDepth 100000
namespace Go.Proofs.Ytlbmfcbcmfcjbaa.Abs
open Go Go.RowKit
set_option maxHeartbeats 2000000 in
theorem cmany_call {H : Hp} {n p : Int} (hn : 0 ≤ n ∧ n < 4294967296) (hp8 : 0 ≤ p ∧ p < 256) :
    ACalls Try.prog 8 [.int .u32 n, .int .u8 p] H (fun v _ => v = .bool true) := by
  refine acallsW Try.func8 f8_ok (Nat.le_of_ble_eq_true rfl) fun hw => ?_
  have st : Stt [] H H [] := Stt.start hw
  unfold f8c
  show AWl _ _ _ _ _
  refine aN rfl rfl (by constructor) ?_
  refine sE ?_
  show AWl _ _ _ _ _
  refine aC (awake_call) fun v12 H1 ⟨hv, st1⟩ => ?_
  subst hv
  replace st := st.call st1 rfl
  clear st1
  refine aN rfl rfl (by constructor) ?_
  refine sE ?_
  show AW _ (.cond _ _ _) _ _ _
  refine cF' rfl ?_
  show AWl _ _ _ _ _
  refine aLit st rfl (by repeat constructor) fun b14 H2 st => ?_
  refine aN rfl rfl (by constructor) ?_
  refine aConvV (n' := p) rfl (by rw [wi _ (by omega)]) ?_
  refine aBinV (.int .i64 (p % 6)) rfl rfl (remI (by omega) (by decide)) ?_
  rcases (by omega : p % 6 = 0 ∨ p % 6 = 1 ∨ p % 6 = 2 ∨ p % 6 = 3 ∨ p % 6 = 4 ∨ p % 6 = 5) with hp | hp | hp | hp | hp | hp
  · rw [hp]
    refine aIxL rfl rfl (by decide) ?_
    refine aLd (v := .int .u8 40) st 0 rfl rfl rfl (by constructor) ?_
    refine aN rfl rfl (by constructor) ?_
    refine sE ?_
    show AWl _ _ _ _ _
    refine aN rfl rfl (by constructor) ?_
    refine aLit st rfl (by repeat constructor) fun b21 H3 st => ?_
    refine aN rfl rfl (by constructor) ?_
    refine sE ?_
    show AWl _ _ _ _ _
    refine aN rfl rfl (by constructor) ?_
    refine sE ?_
    show AWl _ _ _ _ _
    refine aN rfl rfl (by constructor) ?_
    refine aBinV (.int .u32 (n % 65536)) rfl rfl (remI (by omega) (by decide)) ?_
    refine aConvV (n' := (n % 65536)) rfl (by rw [w64]; omega) ?_
    refine aN rfl rfl (by constructor) ?_
    refine sE ?_
    show AWl _ _ _ _ _
    refine aN rfl rfl (by constructor) ?_
    refine aBinV (.bool false) rfl rfl rfl ?_
    refine sE ?_
    show AW _ (.cond _ _ _) _ _ _
    refine cF' rfl ?_
    show AWl _ _ _ _ _
    refine aN rfl rfl (by constructor) ?_
    refine aN rfl rfl (by constructor) ?_
    refine aC (big_call (n := 2) (v := (n % 65536)) (by decide)) fun v41 H4 ⟨b41, hv, st1⟩ => ?_
    subst hv
    replace st := st.call st1 rfl
    clear st1
    refine aAppP st 1 (ob := some b21) rfl rfl rfl (by decide) (by first | rfl | (simp [beB_len, *]; done) | (simp [beB_len, *]; omega)) (st.rowAll 0 rfl (by simp [beB_len])).src (by first | rfl | simp [beB_len]) (by first | decide | (simp [beB_len]; done) | omega) (by first | decide | (simp [beB_len]; done) | omega) (by first | decide | omega) (NfL.any _) fun b42 H5 st => ?_
    refine aN rfl rfl (by constructor) ?_
    refine sE ?_
    show AWl _ _ _ _ _
    refine aN rfl rfl (by constructor) ?_
    refine aLit st rfl (by repeat constructor) fun b44 H6 st => ?_
    refine aAppP st 2 (ob := some b42) rfl rfl rfl (by decide) (by first | rfl | simp [beB_len]) (st.rowAll 0 rfl (by first | rfl | (simp [beB_len, *]; done) | (simp [beB_len, *]; omega))).src (by first | rfl | simp [beB_len]) (by first | decide | (simp [beB_len]; done) | omega) (by first | decide | (simp [beB_len]; done) | omega) (by first | decide | omega) (NfL.any _) fun b45 H7 st => ?_
    rw [show ([.int .u8 40, .int .u8 0, .int .u8 0, .int .u8 0, .int .u8 0, .int .u8 0, .int .u8 0] : List Value) ++ (beB 2 (n % 65536)).map (Value.int .u8) ++ [.int .u8 0] = (([40, 0] ++ beB 4 0 ++ [0] ++ beB 2 (n % 65536) ++ [0] : List Int)).map (Value.int .u8) from rfl] at st
    refine aN rfl rfl (by constructor) ?_
    refine sE ?_
    show AWl _ _ _ _ _
    refine aN rfl rfl (by constructor) ?_
    refine aC (parse_call (xs := ([40, 0] ++ beB 4 0 ++ [0] ++ beB 2 (n % 65536) ++ [0] : List Int)) (st.rowAll 2 rfl rfl) (((((by simp only [byteL_cons, byteL_nil, and_true]; decide : ByteL [40, 0]).app (beB_bytes _ _)).app (by simp only [byteL_cons, byteL_nil, and_true]; decide)).app (beB_bytes _ _)).app (by simp only [byteL_cons, byteL_nil, and_true]; decide)) (by show (10 : Nat) ≤ _; decide)) fun v48 H8 ⟨f48, b48, hv, st1, hP48⟩ => ?_
    subst hv
    replace st := st.call st1 rfl
    clear st1
    rw [form10 (op := 40) (at_ := 0) (.inl rfl) (by decide) (by omega) hP48]
    by_cases hk : (n % 65536) > 256
    · rw [if_pos hk]
      refine aN rfl rfl (by constructor) ?_
      refine aN rfl rfl (by constructor) ?_
      refine aN rfl rfl (by constructor) ?_
      refine aN rfl rfl (by constructor) ?_
      refine aNewP st rfl rfl (by repeat constructor) fun b9 H9 st => ?_
      refine aNewP st rfl rfl (by repeat constructor) fun b10 H10 st => ?_
      refine aSt st 1 rfl rfl rfl rfl (by first | rfl | simp [cellsOf, *]) (by first | decide | simp [*]) (by repeat constructor) fun H11 st => ?_
      refine aSt st 0 rfl rfl rfl rfl (by first | rfl | simp [cellsOf, *]) (by first | decide | simp [*]) (by repeat constructor) fun H12 st => ?_
      refine aN rfl rfl (by constructor) ?_
      refine sE ?_
      show AWl _ _ _ _ _
      refine aN rfl rfl (by constructor) ?_
      refine aBinV (.bool true) rfl rfl (congrArg (fun q => some (Value.bool q)) (decide_eq_true hk)) ?_
      refine sE ?_
      show AW _ (.cond _ _ _) _ _ _
      refine cT rfl ?_
      show AWp _ _ _ _ _
      refine aN rfl rfl (by constructor) ?_
      refine aN rfl rfl (by constructor) ?_
      refine aN rfl rfl (by constructor) ?_
      refine gT rfl ?_
      refine aLdA st 0 rfl rfl (by first | decide | simp [*]) (by repeat constructor) ?_
      refine gT rfl ?_
      refine aN rfl rfl (by constructor) ?_
      refine ⟨?_, trivial⟩
      refine gT rfl ?_
      refine aC (fault_call) fun v59 H13 ⟨hv, st1⟩ => ?_
      subst hv
      replace st := st.call st1 rfl
      clear st1
      refine ⟨⟨⟨some true, .bool true, (h_LdA st 0 rfl rfl (by first | decide | simp [*]) (by repeat constructor))⟩, trivial⟩, ?_⟩
      refine gT rfl ?_
      refine aEqAV true rfl rfl (by simp [eqL, eqV, flt]) ?_
      refine aN rfl rfl (by constructor) ?_
      refine aN rfl rfl (by constructor) ?_
      refine pE ?_
      refine ⟨_, out1 (r_tmp rfl (by constructor)), ?_⟩
      rfl
    · rw [if_neg hk]
      refine aN rfl rfl (by constructor) ?_
      refine aN rfl rfl (by constructor) ?_
      refine aN rfl rfl (by constructor) ?_
      refine aN rfl rfl (by constructor) ?_
      refine aNewP st rfl rfl (by repeat constructor) fun b9 H14 st => ?_
      refine aNewP st rfl rfl (by repeat constructor) fun b10 H15 st => ?_
      refine aSt st 1 rfl rfl rfl rfl (by first | rfl | simp [cellsOf, *]) (by first | decide | simp [*]) (by repeat constructor) fun H16 st => ?_
      refine aSt st 0 rfl rfl rfl rfl (by first | rfl | simp [cellsOf, *]) (by first | decide | simp [*]) (by repeat constructor) fun H17 st => ?_
      refine aN rfl rfl (by constructor) ?_
      refine sE ?_
      show AWl _ _ _ _ _
      refine aN rfl rfl (by constructor) ?_
      refine aBinV (.bool false) rfl rfl (congrArg (fun q => some (Value.bool q)) (decide_eq_false hk)) ?_
      refine sE ?_
      show AW _ (.cond _ _ _) _ _ _
      refine cF' rfl ?_
      show AWl _ _ _ _ _
      refine aN rfl rfl (by constructor) ?_
      refine aN rfl rfl (by constructor) ?_
      refine gT rfl ?_
      refine aN rfl rfl (by constructor) ?_
      refine gT rfl ?_
      refine aLd st 1 rfl rfl rfl (by constructor) ?_
      refine gT rfl ?_
      refine aN rfl rfl (by constructor) ?_
      refine gT rfl ?_
      refine aEqII rfl rfl ?_
      refine aN rfl rfl (by constructor) ?_
      refine aN rfl rfl (by constructor) ?_
      refine sE ?_
      refine ⟨_, out1 (r_tmp rfl (by constructor)), ?_⟩
      rfl
  · rw [hp]
    refine aIxL rfl rfl (by decide) ?_
    refine aLd (v := .int .u8 42) st 0 rfl rfl rfl (by constructor) ?_
    refine aN rfl rfl (by constructor) ?_
    refine sE ?_
    show AWl _ _ _ _ _
    refine aN rfl rfl (by constructor) ?_
    refine aLit st rfl (by repeat constructor) fun b21 H18 st => ?_
    refine aN rfl rfl (by constructor) ?_
    refine sE ?_
    show AWl _ _ _ _ _
    refine aN rfl rfl (by constructor) ?_
    refine sE ?_
    show AWl _ _ _ _ _
    refine aN rfl rfl (by constructor) ?_
    refine aBinV (.int .u32 (n % 65536)) rfl rfl (remI (by omega) (by decide)) ?_
    refine aConvV (n' := (n % 65536)) rfl (by rw [w64]; omega) ?_
    refine aN rfl rfl (by constructor) ?_
    refine sE ?_
    show AWl _ _ _ _ _
    refine aN rfl rfl (by constructor) ?_
    refine aBinV (.bool false) rfl rfl rfl ?_
    refine sE ?_
    show AW _ (.cond _ _ _) _ _ _
    refine cF' rfl ?_
    show AWl _ _ _ _ _
    refine aN rfl rfl (by constructor) ?_
    refine aN rfl rfl (by constructor) ?_
    refine aC (big_call (n := 2) (v := (n % 65536)) (by decide)) fun v41 H19 ⟨b41, hv, st1⟩ => ?_
    subst hv
    replace st := st.call st1 rfl
    clear st1
    refine aAppP st 1 (ob := some b21) rfl rfl rfl (by decide) (by first | rfl | (simp [beB_len, *]; done) | (simp [beB_len, *]; omega)) (st.rowAll 0 rfl (by simp [beB_len])).src (by first | rfl | simp [beB_len]) (by first | decide | (simp [beB_len]; done) | omega) (by first | decide | (simp [beB_len]; done) | omega) (by first | decide | omega) (NfL.any _) fun b42 H20 st => ?_
    refine aN rfl rfl (by constructor) ?_
    refine sE ?_
    show AWl _ _ _ _ _
    refine aN rfl rfl (by constructor) ?_
    refine aLit st rfl (by repeat constructor) fun b44 H21 st => ?_
    refine aAppP st 2 (ob := some b42) rfl rfl rfl (by decide) (by first | rfl | simp [beB_len]) (st.rowAll 0 rfl (by first | rfl | (simp [beB_len, *]; done) | (simp [beB_len, *]; omega))).src (by first | rfl | simp [beB_len]) (by first | decide | (simp [beB_len]; done) | omega) (by first | decide | (simp [beB_len]; done) | omega) (by first | decide | omega) (NfL.any _) fun b45 H22 st => ?_
    rw [show ([.int .u8 42, .int .u8 0, .int .u8 0, .int .u8 0, .int .u8 0, .int .u8 0, .int .u8 0] : List Value) ++ (beB 2 (n % 65536)).map (Value.int .u8) ++ [.int .u8 0] = (([42, 0] ++ beB 4 0 ++ [0] ++ beB 2 (n % 65536) ++ [0] : List Int)).map (Value.int .u8) from rfl] at st
    refine aN rfl rfl (by constructor) ?_
    refine sE ?_
    show AWl _ _ _ _ _
    refine aN rfl rfl (by constructor) ?_
    refine aC (parse_call (xs := ([42, 0] ++ beB 4 0 ++ [0] ++ beB 2 (n % 65536) ++ [0] : List Int)) (st.rowAll 2 rfl rfl) (((((by simp only [byteL_cons, byteL_nil, and_true]; decide : ByteL [42, 0]).app (beB_bytes _ _)).app (by simp only [byteL_cons, byteL_nil, and_true]; decide)).app (beB_bytes _ _)).app (by simp only [byteL_cons, byteL_nil, and_true]; decide)) (by show (10 : Nat) ≤ _; decide)) fun v48 H23 ⟨f48, b48, hv, st1, hP48⟩ => ?_
    subst hv
    replace st := st.call st1 rfl
    clear st1
    rw [form10 (op := 42) (at_ := 0) (.inr (.inl rfl)) (by decide) (by omega) hP48]
    by_cases hk : (n % 65536) > 256
    · rw [if_pos hk]
      refine aN rfl rfl (by constructor) ?_
      refine aN rfl rfl (by constructor) ?_
      refine aN rfl rfl (by constructor) ?_
      refine aN rfl rfl (by constructor) ?_
      refine aNewP st rfl rfl (by repeat constructor) fun b9 H24 st => ?_
      refine aNewP st rfl rfl (by repeat constructor) fun b10 H25 st => ?_
      refine aSt st 1 rfl rfl rfl rfl (by first | rfl | simp [cellsOf, *]) (by first | decide | simp [*]) (by repeat constructor) fun H26 st => ?_
      refine aSt st 0 rfl rfl rfl rfl (by first | rfl | simp [cellsOf, *]) (by first | decide | simp [*]) (by repeat constructor) fun H27 st => ?_
      refine aN rfl rfl (by constructor) ?_
      refine sE ?_
      show AWl _ _ _ _ _
      refine aN rfl rfl (by constructor) ?_
      refine aBinV (.bool true) rfl rfl (congrArg (fun q => some (Value.bool q)) (decide_eq_true hk)) ?_
      refine sE ?_
      show AW _ (.cond _ _ _) _ _ _
      refine cT rfl ?_
      show AWp _ _ _ _ _
      refine aN rfl rfl (by constructor) ?_
      refine aN rfl rfl (by constructor) ?_
      refine aN rfl rfl (by constructor) ?_
      refine gT rfl ?_
      refine aLdA st 0 rfl rfl (by first | decide | simp [*]) (by repeat constructor) ?_
      refine gT rfl ?_
      refine aN rfl rfl (by constructor) ?_
      refine ⟨?_, trivial⟩
      refine gT rfl ?_
      refine aC (fault_call) fun v59 H28 ⟨hv, st1⟩ => ?_
      subst hv
      replace st := st.call st1 rfl
      clear st1
      refine ⟨⟨⟨some true, .bool true, (h_LdA st 0 rfl rfl (by first | decide | simp [*]) (by repeat constructor))⟩, trivial⟩, ?_⟩
      refine gT rfl ?_
      refine aEqAV true rfl rfl (by simp [eqL, eqV, flt]) ?_
      refine aN rfl rfl (by constructor) ?_
      refine aN rfl rfl (by constructor) ?_
      refine pE ?_
      refine ⟨_, out1 (r_tmp rfl (by constructor)), ?_⟩
      rfl
    · rw [if_neg hk]
      refine aN rfl rfl (by constructor) ?_
      refine aN rfl rfl (by constructor) ?_
      refine aN rfl rfl (by constructor) ?_
      refine aN rfl rfl (by constructor) ?_
      refine aNewP st rfl rfl (by repeat constructor) fun b9 H29 st => ?_
      refine aNewP st rfl rfl (by repeat constructor) fun b10 H30 st => ?_
      refine aSt st 1 rfl rfl rfl rfl (by first | rfl | simp [cellsOf, *]) (by first | decide | simp [*]) (by repeat constructor) fun H31 st => ?_
      refine aSt st 0 rfl rfl rfl rfl (by first | rfl | simp [cellsOf, *]) (by first | decide | simp [*]) (by repeat constructor) fun H32 st => ?_
      refine aN rfl rfl (by constructor) ?_
      refine sE ?_
      show AWl _ _ _ _ _
      refine aN rfl rfl (by constructor) ?_
      refine aBinV (.bool false) rfl rfl (congrArg (fun q => some (Value.bool q)) (decide_eq_false hk)) ?_
      refine sE ?_
      show AW _ (.cond _ _ _) _ _ _
      refine cF' rfl ?_
      show AWl _ _ _ _ _
      refine aN rfl rfl (by constructor) ?_
      refine aN rfl rfl (by constructor) ?_
      refine gT rfl ?_
      refine aN rfl rfl (by constructor) ?_
      refine gT rfl ?_
      refine aLd st 1 rfl rfl rfl (by constructor) ?_
      refine gT rfl ?_
      refine aN rfl rfl (by constructor) ?_
      refine gT rfl ?_
      refine aEqII rfl rfl ?_
      refine aN rfl rfl (by constructor) ?_
      refine aN rfl rfl (by constructor) ?_
      refine sE ?_
      refine ⟨_, out1 (r_tmp rfl (by constructor)), ?_⟩
      rfl
  · rw [hp]
    refine aIxL rfl rfl (by decide) ?_
    refine aLd (v := .int .u8 46) st 0 rfl rfl rfl (by constructor) ?_
    refine aN rfl rfl (by constructor) ?_
    refine sE ?_
    show AWl _ _ _ _ _
    refine aN rfl rfl (by constructor) ?_
    refine aLit st rfl (by repeat constructor) fun b21 H33 st => ?_
    refine aN rfl rfl (by constructor) ?_
    refine sE ?_
    show AWl _ _ _ _ _
    refine aN rfl rfl (by constructor) ?_
    refine sE ?_
    show AWl _ _ _ _ _
    refine aN rfl rfl (by constructor) ?_
    refine aBinV (.int .u32 (n % 65536)) rfl rfl (remI (by omega) (by decide)) ?_
    refine aConvV (n' := (n % 65536)) rfl (by rw [w64]; omega) ?_
    refine aN rfl rfl (by constructor) ?_
    refine sE ?_
    show AWl _ _ _ _ _
    refine aN rfl rfl (by constructor) ?_
    refine aBinV (.bool false) rfl rfl rfl ?_
    refine sE ?_
    show AW _ (.cond _ _ _) _ _ _
    refine cF' rfl ?_
    show AWl _ _ _ _ _
    refine aN rfl rfl (by constructor) ?_
    refine aN rfl rfl (by constructor) ?_
    refine aC (big_call (n := 2) (v := (n % 65536)) (by decide)) fun v41 H34 ⟨b41, hv, st1⟩ => ?_
    subst hv
    replace st := st.call st1 rfl
    clear st1
    refine aAppP st 1 (ob := some b21) rfl rfl rfl (by decide) (by first | rfl | (simp [beB_len, *]; done) | (simp [beB_len, *]; omega)) (st.rowAll 0 rfl (by simp [beB_len])).src (by first | rfl | simp [beB_len]) (by first | decide | (simp [beB_len]; done) | omega) (by first | decide | (simp [beB_len]; done) | omega) (by first | decide | omega) (NfL.any _) fun b42 H35 st => ?_
    refine aN rfl rfl (by constructor) ?_
    refine sE ?_
    show AWl _ _ _ _ _
    refine aN rfl rfl (by constructor) ?_
    refine aLit st rfl (by repeat constructor) fun b44 H36 st => ?_
    refine aAppP st 2 (ob := some b42) rfl rfl rfl (by decide) (by first | rfl | simp [beB_len]) (st.rowAll 0 rfl (by first | rfl | (simp [beB_len, *]; done) | (simp [beB_len, *]; omega))).src (by first | rfl | simp [beB_len]) (by first | decide | (simp [beB_len]; done) | omega) (by first | decide | (simp [beB_len]; done) | omega) (by first | decide | omega) (NfL.any _) fun b45 H37 st => ?_
    rw [show ([.int .u8 46, .int .u8 0, .int .u8 0, .int .u8 0, .int .u8 0, .int .u8 0, .int .u8 0] : List Value) ++ (beB 2 (n % 65536)).map (Value.int .u8) ++ [.int .u8 0] = (([46, 0] ++ beB 4 0 ++ [0] ++ beB 2 (n % 65536) ++ [0] : List Int)).map (Value.int .u8) from rfl] at st
    refine aN rfl rfl (by constructor) ?_
    refine sE ?_
    show AWl _ _ _ _ _
    refine aN rfl rfl (by constructor) ?_
    refine aC (parse_call (xs := ([46, 0] ++ beB 4 0 ++ [0] ++ beB 2 (n % 65536) ++ [0] : List Int)) (st.rowAll 2 rfl rfl) (((((by simp only [byteL_cons, byteL_nil, and_true]; decide : ByteL [46, 0]).app (beB_bytes _ _)).app (by simp only [byteL_cons, byteL_nil, and_true]; decide)).app (beB_bytes _ _)).app (by simp only [byteL_cons, byteL_nil, and_true]; decide)) (by show (10 : Nat) ≤ _; decide)) fun v48 H38 ⟨f48, b48, hv, st1, hP48⟩ => ?_
    subst hv
    replace st := st.call st1 rfl
    clear st1
    rw [form10 (op := 46) (at_ := 0) (.inr (.inr (.inl rfl))) (by decide) (by omega) hP48]
    by_cases hk : (n % 65536) > 256
    · rw [if_pos hk]
      refine aN rfl rfl (by constructor) ?_
      refine aN rfl rfl (by constructor) ?_
      refine aN rfl rfl (by constructor) ?_
      refine aN rfl rfl (by constructor) ?_
      refine aNewP st rfl rfl (by repeat constructor) fun b9 H39 st => ?_
      refine aNewP st rfl rfl (by repeat constructor) fun b10 H40 st => ?_
      refine aSt st 1 rfl rfl rfl rfl (by first | rfl | simp [cellsOf, *]) (by first | decide | simp [*]) (by repeat constructor) fun H41 st => ?_
      refine aSt st 0 rfl rfl rfl rfl (by first | rfl | simp [cellsOf, *]) (by first | decide | simp [*]) (by repeat constructor) fun H42 st => ?_
      refine aN rfl rfl (by constructor) ?_
      refine sE ?_
      show AWl _ _ _ _ _
      refine aN rfl rfl (by constructor) ?_
      refine aBinV (.bool true) rfl rfl (congrArg (fun q => some (Value.bool q)) (decide_eq_true hk)) ?_
      refine sE ?_
      show AW _ (.cond _ _ _) _ _ _
      refine cT rfl ?_
      show AWp _ _ _ _ _
      refine aN rfl rfl (by constructor) ?_
      refine aN rfl rfl (by constructor) ?_
      refine aN rfl rfl (by constructor) ?_
      refine gT rfl ?_
      refine aLdA st 0 rfl rfl (by first | decide | simp [*]) (by repeat constructor) ?_
      refine gT rfl ?_
      refine aN rfl rfl (by constructor) ?_
      refine ⟨?_, trivial⟩
      refine gT rfl ?_
      refine aC (fault_call) fun v59 H43 ⟨hv, st1⟩ => ?_
      subst hv
      replace st := st.call st1 rfl
      clear st1
      refine ⟨⟨⟨some true, .bool true, (h_LdA st 0 rfl rfl (by first | decide | simp [*]) (by repeat constructor))⟩, trivial⟩, ?_⟩
      refine gT rfl ?_
      refine aEqAV true rfl rfl (by simp [eqL, eqV, flt]) ?_
      refine aN rfl rfl (by constructor) ?_
      refine aN rfl rfl (by constructor) ?_
      refine pE ?_
      refine ⟨_, out1 (r_tmp rfl (by constructor)), ?_⟩
      rfl
    · rw [if_neg hk]
      refine aN rfl rfl (by constructor) ?_
      refine aN rfl rfl (by constructor) ?_
      refine aN rfl rfl (by constructor) ?_
      refine aN rfl rfl (by constructor) ?_
      refine aNewP st rfl rfl (by repeat constructor) fun b9 H44 st => ?_
      refine aNewP st rfl rfl (by repeat constructor) fun b10 H45 st => ?_
      refine aSt st 1 rfl rfl rfl rfl (by first | rfl | simp [cellsOf, *]) (by first | decide | simp [*]) (by repeat constructor) fun H46 st => ?_
      refine aSt st 0 rfl rfl rfl rfl (by first | rfl | simp [cellsOf, *]) (by first | decide | simp [*]) (by repeat constructor) fun H47 st => ?_
      refine aN rfl rfl (by constructor) ?_
      refine sE ?_
      show AWl _ _ _ _ _
      refine aN rfl rfl (by constructor) ?_
      refine aBinV (.bool false) rfl rfl (congrArg (fun q => some (Value.bool q)) (decide_eq_false hk)) ?_
      refine sE ?_
      show AW _ (.cond _ _ _) _ _ _
      refine cF' rfl ?_
      show AWl _ _ _ _ _
      refine aN rfl rfl (by constructor) ?_
      refine aN rfl rfl (by constructor) ?_
      refine gT rfl ?_
      refine aN rfl rfl (by constructor) ?_
      refine gT rfl ?_
      refine aLd st 1 rfl rfl rfl (by constructor) ?_
      refine gT rfl ?_
      refine aN rfl rfl (by constructor) ?_
      refine gT rfl ?_
      refine aEqII rfl rfl ?_
      refine aN rfl rfl (by constructor) ?_
      refine aN rfl rfl (by constructor) ?_
      refine sE ?_
      refine ⟨_, out1 (r_tmp rfl (by constructor)), ?_⟩
      rfl
  · rw [hp]
    refine aIxL rfl rfl (by decide) ?_
    refine aLd (v := .int .u8 47) st 0 rfl rfl rfl (by constructor) ?_
    refine aN rfl rfl (by constructor) ?_
    refine sE ?_
    show AWl _ _ _ _ _
    refine aN rfl rfl (by constructor) ?_
    refine aLit st rfl (by repeat constructor) fun b21 H48 st => ?_
    refine aN rfl rfl (by constructor) ?_
    refine sE ?_
    show AWl _ _ _ _ _
    refine aN rfl rfl (by constructor) ?_
    refine sE ?_
    show AWl _ _ _ _ _
    refine aN rfl rfl (by constructor) ?_
    refine aBinV (.int .u32 (n % 65536)) rfl rfl (remI (by omega) (by decide)) ?_
    refine aConvV (n' := (n % 65536)) rfl (by rw [w64]; omega) ?_
    refine aN rfl rfl (by constructor) ?_
    refine sE ?_
    show AWl _ _ _ _ _
    refine aN rfl rfl (by constructor) ?_
    refine aBinV (.bool false) rfl rfl rfl ?_
    refine sE ?_
    show AW _ (.cond _ _ _) _ _ _
    refine cF' rfl ?_
    show AWl _ _ _ _ _
    refine aN rfl rfl (by constructor) ?_
    refine aN rfl rfl (by constructor) ?_
    refine aC (big_call (n := 2) (v := (n % 65536)) (by decide)) fun v41 H49 ⟨b41, hv, st1⟩ => ?_
    subst hv
    replace st := st.call st1 rfl
    clear st1
    refine aAppP st 1 (ob := some b21) rfl rfl rfl (by decide) (by first | rfl | (simp [beB_len, *]; done) | (simp [beB_len, *]; omega)) (st.rowAll 0 rfl (by simp [beB_len])).src (by first | rfl | simp [beB_len]) (by first | decide | (simp [beB_len]; done) | omega) (by first | decide | (simp [beB_len]; done) | omega) (by first | decide | omega) (NfL.any _) fun b42 H50 st => ?_
    refine aN rfl rfl (by constructor) ?_
    refine sE ?_
    show AWl _ _ _ _ _
    refine aN rfl rfl (by constructor) ?_
    refine aLit st rfl (by repeat constructor) fun b44 H51 st => ?_
    refine aAppP st 2 (ob := some b42) rfl rfl rfl (by decide) (by first | rfl | simp [beB_len]) (st.rowAll 0 rfl (by first | rfl | (simp [beB_len, *]; done) | (simp [beB_len, *]; omega))).src (by first | rfl | simp [beB_len]) (by first | decide | (simp [beB_len]; done) | omega) (by first | decide | (simp [beB_len]; done) | omega) (by first | decide | omega) (NfL.any _) fun b45 H52 st => ?_
    rw [show ([.int .u8 47, .int .u8 0, .int .u8 0, .int .u8 0, .int .u8 0, .int .u8 0, .int .u8 0] : List Value) ++ (beB 2 (n % 65536)).map (Value.int .u8) ++ [.int .u8 0] = (([47, 0] ++ beB 4 0 ++ [0] ++ beB 2 (n % 65536) ++ [0] : List Int)).map (Value.int .u8) from rfl] at st
    refine aN rfl rfl (by constructor) ?_
    refine sE ?_
    show AWl _ _ _ _ _
    refine aN rfl rfl (by constructor) ?_
    refine aC (parse_call (xs := ([47, 0] ++ beB 4 0 ++ [0] ++ beB 2 (n % 65536) ++ [0] : List Int)) (st.rowAll 2 rfl rfl) (((((by simp only [byteL_cons, byteL_nil, and_true]; decide : ByteL [47, 0]).app (beB_bytes _ _)).app (by simp only [byteL_cons, byteL_nil, and_true]; decide)).app (beB_bytes _ _)).app (by simp only [byteL_cons, byteL_nil, and_true]; decide)) (by show (10 : Nat) ≤ _; decide)) fun v48 H53 ⟨f48, b48, hv, st1, hP48⟩ => ?_
    subst hv
    replace st := st.call st1 rfl
    clear st1
    rw [form10 (op := 47) (at_ := 0) (.inr (.inr (.inr rfl))) (by decide) (by omega) hP48]
    by_cases hk : (n % 65536) > 256
    · rw [if_pos hk]
      refine aN rfl rfl (by constructor) ?_
      refine aN rfl rfl (by constructor) ?_
      refine aN rfl rfl (by constructor) ?_
      refine aN rfl rfl (by constructor) ?_
      refine aNewP st rfl rfl (by repeat constructor) fun b9 H54 st => ?_
      refine aNewP st rfl rfl (by repeat constructor) fun b10 H55 st => ?_
      refine aSt st 1 rfl rfl rfl rfl (by first | rfl | simp [cellsOf, *]) (by first | decide | simp [*]) (by repeat constructor) fun H56 st => ?_
      refine aSt st 0 rfl rfl rfl rfl (by first | rfl | simp [cellsOf, *]) (by first | decide | simp [*]) (by repeat constructor) fun H57 st => ?_
      refine aN rfl rfl (by constructor) ?_
      refine sE ?_
      show AWl _ _ _ _ _
      refine aN rfl rfl (by constructor) ?_
      refine aBinV (.bool true) rfl rfl (congrArg (fun q => some (Value.bool q)) (decide_eq_true hk)) ?_
      refine sE ?_
      show AW _ (.cond _ _ _) _ _ _
      refine cT rfl ?_
      show AWp _ _ _ _ _
      refine aN rfl rfl (by constructor) ?_
      refine aN rfl rfl (by constructor) ?_
      refine aN rfl rfl (by constructor) ?_
      refine gT rfl ?_
      refine aLdA st 0 rfl rfl (by first | decide | simp [*]) (by repeat constructor) ?_
      refine gT rfl ?_
      refine aN rfl rfl (by constructor) ?_
      refine ⟨?_, trivial⟩
      refine gT rfl ?_
      refine aC (fault_call) fun v59 H58 ⟨hv, st1⟩ => ?_
      subst hv
      replace st := st.call st1 rfl
      clear st1
      refine ⟨⟨⟨some true, .bool true, (h_LdA st 0 rfl rfl (by first | decide | simp [*]) (by repeat constructor))⟩, trivial⟩, ?_⟩
      refine gT rfl ?_
      refine aEqAV true rfl rfl (by simp [eqL, eqV, flt]) ?_
      refine aN rfl rfl (by constructor) ?_
      refine aN rfl rfl (by constructor) ?_
      refine pE ?_
      refine ⟨_, out1 (r_tmp rfl (by constructor)), ?_⟩
      rfl
    · rw [if_neg hk]
      refine aN rfl rfl (by constructor) ?_
      refine aN rfl rfl (by constructor) ?_
      refine aN rfl rfl (by constructor) ?_
      refine aN rfl rfl (by constructor) ?_
      refine aNewP st rfl rfl (by repeat constructor) fun b9 H59 st => ?_
      refine aNewP st rfl rfl (by repeat constructor) fun b10 H60 st => ?_
      refine aSt st 1 rfl rfl rfl rfl (by first | rfl | simp [cellsOf, *]) (by first | decide | simp [*]) (by repeat constructor) fun H61 st => ?_
      refine aSt st 0 rfl rfl rfl rfl (by first | rfl | simp [cellsOf, *]) (by first | decide | simp [*]) (by repeat constructor) fun H62 st => ?_
      refine aN rfl rfl (by constructor) ?_
      refine sE ?_
      show AWl _ _ _ _ _
      refine aN rfl rfl (by constructor) ?_
      refine aBinV (.bool false) rfl rfl (congrArg (fun q => some (Value.bool q)) (decide_eq_false hk)) ?_
      refine sE ?_
      show AW _ (.cond _ _ _) _ _ _
      refine cF' rfl ?_
      show AWl _ _ _ _ _
      refine aN rfl rfl (by constructor) ?_
      refine aN rfl rfl (by constructor) ?_
      refine gT rfl ?_
      refine aN rfl rfl (by constructor) ?_
      refine gT rfl ?_
      refine aLd st 1 rfl rfl rfl (by constructor) ?_
      refine gT rfl ?_
      refine aN rfl rfl (by constructor) ?_
      refine gT rfl ?_
      refine aEqII rfl rfl ?_
      refine aN rfl rfl (by constructor) ?_
      refine aN rfl rfl (by constructor) ?_
      refine sE ?_
      refine ⟨_, out1 (r_tmp rfl (by constructor)), ?_⟩
      rfl
  · rw [hp]
    refine aIxL rfl rfl (by decide) ?_
    refine aLd (v := .int .u8 136) st 0 rfl rfl rfl (by constructor) ?_
    refine aN rfl rfl (by constructor) ?_
    refine sE ?_
    show AWl _ _ _ _ _
    refine aN rfl rfl (by constructor) ?_
    refine aLit st rfl (by repeat constructor) fun b21 H63 st => ?_
    refine aN rfl rfl (by constructor) ?_
    refine sE ?_
    show AWl _ _ _ _ _
    refine aN rfl rfl (by constructor) ?_
    refine sE ?_
    show AWl _ _ _ _ _
    refine aN rfl rfl (by constructor) ?_
    refine aBinV (.int .u32 (n % 65536)) rfl rfl (remI (by omega) (by decide)) ?_
    refine aConvV (n' := (n % 65536)) rfl (by rw [w64]; omega) ?_
    refine aN rfl rfl (by constructor) ?_
    refine sE ?_
    show AWl _ _ _ _ _
    refine aN rfl rfl (by constructor) ?_
    refine aBinV (.bool true) rfl rfl rfl ?_
    refine sE ?_
    show AW _ (.cond _ _ _) _ _ _
    refine cT rfl ?_
    show AWl _ _ _ _ _
    refine aN rfl rfl (by constructor) ?_
    refine aLit st rfl (by repeat constructor) fun b28 H64 st => ?_
    refine aAppP st 1 (ob := some b21) rfl rfl rfl (by decide) (by first | rfl | (simp [beB_len, *]; done) | (simp [beB_len, *]; omega)) (st.rowAll 0 rfl (by first | rfl | (simp [beB_len, *]; done) | (simp [beB_len, *]; omega))).src (by first | rfl | simp [beB_len]) (by first | decide | (simp [beB_len]; done) | omega) (by first | decide | (simp [beB_len]; done) | omega) (by first | decide | omega) (NfL.any _) fun b29 H65 st => ?_
    refine aN rfl rfl (by constructor) ?_
    refine sE ?_
    show AWl _ _ _ _ _
    refine aN rfl rfl (by constructor) ?_
    refine sE ?_
    show AWl _ _ _ _ _
    refine aN rfl rfl (by constructor) ?_
    refine aConvV (n' := n) rfl (by rw [w64]; omega) ?_
    refine aN rfl rfl (by constructor) ?_
    refine sE ?_
    show AWl _ _ _ _ _
    refine aN rfl rfl (by constructor) ?_
    refine aN rfl rfl (by constructor) ?_
    refine aC (big_call (n := 4) (v := n) (by decide)) fun v34 H66 ⟨b34, hv, st1⟩ => ?_
    subst hv
    replace st := st.call st1 rfl
    clear st1
    refine aAppP st 2 (ob := some b29) rfl rfl rfl (by decide) (by first | rfl | simp [beB_len]) (st.rowAll 0 rfl (by simp [beB_len])).src (by first | rfl | simp [beB_len]) (by first | decide | (simp [beB_len]; done) | omega) (by first | decide | (simp [beB_len]; done) | omega) (by first | decide | omega) (NfL.any _) fun b35 H67 st => ?_
    refine aN rfl rfl (by constructor) ?_
    refine sE ?_
    show AWl _ _ _ _ _
    refine aN rfl rfl (by constructor) ?_
    refine aLit st rfl (by repeat constructor) fun b37 H68 st => ?_
    refine aAppP st 3 (ob := some b35) rfl rfl rfl (by decide) (by first | rfl | simp [beB_len]) (st.rowAll 0 rfl (by first | rfl | (simp [beB_len, *]; done) | (simp [beB_len, *]; omega))).src (by first | rfl | simp [beB_len]) (by first | decide | (simp [beB_len]; done) | omega) (by first | decide | (simp [beB_len]; done) | omega) (by first | decide | omega) (NfL.any _) fun b38 H69 st => ?_
    rw [show ([.int .u8 136, .int .u8 0, .int .u8 0, .int .u8 0, .int .u8 0, .int .u8 0, .int .u8 0] : List Value) ++ [.int .u8 0, .int .u8 0, .int .u8 0] ++ (beB 4 n).map (Value.int .u8) ++ [.int .u8 0, .int .u8 0] = (([136, 0] ++ beB 8 0 ++ beB 4 n ++ [0, 0] : List Int)).map (Value.int .u8) from rfl] at st
    refine aN rfl rfl (by constructor) ?_
    refine sE ?_
    show AWl _ _ _ _ _
    refine aN rfl rfl (by constructor) ?_
    refine aC (parse_call (xs := ([136, 0] ++ beB 8 0 ++ beB 4 n ++ [0, 0] : List Int)) (st.rowAll 3 rfl rfl) ((((by simp only [byteL_cons, byteL_nil, and_true]; decide : ByteL [136, 0]).app (beB_bytes _ _)).app (beB_bytes _ _)).app (by simp only [byteL_cons, byteL_nil, and_true]; decide)) (by show (16 : Nat) ≤ _; decide)) fun v48 H70 ⟨f48, b48, hv, st1, hP48⟩ => ?_
    subst hv
    replace st := st.call st1 rfl
    clear st1
    rw [form16 (op := 136) (at_ := 0) (.inl rfl) (by decide) (by omega) hP48]
    by_cases hk : n > 256
    · rw [if_pos hk]
      refine aN rfl rfl (by constructor) ?_
      refine aN rfl rfl (by constructor) ?_
      refine aN rfl rfl (by constructor) ?_
      refine aN rfl rfl (by constructor) ?_
      refine aNewP st rfl rfl (by repeat constructor) fun b9 H71 st => ?_
      refine aNewP st rfl rfl (by repeat constructor) fun b10 H72 st => ?_
      refine aSt st 1 rfl rfl rfl rfl (by first | rfl | simp [cellsOf, *]) (by first | decide | simp [*]) (by repeat constructor) fun H73 st => ?_
      refine aSt st 0 rfl rfl rfl rfl (by first | rfl | simp [cellsOf, *]) (by first | decide | simp [*]) (by repeat constructor) fun H74 st => ?_
      refine aN rfl rfl (by constructor) ?_
      refine sE ?_
      show AWl _ _ _ _ _
      refine aN rfl rfl (by constructor) ?_
      refine aBinV (.bool true) rfl rfl (congrArg (fun q => some (Value.bool q)) (decide_eq_true hk)) ?_
      refine sE ?_
      show AW _ (.cond _ _ _) _ _ _
      refine cT rfl ?_
      show AWp _ _ _ _ _
      refine aN rfl rfl (by constructor) ?_
      refine aN rfl rfl (by constructor) ?_
      refine aN rfl rfl (by constructor) ?_
      refine gT rfl ?_
      refine aLdA st 0 rfl rfl (by first | decide | simp [*]) (by repeat constructor) ?_
      refine gT rfl ?_
      refine aN rfl rfl (by constructor) ?_
      refine ⟨?_, trivial⟩
      refine gT rfl ?_
      refine aC (fault_call) fun v59 H75 ⟨hv, st1⟩ => ?_
      subst hv
      replace st := st.call st1 rfl
      clear st1
      refine ⟨⟨⟨some true, .bool true, (h_LdA st 0 rfl rfl (by first | decide | simp [*]) (by repeat constructor))⟩, trivial⟩, ?_⟩
      refine gT rfl ?_
      refine aEqAV true rfl rfl (by simp [eqL, eqV, flt]) ?_
      refine aN rfl rfl (by constructor) ?_
      refine aN rfl rfl (by constructor) ?_
      refine pE ?_
      refine ⟨_, out1 (r_tmp rfl (by constructor)), ?_⟩
      rfl
    · rw [if_neg hk]
      refine aN rfl rfl (by constructor) ?_
      refine aN rfl rfl (by constructor) ?_
      refine aN rfl rfl (by constructor) ?_
      refine aN rfl rfl (by constructor) ?_
      refine aNewP st rfl rfl (by repeat constructor) fun b9 H76 st => ?_
      refine aNewP st rfl rfl (by repeat constructor) fun b10 H77 st => ?_
      refine aSt st 1 rfl rfl rfl rfl (by first | rfl | simp [cellsOf, *]) (by first | decide | simp [*]) (by repeat constructor) fun H78 st => ?_
      refine aSt st 0 rfl rfl rfl rfl (by first | rfl | simp [cellsOf, *]) (by first | decide | simp [*]) (by repeat constructor) fun H79 st => ?_
      refine aN rfl rfl (by constructor) ?_
      refine sE ?_
      show AWl _ _ _ _ _
      refine aN rfl rfl (by constructor) ?_
      refine aBinV (.bool false) rfl rfl (congrArg (fun q => some (Value.bool q)) (decide_eq_false hk)) ?_
      refine sE ?_
      show AW _ (.cond _ _ _) _ _ _
      refine cF' rfl ?_
      show AWl _ _ _ _ _
      refine aN rfl rfl (by constructor) ?_
      refine aN rfl rfl (by constructor) ?_
      refine gT rfl ?_
      refine aN rfl rfl (by constructor) ?_
      refine gT rfl ?_
      refine aLd st 1 rfl rfl rfl (by constructor) ?_
      refine gT rfl ?_
      refine aN rfl rfl (by constructor) ?_
      refine gT rfl ?_
      refine aEqII rfl rfl ?_
      refine aN rfl rfl (by constructor) ?_
      refine aN rfl rfl (by constructor) ?_
      refine sE ?_
      refine ⟨_, out1 (r_tmp rfl (by constructor)), ?_⟩
      rfl
  · rw [hp]
    refine aIxL rfl rfl (by decide) ?_
    refine aLd (v := .int .u8 138) st 0 rfl rfl rfl (by constructor) ?_
    refine aN rfl rfl (by constructor) ?_
    refine sE ?_
    show AWl _ _ _ _ _
    refine aN rfl rfl (by constructor) ?_
    refine aLit st rfl (by repeat constructor) fun b21 H80 st => ?_
    refine aN rfl rfl (by constructor) ?_
    refine sE ?_
    show AWl _ _ _ _ _
    refine aN rfl rfl (by constructor) ?_
    refine sE ?_
    show AWl _ _ _ _ _
    refine aN rfl rfl (by constructor) ?_
    refine aBinV (.int .u32 (n % 65536)) rfl rfl (remI (by omega) (by decide)) ?_
    refine aConvV (n' := (n % 65536)) rfl (by rw [w64]; omega) ?_
    refine aN rfl rfl (by constructor) ?_
    refine sE ?_
    show AWl _ _ _ _ _
    refine aN rfl rfl (by constructor) ?_
    refine aBinV (.bool true) rfl rfl rfl ?_
    refine sE ?_
    show AW _ (.cond _ _ _) _ _ _
    refine cT rfl ?_
    show AWl _ _ _ _ _
    refine aN rfl rfl (by constructor) ?_
    refine aLit st rfl (by repeat constructor) fun b28 H81 st => ?_
    refine aAppP st 1 (ob := some b21) rfl rfl rfl (by decide) (by first | rfl | (simp [beB_len, *]; done) | (simp [beB_len, *]; omega)) (st.rowAll 0 rfl (by first | rfl | (simp [beB_len, *]; done) | (simp [beB_len, *]; omega))).src (by first | rfl | simp [beB_len]) (by first | decide | (simp [beB_len]; done) | omega) (by first | decide | (simp [beB_len]; done) | omega) (by first | decide | omega) (NfL.any _) fun b29 H82 st => ?_
    refine aN rfl rfl (by constructor) ?_
    refine sE ?_
    show AWl _ _ _ _ _
    refine aN rfl rfl (by constructor) ?_
    refine sE ?_
    show AWl _ _ _ _ _
    refine aN rfl rfl (by constructor) ?_
    refine aConvV (n' := n) rfl (by rw [w64]; omega) ?_
    refine aN rfl rfl (by constructor) ?_
    refine sE ?_
    show AWl _ _ _ _ _
    refine aN rfl rfl (by constructor) ?_
    refine aN rfl rfl (by constructor) ?_
    refine aC (big_call (n := 4) (v := n) (by decide)) fun v34 H83 ⟨b34, hv, st1⟩ => ?_
    subst hv
    replace st := st.call st1 rfl
    clear st1
    refine aAppP st 2 (ob := some b29) rfl rfl rfl (by decide) (by first | rfl | simp [beB_len]) (st.rowAll 0 rfl (by simp [beB_len])).src (by first | rfl | simp [beB_len]) (by first | decide | (simp [beB_len]; done) | omega) (by first | decide | (simp [beB_len]; done) | omega) (by first | decide | omega) (NfL.any _) fun b35 H84 st => ?_
    refine aN rfl rfl (by constructor) ?_
    refine sE ?_
    show AWl _ _ _ _ _
    refine aN rfl rfl (by constructor) ?_
    refine aLit st rfl (by repeat constructor) fun b37 H85 st => ?_
    refine aAppP st 3 (ob := some b35) rfl rfl rfl (by decide) (by first | rfl | simp [beB_len]) (st.rowAll 0 rfl (by first | rfl | (simp [beB_len, *]; done) | (simp [beB_len, *]; omega))).src (by first | rfl | simp [beB_len]) (by first | decide | (simp [beB_len]; done) | omega) (by first | decide | (simp [beB_len]; done) | omega) (by first | decide | omega) (NfL.any _) fun b38 H86 st => ?_
    rw [show ([.int .u8 138, .int .u8 0, .int .u8 0, .int .u8 0, .int .u8 0, .int .u8 0, .int .u8 0] : List Value) ++ [.int .u8 0, .int .u8 0, .int .u8 0] ++ (beB 4 n).map (Value.int .u8) ++ [.int .u8 0, .int .u8 0] = (([138, 0] ++ beB 8 0 ++ beB 4 n ++ [0, 0] : List Int)).map (Value.int .u8) from rfl] at st
    refine aN rfl rfl (by constructor) ?_
    refine sE ?_
    show AWl _ _ _ _ _
    refine aN rfl rfl (by constructor) ?_
    refine aC (parse_call (xs := ([138, 0] ++ beB 8 0 ++ beB 4 n ++ [0, 0] : List Int)) (st.rowAll 3 rfl rfl) ((((by simp only [byteL_cons, byteL_nil, and_true]; decide : ByteL [138, 0]).app (beB_bytes _ _)).app (beB_bytes _ _)).app (by simp only [byteL_cons, byteL_nil, and_true]; decide)) (by show (16 : Nat) ≤ _; decide)) fun v48 H87 ⟨f48, b48, hv, st1, hP48⟩ => ?_
    subst hv
    replace st := st.call st1 rfl
    clear st1
    rw [form16 (op := 138) (at_ := 0) (.inr rfl) (by decide) (by omega) hP48]
    by_cases hk : n > 256
    · rw [if_pos hk]
      refine aN rfl rfl (by constructor) ?_
      refine aN rfl rfl (by constructor) ?_
      refine aN rfl rfl (by constructor) ?_
      refine aN rfl rfl (by constructor) ?_
      refine aNewP st rfl rfl (by repeat constructor) fun b9 H88 st => ?_
      refine aNewP st rfl rfl (by repeat constructor) fun b10 H89 st => ?_
      refine aSt st 1 rfl rfl rfl rfl (by first | rfl | simp [cellsOf, *]) (by first | decide | simp [*]) (by repeat constructor) fun H90 st => ?_
      refine aSt st 0 rfl rfl rfl rfl (by first | rfl | simp [cellsOf, *]) (by first | decide | simp [*]) (by repeat constructor) fun H91 st => ?_
      refine aN rfl rfl (by constructor) ?_
      refine sE ?_
      show AWl _ _ _ _ _
      refine aN rfl rfl (by constructor) ?_
      refine aBinV (.bool true) rfl rfl (congrArg (fun q => some (Value.bool q)) (decide_eq_true hk)) ?_
      refine sE ?_
      show AW _ (.cond _ _ _) _ _ _
      refine cT rfl ?_
      show AWp _ _ _ _ _
      refine aN rfl rfl (by constructor) ?_
      refine aN rfl rfl (by constructor) ?_
      refine aN rfl rfl (by constructor) ?_
      refine gT rfl ?_
      refine aLdA st 0 rfl rfl (by first | decide | simp [*]) (by repeat constructor) ?_
      refine gT rfl ?_
      refine aN rfl rfl (by constructor) ?_
      refine ⟨?_, trivial⟩
      refine gT rfl ?_
      refine aC (fault_call) fun v59 H92 ⟨hv, st1⟩ => ?_
      subst hv
      replace st := st.call st1 rfl
      clear st1
      refine ⟨⟨⟨some true, .bool true, (h_LdA st 0 rfl rfl (by first | decide | simp [*]) (by repeat constructor))⟩, trivial⟩, ?_⟩
      refine gT rfl ?_
      refine aEqAV true rfl rfl (by simp [eqL, eqV, flt]) ?_
      refine aN rfl rfl (by constructor) ?_
      refine aN rfl rfl (by constructor) ?_
      refine pE ?_
      refine ⟨_, out1 (r_tmp rfl (by constructor)), ?_⟩
      rfl
    · rw [if_neg hk]
      refine aN rfl rfl (by constructor) ?_
      refine aN rfl rfl (by constructor) ?_
      refine aN rfl rfl (by constructor) ?_
      refine aN rfl rfl (by constructor) ?_
      refine aNewP st rfl rfl (by repeat constructor) fun b9 H93 st => ?_
      refine aNewP st rfl rfl (by repeat constructor) fun b10 H94 st => ?_
      refine aSt st 1 rfl rfl rfl rfl (by first | rfl | simp [cellsOf, *]) (by first | decide | simp [*]) (by repeat constructor) fun H95 st => ?_
      refine aSt st 0 rfl rfl rfl rfl (by first | rfl | simp [cellsOf, *]) (by first | decide | simp [*]) (by repeat constructor) fun H96 st => ?_
      refine aN rfl rfl (by constructor) ?_
      refine sE ?_
      show AWl _ _ _ _ _
      refine aN rfl rfl (by constructor) ?_
      refine aBinV (.bool false) rfl rfl (congrArg (fun q => some (Value.bool q)) (decide_eq_false hk)) ?_
      refine sE ?_
      show AW _ (.cond _ _ _) _ _ _
      refine cF' rfl ?_
      show AWl _ _ _ _ _
      refine aN rfl rfl (by constructor) ?_
      refine aN rfl rfl (by constructor) ?_
      refine gT rfl ?_
      refine aN rfl rfl (by constructor) ?_
      refine gT rfl ?_
      refine aLd st 1 rfl rfl rfl (by constructor) ?_
      refine gT rfl ?_
      refine aN rfl rfl (by constructor) ?_
      refine gT rfl ?_
      refine aEqII rfl rfl ?_
      refine aN rfl rfl (by constructor) ?_
      refine aN rfl rfl (by constructor) ?_
      refine sE ?_
      refine ⟨_, out1 (r_tmp rfl (by constructor)), ?_⟩
      rfl
theorem cdbMany_law {H : Hp} {B : Nat} {xs : List Value} (hro : Ro H) (hd : datArgs Try.prog H B 8 [40, 5] xs) : ACalls Try.prog 8 xs H fun v _ => v = .bool true := by
  obtain ⟨x0, x1, rfl, d0, d1⟩ := args2 hd
  obtain ⟨n, rfl, wn⟩ := arg_int (k := .u32) (by kernel_rfl) d0
  obtain ⟨m, rfl, wm⟩ := arg_int (k := .u8) (by kernel_rfl) d1
  exact cmany_call (r32 wn) (r8 wm)

end Go.Proofs.Ytlbmfcbcmfcjbaa.Abs
