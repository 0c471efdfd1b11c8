/- CdbForms. -/
import Derived.Test.YtlbmfcbcmfcjbaaR3
set_option linter.unusedVariables false
set_option linter.unusedSimpArgs false
set_option maxRecDepth 100000
namespace Go.Proofs.Ytlbmfcbcmfcjbaa.Abs
open Go Go.RowKit
theorem forms_t {H : Hp} {lba n : Int} (hlba : 0 ≤ lba ∧ lba < 4294967296) (hn : 0 ≤ n ∧ n < 256) :
    ACalls Try.prog 7 [.int .u32 lba, .int .u8 n, .bool true] H (fun v _ => v = .bool true) := by
  refine acallsW Try.func7 f7_ok (Nat.le_of_ble_eq_true rfl) fun hw => ?_
  have st : Stt [] H H [] := Stt.start hw
  unfold f7c
  show AWl _ _ _ _ _
  refine aN rfl rfl (by constructor) ?_
  refine sE ?_
  show AWl _ _ _ _ _
  refine aC (awake_call) fun v22 H1 ⟨hv, st1⟩ => ?_
  subst hv
  replace st := st.call st1 rfl
  clear st1
  refine aN rfl rfl (by constructor) ?_
  refine sE ?_
  show AW _ (.cond _ _ _) _ _ _
  refine cF' rfl ?_
  show AWl _ _ _ _ _
  refine aN rfl rfl (by constructor) ?_
  refine aBinV (.int .u32 (lba % 2097152)) rfl rfl (remI (by omega) (by decide)) ?_
  refine aConvV (n' := (lba % 2097152)) rfl (by rw [w64]; omega) ?_
  refine aN rfl rfl (by constructor) ?_
  refine sE ?_
  show AWl _ _ _ _ _
  refine aN rfl rfl (by constructor) ?_
  refine aConvV (n' := n) rfl (by rw [w64]; omega) ?_
  refine aN rfl rfl (by constructor) ?_
  refine sE ?_
  show AWl _ _ _ _ _
  refine aN rfl rfl (by constructor) ?_
  refine aN rfl rfl (by constructor) ?_
  refine sE ?_
  show AW _ (.cond _ _ _) _ _ _
  refine cC' rfl (fun h2 => ?_) (fun h2 => ?_)
  · have hz : n = 0 := by simpa using h2
    show AWl _ _ _ _ _
    refine aN rfl rfl (by constructor) ?_
    refine sE ?_
    show AWl _ _ _ _ _
    refine aLit st rfl (by repeat constructor) fun b31 H3 st => ?_
    refine aN rfl rfl (by constructor) ?_
    refine sE ?_
    show AWl _ _ _ _ _
    refine aN rfl rfl (by constructor) ?_
    refine sE ?_
    show AW _ (.cond _ _ _) _ _ _
    refine cT rfl ?_
    show AWl _ _ _ _ _
    refine aLit st rfl (by repeat constructor) fun b33 H4 st => ?_
    refine aN rfl rfl (by constructor) ?_
    refine sE ?_
    show AWl _ _ _ _ _
    refine aN rfl rfl (by constructor) ?_
    refine aN rfl rfl (by constructor) ?_
    refine aLd st 0 rfl rfl rfl (by constructor) ?_
    refine aLit st rfl (by repeat constructor) fun b37 H5 st => ?_
    refine aN rfl rfl (by constructor) ?_
    refine sE ?_
    show AWl _ _ _ _ _
    refine aN rfl rfl (by constructor) ?_
    refine aN rfl rfl (by constructor) ?_
    refine aC (big_call (n := 3) (v := (lba % 2097152)) (by decide)) fun v40 H6 ⟨b40, hv, st1⟩ => ?_
    subst hv
    replace st := st.call st1 rfl
    clear st1
    refine aAppP st 1 (ob := some b37) rfl rfl rfl (by decide) (by first | rfl | (simp [beB_len, *]; done) | (simp [beB_len, *]; omega)) (st.rowAll 0 rfl (by simp [beB_len])).src (by first | rfl | simp [beB_len]) (by first | decide | (simp [beB_len]; done) | omega) (by first | decide | (simp [beB_len]; done) | omega) (by first | decide | omega) (NfL.any _) fun b41 H7 st => ?_
    refine aN rfl rfl (by constructor) ?_
    refine sE ?_
    show AWl _ _ _ _ _
    refine aN rfl rfl (by constructor) ?_
    refine aN rfl rfl (by constructor) ?_
    refine aLit st rfl (by repeat constructor) fun b44 H8 st => ?_
    refine aAppP st 2 (ob := some b41) rfl rfl rfl (by decide) (by first | rfl | simp [beB_len]) (st.rowAll 0 rfl (by first | rfl | (simp [beB_len, *]; done) | (simp [beB_len, *]; omega))).src (by first | rfl | simp [beB_len]) (by first | decide | (simp [beB_len]; done) | omega) (by first | decide | (simp [beB_len]; done) | omega) (by first | decide | omega) (NfL.any _) fun b45 H9 st => ?_
    rw [show ([.int .u8 10] : List Value) ++ (beB 3 (lba % 2097152)).map (Value.int .u8) ++ [.int .u8 n, .int .u8 0] = (([10] ++ beB 3 (lba % 2097152) ++ [n, 0] : List Int)).map (Value.int .u8) from rfl] at st
    refine aN rfl rfl (by constructor) ?_
    refine sE ?_
    show AWl _ _ _ _ _
    refine aN rfl rfl (by constructor) ?_
    refine aN rfl rfl (by constructor) ?_
    refine aLd st 3 rfl rfl rfl (by constructor) ?_
    refine aLit st rfl (by repeat constructor) fun b49 H10 st => ?_
    refine aN rfl rfl (by constructor) ?_
    refine sE ?_
    show AWl _ _ _ _ _
    refine aN rfl rfl (by constructor) ?_
    refine aN rfl rfl (by constructor) ?_
    refine aC (big_call (n := 4) (v := (lba % 2097152)) (by decide)) fun v52 H11 ⟨b52, hv, st1⟩ => ?_
    subst hv
    replace st := st.call st1 rfl
    clear st1
    refine aAppP st 1 (ob := some b49) rfl rfl rfl (by decide) (by first | rfl | (simp [beB_len, *]; done) | (simp [beB_len, *]; omega)) (st.rowAll 0 rfl (by simp [beB_len])).src (by first | rfl | simp [beB_len]) (by first | decide | (simp [beB_len]; done) | omega) (by first | decide | (simp [beB_len]; done) | omega) (by first | decide | omega) (NfL.any _) fun b53 H12 st => ?_
    refine aN rfl rfl (by constructor) ?_
    refine sE ?_
    show AWl _ _ _ _ _
    refine aN rfl rfl (by constructor) ?_
    refine aLit st rfl (by repeat constructor) fun b55 H13 st => ?_
    refine aAppP st 2 (ob := some b53) rfl rfl rfl (by decide) (by first | rfl | simp [beB_len]) (st.rowAll 0 rfl (by first | rfl | (simp [beB_len, *]; done) | (simp [beB_len, *]; omega))).src (by first | rfl | simp [beB_len]) (by first | decide | (simp [beB_len]; done) | omega) (by first | decide | (simp [beB_len]; done) | omega) (by first | decide | omega) (NfL.any _) fun b56 H14 st => ?_
    refine aN rfl rfl (by constructor) ?_
    refine sE ?_
    show AWl _ _ _ _ _
    refine aN rfl rfl (by constructor) ?_
    refine aN rfl rfl (by constructor) ?_
    refine aC (big_call (n := 2) (v := 256) (by decide)) fun v59 H15 ⟨b59, hv, st1⟩ => ?_
    subst hv
    replace st := st.call st1 rfl
    clear st1
    refine aAppP st 3 (ob := some b56) rfl rfl rfl (by decide) (by first | rfl | simp [beB_len]) (st.rowAll 0 rfl (by simp [beB_len])).src (by first | rfl | simp [beB_len]) (by first | decide | (simp [beB_len]; done) | omega) (by first | decide | (simp [beB_len]; done) | omega) (by first | decide | omega) (NfL.any _) fun b60 H16 st => ?_
    refine aN rfl rfl (by constructor) ?_
    refine sE ?_
    show AWl _ _ _ _ _
    refine aN rfl rfl (by constructor) ?_
    refine aLit st rfl (by repeat constructor) fun b62 H17 st => ?_
    refine aAppP st 4 (ob := some b60) rfl rfl rfl (by decide) (by first | rfl | simp [beB_len]) (st.rowAll 0 rfl (by first | rfl | (simp [beB_len, *]; done) | (simp [beB_len, *]; omega))).src (by first | rfl | simp [beB_len]) (by first | decide | (simp [beB_len]; done) | omega) (by first | decide | (simp [beB_len]; done) | omega) (by first | decide | omega) (NfL.any _) fun b63 H18 st => ?_
    rw [show ([.int .u8 42, .int .u8 0] : List Value) ++ (beB 4 (lba % 2097152)).map (Value.int .u8) ++ [.int .u8 0] ++ (beB 2 256).map (Value.int .u8) ++ [.int .u8 0] = (([42, 0] ++ beB 4 (lba % 2097152) ++ [0] ++ beB 2 256 ++ [0] : List Int)).map (Value.int .u8) from rfl] at st
    refine aN rfl rfl (by constructor) ?_
    refine sE ?_
    show AWl _ _ _ _ _
    refine aN rfl rfl (by constructor) ?_
    refine aN rfl rfl (by constructor) ?_
    refine aLd st 8 rfl rfl rfl (by constructor) ?_
    refine aLit st rfl (by repeat constructor) fun b67 H19 st => ?_
    refine aN rfl rfl (by constructor) ?_
    refine sE ?_
    show AWl _ _ _ _ _
    refine aN rfl rfl (by constructor) ?_
    refine aN rfl rfl (by constructor) ?_
    refine aC (big_call (n := 8) (v := (lba % 2097152)) (by decide)) fun v70 H20 ⟨b70, hv, st1⟩ => ?_
    subst hv
    replace st := st.call st1 rfl
    clear st1
    refine aAppP st 1 (ob := some b67) rfl rfl rfl (by decide) (by first | rfl | (simp [beB_len, *]; done) | (simp [beB_len, *]; omega)) (st.rowAll 0 rfl (by simp [beB_len])).src (by first | rfl | simp [beB_len]) (by first | decide | (simp [beB_len]; done) | omega) (by first | decide | (simp [beB_len]; done) | omega) (by first | decide | omega) (NfL.any _) fun b71 H21 st => ?_
    refine aN rfl rfl (by constructor) ?_
    refine sE ?_
    show AWl _ _ _ _ _
    refine aN rfl rfl (by constructor) ?_
    refine aN rfl rfl (by constructor) ?_
    refine aC (big_call (n := 4) (v := 256) (by decide)) fun v74 H22 ⟨b74, hv, st1⟩ => ?_
    subst hv
    replace st := st.call st1 rfl
    clear st1
    refine aAppP st 2 (ob := some b71) rfl rfl rfl (by decide) (by first | rfl | simp [beB_len]) (st.rowAll 0 rfl (by simp [beB_len])).src (by first | rfl | simp [beB_len]) (by first | decide | (simp [beB_len]; done) | omega) (by first | decide | (simp [beB_len]; done) | omega) (by first | decide | omega) (NfL.any _) fun b75 H23 st => ?_
    refine aN rfl rfl (by constructor) ?_
    refine sE ?_
    show AWl _ _ _ _ _
    refine aN rfl rfl (by constructor) ?_
    refine aLit st rfl (by repeat constructor) fun b77 H24 st => ?_
    refine aAppP st 3 (ob := some b75) rfl rfl rfl (by decide) (by first | rfl | simp [beB_len]) (st.rowAll 0 rfl (by first | rfl | (simp [beB_len, *]; done) | (simp [beB_len, *]; omega))).src (by first | rfl | simp [beB_len]) (by first | decide | (simp [beB_len]; done) | omega) (by first | decide | (simp [beB_len]; done) | omega) (by first | decide | omega) (NfL.any _) fun b78 H25 st => ?_
    rw [show ([.int .u8 138, .int .u8 0] : List Value) ++ (beB 8 (lba % 2097152)).map (Value.int .u8) ++ (beB 4 256).map (Value.int .u8) ++ [.int .u8 0, .int .u8 0] = (([138, 0] ++ beB 8 (lba % 2097152) ++ beB 4 256 ++ [0, 0] : List Int)).map (Value.int .u8) from rfl] at st
    refine aN rfl rfl (by constructor) ?_
    refine sE ?_
    show AWl _ _ _ _ _
    refine aN rfl rfl (by constructor) ?_
    refine aC (parse_call (xs := ([10] ++ beB 3 (lba % 2097152) ++ [n, 0] : List Int)) (st.rowAll 11 rfl rfl) ((((byteL_cons.2 ⟨by decide, byteL_nil.2 trivial⟩ : ByteL [10]).app (beB_bytes _ _)).app (byteL_cons.2 ⟨by omega, by simp only [byteL_cons, byteL_nil, and_true]; decide⟩))) (by show (6 : Nat) ≤ _; decide)) fun v81 H26 ⟨f81, b81, hv, st1, hP81⟩ => ?_
    subst hv
    replace st := st.call st1 rfl
    clear st1
    rw [form6 (op := 10) (.inr rfl) (by omega) hn hP81, if_pos hz]
    refine aN rfl rfl (by constructor) ?_
    refine aN rfl rfl (by constructor) ?_
    refine aN rfl rfl (by constructor) ?_
    refine aN rfl rfl (by constructor) ?_
    refine aNewP st rfl rfl (by repeat constructor) fun b13 H27 st => ?_
    refine aNewP st rfl rfl (by repeat constructor) fun b14 H28 st => ?_
    refine aSt st 1 rfl rfl rfl rfl (by first | rfl | simp [cellsOf, *]) (by first | decide | simp [*]) (by repeat constructor) fun H29 st => ?_
    refine aSt st 0 rfl rfl rfl rfl (by first | rfl | simp [cellsOf, *]) (by first | decide | simp [*]) (by repeat constructor) fun H30 st => ?_
    refine aN rfl rfl (by constructor) ?_
    refine sE ?_
    show AWl _ _ _ _ _
    refine aN rfl rfl (by constructor) ?_
    refine aC (parse_call (xs := ([42, 0] ++ beB 4 (lba % 2097152) ++ [0] ++ beB 2 256 ++ [0] : List Int)) (st.rowAll 10 rfl rfl) (((((by simp only [byteL_cons, byteL_nil, and_true]; decide : ByteL [42, 0]).app (beB_bytes _ _)).app (by simp only [byteL_cons, byteL_nil, and_true]; decide)).app (beB_bytes _ _)).app (by simp only [byteL_cons, byteL_nil, and_true]; decide)) (by show (10 : Nat) ≤ _; decide)) fun v87 H31 ⟨f87, b87, hv, st1, hP87⟩ => ?_
    subst hv
    replace st := st.call st1 rfl
    clear st1
    rw [form10 (op := 42) (.inr (.inl rfl)) (by omega) (by omega) hP87, if_neg (by omega)]
    refine aN rfl rfl (by constructor) ?_
    refine aN rfl rfl (by constructor) ?_
    refine aN rfl rfl (by constructor) ?_
    refine aN rfl rfl (by constructor) ?_
    refine aNewP st rfl rfl (by repeat constructor) fun b16 H32 st => ?_
    refine aNewP st rfl rfl (by repeat constructor) fun b17 H33 st => ?_
    refine aSt st 1 rfl rfl rfl rfl (by first | rfl | simp [cellsOf, *]) (by first | decide | simp [*]) (by repeat constructor) fun H34 st => ?_
    refine aSt st 0 rfl rfl rfl rfl (by first | rfl | simp [cellsOf, *]) (by first | decide | simp [*]) (by repeat constructor) fun H35 st => ?_
    refine aN rfl rfl (by constructor) ?_
    refine sE ?_
    show AWl _ _ _ _ _
    refine aN rfl rfl (by constructor) ?_
    refine aC (parse_call (xs := ([138, 0] ++ beB 8 (lba % 2097152) ++ beB 4 256 ++ [0, 0] : List Int)) (st.rowAll 7 rfl rfl) ((((by simp only [byteL_cons, byteL_nil, and_true]; decide : ByteL [138, 0]).app (beB_bytes _ _)).app (beB_bytes _ _)).app (by simp only [byteL_cons, byteL_nil, and_true]; decide)) (by show (16 : Nat) ≤ _; decide)) fun v93 H36 ⟨f93, b93, hv, st1, hP93⟩ => ?_
    subst hv
    replace st := st.call st1 rfl
    clear st1
    rw [form16 (op := 138) (.inr rfl) (by omega) (by omega) hP93, if_neg (by omega)]
    refine aN rfl rfl (by constructor) ?_
    refine aN rfl rfl (by constructor) ?_
    refine aN rfl rfl (by constructor) ?_
    refine aN rfl rfl (by constructor) ?_
    refine aNewP st rfl rfl (by repeat constructor) fun b19 H37 st => ?_
    refine aNewP st rfl rfl (by repeat constructor) fun b20 H38 st => ?_
    refine aSt st 1 rfl rfl rfl rfl (by first | rfl | simp [cellsOf, *]) (by first | decide | simp [*]) (by repeat constructor) fun H39 st => ?_
    refine aSt st 0 rfl rfl rfl rfl (by first | rfl | simp [cellsOf, *]) (by first | decide | simp [*]) (by repeat constructor) fun H40 st => ?_
    refine aN rfl rfl (by constructor) ?_
    refine sE ?_
    show AWl _ _ _ _ _
    refine aN rfl rfl (by constructor) ?_
    refine aN rfl rfl (by constructor) ?_
    refine gT rfl ?_
    refine aN rfl rfl (by constructor) ?_
    refine aN rfl rfl (by constructor) ?_
    refine aN rfl rfl (by constructor) ?_
    refine gT rfl ?_
    refine aN rfl rfl (by constructor) ?_
    refine aN rfl rfl (by constructor) ?_
    refine aN rfl rfl (by constructor) ?_
    refine gT rfl ?_
    refine aLdA st 5 rfl rfl (by first | decide | simp [*]) (by repeat constructor) ?_
    refine gT rfl ?_
    refine aLdA st 3 rfl rfl (by first | decide | simp [*]) (by repeat constructor) ?_
    refine gT rfl ?_
    refine aEqAV true rfl rfl (by simp [eqL, eqV, cmd0, kindL]) ?_
    refine aN rfl rfl (by constructor) ?_
    refine aN rfl rfl (by constructor) ?_
    refine gT rfl ?_
    refine aLdA st 3 rfl rfl (by first | decide | simp [*]) (by repeat constructor) ?_
    refine gT rfl ?_
    refine aLdA st 1 rfl rfl (by first | decide | simp [*]) (by repeat constructor) ?_
    refine gT rfl ?_
    refine aEqAV true rfl rfl (by simp [eqL, eqV, cmd0, kindL]) ?_
    refine aN rfl rfl (by constructor) ?_
    refine aN rfl rfl (by constructor) ?_
    refine gT rfl ?_
    refine aN rfl rfl (by constructor) ?_
    refine gT rfl ?_
    refine aLd st 5 rfl rfl rfl (by constructor) ?_
    refine gT rfl ?_
    refine aN rfl rfl (by constructor) ?_
    refine gT rfl ?_
    refine aEqII rfl rfl ?_
    refine aN rfl rfl (by constructor) ?_
    refine aN rfl rfl (by constructor) ?_
    refine gT rfl ?_
    refine aN rfl rfl (by constructor) ?_
    refine gT rfl ?_
    refine aLd st 5 rfl rfl rfl (by constructor) ?_
    refine gT rfl ?_
    refine aN rfl rfl (by constructor) ?_
    refine gT rfl ?_
    refine aEqII rfl rfl ?_
    refine aN rfl rfl (by constructor) ?_
    refine aN rfl rfl (by constructor) ?_
    refine gT rfl ?_
    refine aN rfl rfl (by constructor) ?_
    refine gT rfl ?_
    refine aLd st 5 rfl rfl rfl (by constructor) ?_
    refine gT rfl ?_
    refine aBinV (.bool true) rfl rfl rfl ?_
    refine gT rfl ?_
    refine aN rfl rfl (by constructor) ?_
    refine gT rfl ?_
    refine aEqBB (u := true) rfl rfl ?_
    refine aN rfl rfl (by constructor) ?_
    refine aN rfl rfl (by constructor) ?_
    refine sE ?_
    refine ⟨_, out1 (r_tmp rfl (by constructor)), ?_⟩
    rfl
  · have hz : ¬ n = 0 := by simpa using h2
    show AWl _ _ _ _ _
    refine aLit st rfl (by repeat constructor) fun b31 H41 st => ?_
    refine aN rfl rfl (by constructor) ?_
    refine sE ?_
    show AWl _ _ _ _ _
    refine aN rfl rfl (by constructor) ?_
    refine sE ?_
    show AW _ (.cond _ _ _) _ _ _
    refine cT rfl ?_
    show AWl _ _ _ _ _
    refine aLit st rfl (by repeat constructor) fun b33 H42 st => ?_
    refine aN rfl rfl (by constructor) ?_
    refine sE ?_
    show AWl _ _ _ _ _
    refine aN rfl rfl (by constructor) ?_
    refine aN rfl rfl (by constructor) ?_
    refine aLd st 0 rfl rfl rfl (by constructor) ?_
    refine aLit st rfl (by repeat constructor) fun b37 H43 st => ?_
    refine aN rfl rfl (by constructor) ?_
    refine sE ?_
    show AWl _ _ _ _ _
    refine aN rfl rfl (by constructor) ?_
    refine aN rfl rfl (by constructor) ?_
    refine aC (big_call (n := 3) (v := (lba % 2097152)) (by decide)) fun v40 H44 ⟨b40, hv, st1⟩ => ?_
    subst hv
    replace st := st.call st1 rfl
    clear st1
    refine aAppP st 1 (ob := some b37) rfl rfl rfl (by decide) (by first | rfl | (simp [beB_len, *]; done) | (simp [beB_len, *]; omega)) (st.rowAll 0 rfl (by simp [beB_len])).src (by first | rfl | simp [beB_len]) (by first | decide | (simp [beB_len]; done) | omega) (by first | decide | (simp [beB_len]; done) | omega) (by first | decide | omega) (NfL.any _) fun b41 H45 st => ?_
    refine aN rfl rfl (by constructor) ?_
    refine sE ?_
    show AWl _ _ _ _ _
    refine aN rfl rfl (by constructor) ?_
    refine aN rfl rfl (by constructor) ?_
    refine aLit st rfl (by repeat constructor) fun b44 H46 st => ?_
    refine aAppP st 2 (ob := some b41) rfl rfl rfl (by decide) (by first | rfl | simp [beB_len]) (st.rowAll 0 rfl (by first | rfl | (simp [beB_len, *]; done) | (simp [beB_len, *]; omega))).src (by first | rfl | simp [beB_len]) (by first | decide | (simp [beB_len]; done) | omega) (by first | decide | (simp [beB_len]; done) | omega) (by first | decide | omega) (NfL.any _) fun b45 H47 st => ?_
    rw [show ([.int .u8 10] : List Value) ++ (beB 3 (lba % 2097152)).map (Value.int .u8) ++ [.int .u8 n, .int .u8 0] = (([10] ++ beB 3 (lba % 2097152) ++ [n, 0] : List Int)).map (Value.int .u8) from rfl] at st
    refine aN rfl rfl (by constructor) ?_
    refine sE ?_
    show AWl _ _ _ _ _
    refine aN rfl rfl (by constructor) ?_
    refine aN rfl rfl (by constructor) ?_
    refine aLd st 3 rfl rfl rfl (by constructor) ?_
    refine aLit st rfl (by repeat constructor) fun b49 H48 st => ?_
    refine aN rfl rfl (by constructor) ?_
    refine sE ?_
    show AWl _ _ _ _ _
    refine aN rfl rfl (by constructor) ?_
    refine aN rfl rfl (by constructor) ?_
    refine aC (big_call (n := 4) (v := (lba % 2097152)) (by decide)) fun v52 H49 ⟨b52, hv, st1⟩ => ?_
    subst hv
    replace st := st.call st1 rfl
    clear st1
    refine aAppP st 1 (ob := some b49) rfl rfl rfl (by decide) (by first | rfl | (simp [beB_len, *]; done) | (simp [beB_len, *]; omega)) (st.rowAll 0 rfl (by simp [beB_len])).src (by first | rfl | simp [beB_len]) (by first | decide | (simp [beB_len]; done) | omega) (by first | decide | (simp [beB_len]; done) | omega) (by first | decide | omega) (NfL.any _) fun b53 H50 st => ?_
    refine aN rfl rfl (by constructor) ?_
    refine sE ?_
    show AWl _ _ _ _ _
    refine aN rfl rfl (by constructor) ?_
    refine aLit st rfl (by repeat constructor) fun b55 H51 st => ?_
    refine aAppP st 2 (ob := some b53) rfl rfl rfl (by decide) (by first | rfl | simp [beB_len]) (st.rowAll 0 rfl (by first | rfl | (simp [beB_len, *]; done) | (simp [beB_len, *]; omega))).src (by first | rfl | simp [beB_len]) (by first | decide | (simp [beB_len]; done) | omega) (by first | decide | (simp [beB_len]; done) | omega) (by first | decide | omega) (NfL.any _) fun b56 H52 st => ?_
    refine aN rfl rfl (by constructor) ?_
    refine sE ?_
    show AWl _ _ _ _ _
    refine aN rfl rfl (by constructor) ?_
    refine aN rfl rfl (by constructor) ?_
    refine aC (big_call (n := 2) (v := n) (by decide)) fun v59 H53 ⟨b59, hv, st1⟩ => ?_
    subst hv
    replace st := st.call st1 rfl
    clear st1
    refine aAppP st 3 (ob := some b56) rfl rfl rfl (by decide) (by first | rfl | simp [beB_len]) (st.rowAll 0 rfl (by simp [beB_len])).src (by first | rfl | simp [beB_len]) (by first | decide | (simp [beB_len]; done) | omega) (by first | decide | (simp [beB_len]; done) | omega) (by first | decide | omega) (NfL.any _) fun b60 H54 st => ?_
    refine aN rfl rfl (by constructor) ?_
    refine sE ?_
    show AWl _ _ _ _ _
    refine aN rfl rfl (by constructor) ?_
    refine aLit st rfl (by repeat constructor) fun b62 H55 st => ?_
    refine aAppP st 4 (ob := some b60) rfl rfl rfl (by decide) (by first | rfl | simp [beB_len]) (st.rowAll 0 rfl (by first | rfl | (simp [beB_len, *]; done) | (simp [beB_len, *]; omega))).src (by first | rfl | simp [beB_len]) (by first | decide | (simp [beB_len]; done) | omega) (by first | decide | (simp [beB_len]; done) | omega) (by first | decide | omega) (NfL.any _) fun b63 H56 st => ?_
    rw [show ([.int .u8 42, .int .u8 0] : List Value) ++ (beB 4 (lba % 2097152)).map (Value.int .u8) ++ [.int .u8 0] ++ (beB 2 n).map (Value.int .u8) ++ [.int .u8 0] = (([42, 0] ++ beB 4 (lba % 2097152) ++ [0] ++ beB 2 n ++ [0] : List Int)).map (Value.int .u8) from rfl] at st
    refine aN rfl rfl (by constructor) ?_
    refine sE ?_
    show AWl _ _ _ _ _
    refine aN rfl rfl (by constructor) ?_
    refine aN rfl rfl (by constructor) ?_
    refine aLd st 8 rfl rfl rfl (by constructor) ?_
    refine aLit st rfl (by repeat constructor) fun b67 H57 st => ?_
    refine aN rfl rfl (by constructor) ?_
    refine sE ?_
    show AWl _ _ _ _ _
    refine aN rfl rfl (by constructor) ?_
    refine aN rfl rfl (by constructor) ?_
    refine aC (big_call (n := 8) (v := (lba % 2097152)) (by decide)) fun v70 H58 ⟨b70, hv, st1⟩ => ?_
    subst hv
    replace st := st.call st1 rfl
    clear st1
    refine aAppP st 1 (ob := some b67) rfl rfl rfl (by decide) (by first | rfl | (simp [beB_len, *]; done) | (simp [beB_len, *]; omega)) (st.rowAll 0 rfl (by simp [beB_len])).src (by first | rfl | simp [beB_len]) (by first | decide | (simp [beB_len]; done) | omega) (by first | decide | (simp [beB_len]; done) | omega) (by first | decide | omega) (NfL.any _) fun b71 H59 st => ?_
    refine aN rfl rfl (by constructor) ?_
    refine sE ?_
    show AWl _ _ _ _ _
    refine aN rfl rfl (by constructor) ?_
    refine aN rfl rfl (by constructor) ?_
    refine aC (big_call (n := 4) (v := n) (by decide)) fun v74 H60 ⟨b74, hv, st1⟩ => ?_
    subst hv
    replace st := st.call st1 rfl
    clear st1
    refine aAppP st 2 (ob := some b71) rfl rfl rfl (by decide) (by first | rfl | simp [beB_len]) (st.rowAll 0 rfl (by simp [beB_len])).src (by first | rfl | simp [beB_len]) (by first | decide | (simp [beB_len]; done) | omega) (by first | decide | (simp [beB_len]; done) | omega) (by first | decide | omega) (NfL.any _) fun b75 H61 st => ?_
    refine aN rfl rfl (by constructor) ?_
    refine sE ?_
    show AWl _ _ _ _ _
    refine aN rfl rfl (by constructor) ?_
    refine aLit st rfl (by repeat constructor) fun b77 H62 st => ?_
    refine aAppP st 3 (ob := some b75) rfl rfl rfl (by decide) (by first | rfl | simp [beB_len]) (st.rowAll 0 rfl (by first | rfl | (simp [beB_len, *]; done) | (simp [beB_len, *]; omega))).src (by first | rfl | simp [beB_len]) (by first | decide | (simp [beB_len]; done) | omega) (by first | decide | (simp [beB_len]; done) | omega) (by first | decide | omega) (NfL.any _) fun b78 H63 st => ?_
    rw [show ([.int .u8 138, .int .u8 0] : List Value) ++ (beB 8 (lba % 2097152)).map (Value.int .u8) ++ (beB 4 n).map (Value.int .u8) ++ [.int .u8 0, .int .u8 0] = (([138, 0] ++ beB 8 (lba % 2097152) ++ beB 4 n ++ [0, 0] : List Int)).map (Value.int .u8) from rfl] at st
    refine aN rfl rfl (by constructor) ?_
    refine sE ?_
    show AWl _ _ _ _ _
    refine aN rfl rfl (by constructor) ?_
    refine aC (parse_call (xs := ([10] ++ beB 3 (lba % 2097152) ++ [n, 0] : List Int)) (st.rowAll 11 rfl rfl) ((((byteL_cons.2 ⟨by decide, byteL_nil.2 trivial⟩ : ByteL [10]).app (beB_bytes _ _)).app (byteL_cons.2 ⟨by omega, by simp only [byteL_cons, byteL_nil, and_true]; decide⟩))) (by show (6 : Nat) ≤ _; decide)) fun v81 H64 ⟨f81, b81, hv, st1, hP81⟩ => ?_
    subst hv
    replace st := st.call st1 rfl
    clear st1
    rw [form6 (op := 10) (.inr rfl) (by omega) hn hP81, if_neg hz]
    refine aN rfl rfl (by constructor) ?_
    refine aN rfl rfl (by constructor) ?_
    refine aN rfl rfl (by constructor) ?_
    refine aN rfl rfl (by constructor) ?_
    refine aNewP st rfl rfl (by repeat constructor) fun b13 H65 st => ?_
    refine aNewP st rfl rfl (by repeat constructor) fun b14 H66 st => ?_
    refine aSt st 1 rfl rfl rfl rfl (by first | rfl | simp [cellsOf, *]) (by first | decide | simp [*]) (by repeat constructor) fun H67 st => ?_
    refine aSt st 0 rfl rfl rfl rfl (by first | rfl | simp [cellsOf, *]) (by first | decide | simp [*]) (by repeat constructor) fun H68 st => ?_
    refine aN rfl rfl (by constructor) ?_
    refine sE ?_
    show AWl _ _ _ _ _
    refine aN rfl rfl (by constructor) ?_
    refine aC (parse_call (xs := ([42, 0] ++ beB 4 (lba % 2097152) ++ [0] ++ beB 2 n ++ [0] : List Int)) (st.rowAll 10 rfl rfl) (((((by simp only [byteL_cons, byteL_nil, and_true]; decide : ByteL [42, 0]).app (beB_bytes _ _)).app (by simp only [byteL_cons, byteL_nil, and_true]; decide)).app (beB_bytes _ _)).app (by simp only [byteL_cons, byteL_nil, and_true]; decide)) (by show (10 : Nat) ≤ _; decide)) fun v87 H69 ⟨f87, b87, hv, st1, hP87⟩ => ?_
    subst hv
    replace st := st.call st1 rfl
    clear st1
    rw [form10 (op := 42) (.inr (.inl rfl)) (by omega) (by omega) hP87, if_neg (by omega)]
    refine aN rfl rfl (by constructor) ?_
    refine aN rfl rfl (by constructor) ?_
    refine aN rfl rfl (by constructor) ?_
    refine aN rfl rfl (by constructor) ?_
    refine aNewP st rfl rfl (by repeat constructor) fun b16 H70 st => ?_
    refine aNewP st rfl rfl (by repeat constructor) fun b17 H71 st => ?_
    refine aSt st 1 rfl rfl rfl rfl (by first | rfl | simp [cellsOf, *]) (by first | decide | simp [*]) (by repeat constructor) fun H72 st => ?_
    refine aSt st 0 rfl rfl rfl rfl (by first | rfl | simp [cellsOf, *]) (by first | decide | simp [*]) (by repeat constructor) fun H73 st => ?_
    refine aN rfl rfl (by constructor) ?_
    refine sE ?_
    show AWl _ _ _ _ _
    refine aN rfl rfl (by constructor) ?_
    refine aC (parse_call (xs := ([138, 0] ++ beB 8 (lba % 2097152) ++ beB 4 n ++ [0, 0] : List Int)) (st.rowAll 7 rfl rfl) ((((by simp only [byteL_cons, byteL_nil, and_true]; decide : ByteL [138, 0]).app (beB_bytes _ _)).app (beB_bytes _ _)).app (by simp only [byteL_cons, byteL_nil, and_true]; decide)) (by show (16 : Nat) ≤ _; decide)) fun v93 H74 ⟨f93, b93, hv, st1, hP93⟩ => ?_
    subst hv
    replace st := st.call st1 rfl
    clear st1
    rw [form16 (op := 138) (.inr rfl) (by omega) (by omega) hP93, if_neg (by omega)]
    refine aN rfl rfl (by constructor) ?_
    refine aN rfl rfl (by constructor) ?_
    refine aN rfl rfl (by constructor) ?_
    refine aN rfl rfl (by constructor) ?_
    refine aNewP st rfl rfl (by repeat constructor) fun b19 H75 st => ?_
    refine aNewP st rfl rfl (by repeat constructor) fun b20 H76 st => ?_
    refine aSt st 1 rfl rfl rfl rfl (by first | rfl | simp [cellsOf, *]) (by first | decide | simp [*]) (by repeat constructor) fun H77 st => ?_
    refine aSt st 0 rfl rfl rfl rfl (by first | rfl | simp [cellsOf, *]) (by first | decide | simp [*]) (by repeat constructor) fun H78 st => ?_
    refine aN rfl rfl (by constructor) ?_
    refine sE ?_
    show AWl _ _ _ _ _
    refine aN rfl rfl (by constructor) ?_
    refine aN rfl rfl (by constructor) ?_
    refine gT rfl ?_
    refine aN rfl rfl (by constructor) ?_
    refine aN rfl rfl (by constructor) ?_
    refine aN rfl rfl (by constructor) ?_
    refine gT rfl ?_
    refine aN rfl rfl (by constructor) ?_
    refine aN rfl rfl (by constructor) ?_
    refine aN rfl rfl (by constructor) ?_
    refine gT rfl ?_
    refine aLdA st 5 rfl rfl (by first | decide | simp [*]) (by repeat constructor) ?_
    refine gT rfl ?_
    refine aLdA st 3 rfl rfl (by first | decide | simp [*]) (by repeat constructor) ?_
    refine gT rfl ?_
    refine aEqAV true rfl rfl (by simp [eqL, eqV, cmd0, kindL]) ?_
    refine aN rfl rfl (by constructor) ?_
    refine aN rfl rfl (by constructor) ?_
    refine gT rfl ?_
    refine aLdA st 3 rfl rfl (by first | decide | simp [*]) (by repeat constructor) ?_
    refine gT rfl ?_
    refine aLdA st 1 rfl rfl (by first | decide | simp [*]) (by repeat constructor) ?_
    refine gT rfl ?_
    refine aEqAV true rfl rfl (by simp [eqL, eqV, cmd0, kindL]) ?_
    refine aN rfl rfl (by constructor) ?_
    refine aN rfl rfl (by constructor) ?_
    refine gT rfl ?_
    refine aN rfl rfl (by constructor) ?_
    refine gT rfl ?_
    refine aLd st 5 rfl rfl rfl (by constructor) ?_
    refine gT rfl ?_
    refine aN rfl rfl (by constructor) ?_
    refine gT rfl ?_
    refine aEqII rfl rfl ?_
    refine aN rfl rfl (by constructor) ?_
    refine aN rfl rfl (by constructor) ?_
    refine gT rfl ?_
    refine aN rfl rfl (by constructor) ?_
    refine gT rfl ?_
    refine aLd st 5 rfl rfl rfl (by constructor) ?_
    refine gT rfl ?_
    refine aN rfl rfl (by constructor) ?_
    refine gT rfl ?_
    refine aEqII rfl rfl ?_
    refine aN rfl rfl (by constructor) ?_
    refine aN rfl rfl (by constructor) ?_
    refine gT rfl ?_
    refine aN rfl rfl (by constructor) ?_
    refine gT rfl ?_
    refine aLd st 5 rfl rfl rfl (by constructor) ?_
    refine gT rfl ?_
    refine aBinV (.bool true) rfl rfl rfl ?_
    refine gT rfl ?_
    refine aN rfl rfl (by constructor) ?_
    refine gT rfl ?_
    refine aEqBB (u := true) rfl rfl ?_
    refine aN rfl rfl (by constructor) ?_
    refine aN rfl rfl (by constructor) ?_
    refine sE ?_
    refine ⟨_, out1 (r_tmp rfl (by constructor)), ?_⟩
    rfl
theorem forms_f {H : Hp} {lba n : Int} (hlba : 0 ≤ lba ∧ lba < 4294967296) (hn : 0 ≤ n ∧ n < 256) :
    ACalls Try.prog 7 [.int .u32 lba, .int .u8 n, .bool false] H (fun v _ => v = .bool true) := by
  refine acallsW Try.func7 f7_ok (Nat.le_of_ble_eq_true rfl) fun hw => ?_
  have st : Stt [] H H [] := Stt.start hw
  unfold f7c
  show AWl _ _ _ _ _
  refine aN rfl rfl (by constructor) ?_
  refine sE ?_
  show AWl _ _ _ _ _
  refine aC (awake_call) fun v22 H1 ⟨hv, st1⟩ => ?_
  subst hv
  replace st := st.call st1 rfl
  clear st1
  refine aN rfl rfl (by constructor) ?_
  refine sE ?_
  show AW _ (.cond _ _ _) _ _ _
  refine cF' rfl ?_
  show AWl _ _ _ _ _
  refine aN rfl rfl (by constructor) ?_
  refine aBinV (.int .u32 (lba % 2097152)) rfl rfl (remI (by omega) (by decide)) ?_
  refine aConvV (n' := (lba % 2097152)) rfl (by rw [w64]; omega) ?_
  refine aN rfl rfl (by constructor) ?_
  refine sE ?_
  show AWl _ _ _ _ _
  refine aN rfl rfl (by constructor) ?_
  refine aConvV (n' := n) rfl (by rw [w64]; omega) ?_
  refine aN rfl rfl (by constructor) ?_
  refine sE ?_
  show AWl _ _ _ _ _
  refine aN rfl rfl (by constructor) ?_
  refine aN rfl rfl (by constructor) ?_
  refine sE ?_
  show AW _ (.cond _ _ _) _ _ _
  refine cC' rfl (fun h2 => ?_) (fun h2 => ?_)
  · have hz : n = 0 := by simpa using h2
    show AWl _ _ _ _ _
    refine aN rfl rfl (by constructor) ?_
    refine sE ?_
    show AWl _ _ _ _ _
    refine aLit st rfl (by repeat constructor) fun b31 H3 st => ?_
    refine aN rfl rfl (by constructor) ?_
    refine sE ?_
    show AWl _ _ _ _ _
    refine aN rfl rfl (by constructor) ?_
    refine sE ?_
    show AW _ (.cond _ _ _) _ _ _
    refine cF' rfl ?_
    show AWl _ _ _ _ _
    refine aN rfl rfl (by constructor) ?_
    refine aN rfl rfl (by constructor) ?_
    refine aLd st 0 rfl rfl rfl (by constructor) ?_
    refine aLit st rfl (by repeat constructor) fun b37 H4 st => ?_
    refine aN rfl rfl (by constructor) ?_
    refine sE ?_
    show AWl _ _ _ _ _
    refine aN rfl rfl (by constructor) ?_
    refine aN rfl rfl (by constructor) ?_
    refine aC (big_call (n := 3) (v := (lba % 2097152)) (by decide)) fun v40 H5 ⟨b40, hv, st1⟩ => ?_
    subst hv
    replace st := st.call st1 rfl
    clear st1
    refine aAppP st 1 (ob := some b37) rfl rfl rfl (by decide) (by first | rfl | (simp [beB_len, *]; done) | (simp [beB_len, *]; omega)) (st.rowAll 0 rfl (by simp [beB_len])).src (by first | rfl | simp [beB_len]) (by first | decide | (simp [beB_len]; done) | omega) (by first | decide | (simp [beB_len]; done) | omega) (by first | decide | omega) (NfL.any _) fun b41 H6 st => ?_
    refine aN rfl rfl (by constructor) ?_
    refine sE ?_
    show AWl _ _ _ _ _
    refine aN rfl rfl (by constructor) ?_
    refine aN rfl rfl (by constructor) ?_
    refine aLit st rfl (by repeat constructor) fun b44 H7 st => ?_
    refine aAppP st 2 (ob := some b41) rfl rfl rfl (by decide) (by first | rfl | simp [beB_len]) (st.rowAll 0 rfl (by first | rfl | (simp [beB_len, *]; done) | (simp [beB_len, *]; omega))).src (by first | rfl | simp [beB_len]) (by first | decide | (simp [beB_len]; done) | omega) (by first | decide | (simp [beB_len]; done) | omega) (by first | decide | omega) (NfL.any _) fun b45 H8 st => ?_
    rw [show ([.int .u8 8] : List Value) ++ (beB 3 (lba % 2097152)).map (Value.int .u8) ++ [.int .u8 n, .int .u8 0] = (([8] ++ beB 3 (lba % 2097152) ++ [n, 0] : List Int)).map (Value.int .u8) from rfl] at st
    refine aN rfl rfl (by constructor) ?_
    refine sE ?_
    show AWl _ _ _ _ _
    refine aN rfl rfl (by constructor) ?_
    refine aN rfl rfl (by constructor) ?_
    refine aLd st 3 rfl rfl rfl (by constructor) ?_
    refine aLit st rfl (by repeat constructor) fun b49 H9 st => ?_
    refine aN rfl rfl (by constructor) ?_
    refine sE ?_
    show AWl _ _ _ _ _
    refine aN rfl rfl (by constructor) ?_
    refine aN rfl rfl (by constructor) ?_
    refine aC (big_call (n := 4) (v := (lba % 2097152)) (by decide)) fun v52 H10 ⟨b52, hv, st1⟩ => ?_
    subst hv
    replace st := st.call st1 rfl
    clear st1
    refine aAppP st 1 (ob := some b49) rfl rfl rfl (by decide) (by first | rfl | (simp [beB_len, *]; done) | (simp [beB_len, *]; omega)) (st.rowAll 0 rfl (by simp [beB_len])).src (by first | rfl | simp [beB_len]) (by first | decide | (simp [beB_len]; done) | omega) (by first | decide | (simp [beB_len]; done) | omega) (by first | decide | omega) (NfL.any _) fun b53 H11 st => ?_
    refine aN rfl rfl (by constructor) ?_
    refine sE ?_
    show AWl _ _ _ _ _
    refine aN rfl rfl (by constructor) ?_
    refine aLit st rfl (by repeat constructor) fun b55 H12 st => ?_
    refine aAppP st 2 (ob := some b53) rfl rfl rfl (by decide) (by first | rfl | simp [beB_len]) (st.rowAll 0 rfl (by first | rfl | (simp [beB_len, *]; done) | (simp [beB_len, *]; omega))).src (by first | rfl | simp [beB_len]) (by first | decide | (simp [beB_len]; done) | omega) (by first | decide | (simp [beB_len]; done) | omega) (by first | decide | omega) (NfL.any _) fun b56 H13 st => ?_
    refine aN rfl rfl (by constructor) ?_
    refine sE ?_
    show AWl _ _ _ _ _
    refine aN rfl rfl (by constructor) ?_
    refine aN rfl rfl (by constructor) ?_
    refine aC (big_call (n := 2) (v := 256) (by decide)) fun v59 H14 ⟨b59, hv, st1⟩ => ?_
    subst hv
    replace st := st.call st1 rfl
    clear st1
    refine aAppP st 3 (ob := some b56) rfl rfl rfl (by decide) (by first | rfl | simp [beB_len]) (st.rowAll 0 rfl (by simp [beB_len])).src (by first | rfl | simp [beB_len]) (by first | decide | (simp [beB_len]; done) | omega) (by first | decide | (simp [beB_len]; done) | omega) (by first | decide | omega) (NfL.any _) fun b60 H15 st => ?_
    refine aN rfl rfl (by constructor) ?_
    refine sE ?_
    show AWl _ _ _ _ _
    refine aN rfl rfl (by constructor) ?_
    refine aLit st rfl (by repeat constructor) fun b62 H16 st => ?_
    refine aAppP st 4 (ob := some b60) rfl rfl rfl (by decide) (by first | rfl | simp [beB_len]) (st.rowAll 0 rfl (by first | rfl | (simp [beB_len, *]; done) | (simp [beB_len, *]; omega))).src (by first | rfl | simp [beB_len]) (by first | decide | (simp [beB_len]; done) | omega) (by first | decide | (simp [beB_len]; done) | omega) (by first | decide | omega) (NfL.any _) fun b63 H17 st => ?_
    rw [show ([.int .u8 40, .int .u8 0] : List Value) ++ (beB 4 (lba % 2097152)).map (Value.int .u8) ++ [.int .u8 0] ++ (beB 2 256).map (Value.int .u8) ++ [.int .u8 0] = (([40, 0] ++ beB 4 (lba % 2097152) ++ [0] ++ beB 2 256 ++ [0] : List Int)).map (Value.int .u8) from rfl] at st
    refine aN rfl rfl (by constructor) ?_
    refine sE ?_
    show AWl _ _ _ _ _
    refine aN rfl rfl (by constructor) ?_
    refine aN rfl rfl (by constructor) ?_
    refine aLd st 8 rfl rfl rfl (by constructor) ?_
    refine aLit st rfl (by repeat constructor) fun b67 H18 st => ?_
    refine aN rfl rfl (by constructor) ?_
    refine sE ?_
    show AWl _ _ _ _ _
    refine aN rfl rfl (by constructor) ?_
    refine aN rfl rfl (by constructor) ?_
    refine aC (big_call (n := 8) (v := (lba % 2097152)) (by decide)) fun v70 H19 ⟨b70, hv, st1⟩ => ?_
    subst hv
    replace st := st.call st1 rfl
    clear st1
    refine aAppP st 1 (ob := some b67) rfl rfl rfl (by decide) (by first | rfl | (simp [beB_len, *]; done) | (simp [beB_len, *]; omega)) (st.rowAll 0 rfl (by simp [beB_len])).src (by first | rfl | simp [beB_len]) (by first | decide | (simp [beB_len]; done) | omega) (by first | decide | (simp [beB_len]; done) | omega) (by first | decide | omega) (NfL.any _) fun b71 H20 st => ?_
    refine aN rfl rfl (by constructor) ?_
    refine sE ?_
    show AWl _ _ _ _ _
    refine aN rfl rfl (by constructor) ?_
    refine aN rfl rfl (by constructor) ?_
    refine aC (big_call (n := 4) (v := 256) (by decide)) fun v74 H21 ⟨b74, hv, st1⟩ => ?_
    subst hv
    replace st := st.call st1 rfl
    clear st1
    refine aAppP st 2 (ob := some b71) rfl rfl rfl (by decide) (by first | rfl | simp [beB_len]) (st.rowAll 0 rfl (by simp [beB_len])).src (by first | rfl | simp [beB_len]) (by first | decide | (simp [beB_len]; done) | omega) (by first | decide | (simp [beB_len]; done) | omega) (by first | decide | omega) (NfL.any _) fun b75 H22 st => ?_
    refine aN rfl rfl (by constructor) ?_
    refine sE ?_
    show AWl _ _ _ _ _
    refine aN rfl rfl (by constructor) ?_
    refine aLit st rfl (by repeat constructor) fun b77 H23 st => ?_
    refine aAppP st 3 (ob := some b75) rfl rfl rfl (by decide) (by first | rfl | simp [beB_len]) (st.rowAll 0 rfl (by first | rfl | (simp [beB_len, *]; done) | (simp [beB_len, *]; omega))).src (by first | rfl | simp [beB_len]) (by first | decide | (simp [beB_len]; done) | omega) (by first | decide | (simp [beB_len]; done) | omega) (by first | decide | omega) (NfL.any _) fun b78 H24 st => ?_
    rw [show ([.int .u8 136, .int .u8 0] : List Value) ++ (beB 8 (lba % 2097152)).map (Value.int .u8) ++ (beB 4 256).map (Value.int .u8) ++ [.int .u8 0, .int .u8 0] = (([136, 0] ++ beB 8 (lba % 2097152) ++ beB 4 256 ++ [0, 0] : List Int)).map (Value.int .u8) from rfl] at st
    refine aN rfl rfl (by constructor) ?_
    refine sE ?_
    show AWl _ _ _ _ _
    refine aN rfl rfl (by constructor) ?_
    refine aC (parse_call (xs := ([8] ++ beB 3 (lba % 2097152) ++ [n, 0] : List Int)) (st.rowAll 11 rfl rfl) ((((byteL_cons.2 ⟨by decide, byteL_nil.2 trivial⟩ : ByteL [8]).app (beB_bytes _ _)).app (byteL_cons.2 ⟨by omega, by simp only [byteL_cons, byteL_nil, and_true]; decide⟩))) (by show (6 : Nat) ≤ _; decide)) fun v81 H25 ⟨f81, b81, hv, st1, hP81⟩ => ?_
    subst hv
    replace st := st.call st1 rfl
    clear st1
    rw [form6 (op := 8) (.inl rfl) (by omega) hn hP81, if_pos hz]
    refine aN rfl rfl (by constructor) ?_
    refine aN rfl rfl (by constructor) ?_
    refine aN rfl rfl (by constructor) ?_
    refine aN rfl rfl (by constructor) ?_
    refine aNewP st rfl rfl (by repeat constructor) fun b13 H26 st => ?_
    refine aNewP st rfl rfl (by repeat constructor) fun b14 H27 st => ?_
    refine aSt st 1 rfl rfl rfl rfl (by first | rfl | simp [cellsOf, *]) (by first | decide | simp [*]) (by repeat constructor) fun H28 st => ?_
    refine aSt st 0 rfl rfl rfl rfl (by first | rfl | simp [cellsOf, *]) (by first | decide | simp [*]) (by repeat constructor) fun H29 st => ?_
    refine aN rfl rfl (by constructor) ?_
    refine sE ?_
    show AWl _ _ _ _ _
    refine aN rfl rfl (by constructor) ?_
    refine aC (parse_call (xs := ([40, 0] ++ beB 4 (lba % 2097152) ++ [0] ++ beB 2 256 ++ [0] : List Int)) (st.rowAll 10 rfl rfl) (((((by simp only [byteL_cons, byteL_nil, and_true]; decide : ByteL [40, 0]).app (beB_bytes _ _)).app (by simp only [byteL_cons, byteL_nil, and_true]; decide)).app (beB_bytes _ _)).app (by simp only [byteL_cons, byteL_nil, and_true]; decide)) (by show (10 : Nat) ≤ _; decide)) fun v87 H30 ⟨f87, b87, hv, st1, hP87⟩ => ?_
    subst hv
    replace st := st.call st1 rfl
    clear st1
    rw [form10 (op := 40) (.inl rfl) (by omega) (by omega) hP87, if_neg (by omega)]
    refine aN rfl rfl (by constructor) ?_
    refine aN rfl rfl (by constructor) ?_
    refine aN rfl rfl (by constructor) ?_
    refine aN rfl rfl (by constructor) ?_
    refine aNewP st rfl rfl (by repeat constructor) fun b16 H31 st => ?_
    refine aNewP st rfl rfl (by repeat constructor) fun b17 H32 st => ?_
    refine aSt st 1 rfl rfl rfl rfl (by first | rfl | simp [cellsOf, *]) (by first | decide | simp [*]) (by repeat constructor) fun H33 st => ?_
    refine aSt st 0 rfl rfl rfl rfl (by first | rfl | simp [cellsOf, *]) (by first | decide | simp [*]) (by repeat constructor) fun H34 st => ?_
    refine aN rfl rfl (by constructor) ?_
    refine sE ?_
    show AWl _ _ _ _ _
    refine aN rfl rfl (by constructor) ?_
    refine aC (parse_call (xs := ([136, 0] ++ beB 8 (lba % 2097152) ++ beB 4 256 ++ [0, 0] : List Int)) (st.rowAll 7 rfl rfl) ((((by simp only [byteL_cons, byteL_nil, and_true]; decide : ByteL [136, 0]).app (beB_bytes _ _)).app (beB_bytes _ _)).app (by simp only [byteL_cons, byteL_nil, and_true]; decide)) (by show (16 : Nat) ≤ _; decide)) fun v93 H35 ⟨f93, b93, hv, st1, hP93⟩ => ?_
    subst hv
    replace st := st.call st1 rfl
    clear st1
    rw [form16 (op := 136) (.inl rfl) (by omega) (by omega) hP93, if_neg (by omega)]
    refine aN rfl rfl (by constructor) ?_
    refine aN rfl rfl (by constructor) ?_
    refine aN rfl rfl (by constructor) ?_
    refine aN rfl rfl (by constructor) ?_
    refine aNewP st rfl rfl (by repeat constructor) fun b19 H36 st => ?_
    refine aNewP st rfl rfl (by repeat constructor) fun b20 H37 st => ?_
    refine aSt st 1 rfl rfl rfl rfl (by first | rfl | simp [cellsOf, *]) (by first | decide | simp [*]) (by repeat constructor) fun H38 st => ?_
    refine aSt st 0 rfl rfl rfl rfl (by first | rfl | simp [cellsOf, *]) (by first | decide | simp [*]) (by repeat constructor) fun H39 st => ?_
    refine aN rfl rfl (by constructor) ?_
    refine sE ?_
    show AWl _ _ _ _ _
    refine aN rfl rfl (by constructor) ?_
    refine aN rfl rfl (by constructor) ?_
    refine gT rfl ?_
    refine aN rfl rfl (by constructor) ?_
    refine aN rfl rfl (by constructor) ?_
    refine aN rfl rfl (by constructor) ?_
    refine gT rfl ?_
    refine aN rfl rfl (by constructor) ?_
    refine aN rfl rfl (by constructor) ?_
    refine aN rfl rfl (by constructor) ?_
    refine gT rfl ?_
    refine aLdA st 5 rfl rfl (by first | decide | simp [*]) (by repeat constructor) ?_
    refine gT rfl ?_
    refine aLdA st 3 rfl rfl (by first | decide | simp [*]) (by repeat constructor) ?_
    refine gT rfl ?_
    refine aEqAV true rfl rfl (by simp [eqL, eqV, cmd0, kindL]) ?_
    refine aN rfl rfl (by constructor) ?_
    refine aN rfl rfl (by constructor) ?_
    refine gT rfl ?_
    refine aLdA st 3 rfl rfl (by first | decide | simp [*]) (by repeat constructor) ?_
    refine gT rfl ?_
    refine aLdA st 1 rfl rfl (by first | decide | simp [*]) (by repeat constructor) ?_
    refine gT rfl ?_
    refine aEqAV true rfl rfl (by simp [eqL, eqV, cmd0, kindL]) ?_
    refine aN rfl rfl (by constructor) ?_
    refine aN rfl rfl (by constructor) ?_
    refine gT rfl ?_
    refine aN rfl rfl (by constructor) ?_
    refine gT rfl ?_
    refine aLd st 5 rfl rfl rfl (by constructor) ?_
    refine gT rfl ?_
    refine aN rfl rfl (by constructor) ?_
    refine gT rfl ?_
    refine aEqII rfl rfl ?_
    refine aN rfl rfl (by constructor) ?_
    refine aN rfl rfl (by constructor) ?_
    refine gT rfl ?_
    refine aN rfl rfl (by constructor) ?_
    refine gT rfl ?_
    refine aLd st 5 rfl rfl rfl (by constructor) ?_
    refine gT rfl ?_
    refine aN rfl rfl (by constructor) ?_
    refine gT rfl ?_
    refine aEqII rfl rfl ?_
    refine aN rfl rfl (by constructor) ?_
    refine aN rfl rfl (by constructor) ?_
    refine gT rfl ?_
    refine aN rfl rfl (by constructor) ?_
    refine gT rfl ?_
    refine aLd st 5 rfl rfl rfl (by constructor) ?_
    refine gT rfl ?_
    refine aBinV (.bool false) rfl rfl rfl ?_
    refine gT rfl ?_
    refine aN rfl rfl (by constructor) ?_
    refine gT rfl ?_
    refine aEqBB (u := false) rfl rfl ?_
    refine aN rfl rfl (by constructor) ?_
    refine aN rfl rfl (by constructor) ?_
    refine sE ?_
    refine ⟨_, out1 (r_tmp rfl (by constructor)), ?_⟩
    rfl
  · have hz : ¬ n = 0 := by simpa using h2
    show AWl _ _ _ _ _
    refine aLit st rfl (by repeat constructor) fun b31 H40 st => ?_
    refine aN rfl rfl (by constructor) ?_
    refine sE ?_
    show AWl _ _ _ _ _
    refine aN rfl rfl (by constructor) ?_
    refine sE ?_
    show AW _ (.cond _ _ _) _ _ _
    refine cF' rfl ?_
    show AWl _ _ _ _ _
    refine aN rfl rfl (by constructor) ?_
    refine aN rfl rfl (by constructor) ?_
    refine aLd st 0 rfl rfl rfl (by constructor) ?_
    refine aLit st rfl (by repeat constructor) fun b37 H41 st => ?_
    refine aN rfl rfl (by constructor) ?_
    refine sE ?_
    show AWl _ _ _ _ _
    refine aN rfl rfl (by constructor) ?_
    refine aN rfl rfl (by constructor) ?_
    refine aC (big_call (n := 3) (v := (lba % 2097152)) (by decide)) fun v40 H42 ⟨b40, hv, st1⟩ => ?_
    subst hv
    replace st := st.call st1 rfl
    clear st1
    refine aAppP st 1 (ob := some b37) rfl rfl rfl (by decide) (by first | rfl | (simp [beB_len, *]; done) | (simp [beB_len, *]; omega)) (st.rowAll 0 rfl (by simp [beB_len])).src (by first | rfl | simp [beB_len]) (by first | decide | (simp [beB_len]; done) | omega) (by first | decide | (simp [beB_len]; done) | omega) (by first | decide | omega) (NfL.any _) fun b41 H43 st => ?_
    refine aN rfl rfl (by constructor) ?_
    refine sE ?_
    show AWl _ _ _ _ _
    refine aN rfl rfl (by constructor) ?_
    refine aN rfl rfl (by constructor) ?_
    refine aLit st rfl (by repeat constructor) fun b44 H44 st => ?_
    refine aAppP st 2 (ob := some b41) rfl rfl rfl (by decide) (by first | rfl | simp [beB_len]) (st.rowAll 0 rfl (by first | rfl | (simp [beB_len, *]; done) | (simp [beB_len, *]; omega))).src (by first | rfl | simp [beB_len]) (by first | decide | (simp [beB_len]; done) | omega) (by first | decide | (simp [beB_len]; done) | omega) (by first | decide | omega) (NfL.any _) fun b45 H45 st => ?_
    rw [show ([.int .u8 8] : List Value) ++ (beB 3 (lba % 2097152)).map (Value.int .u8) ++ [.int .u8 n, .int .u8 0] = (([8] ++ beB 3 (lba % 2097152) ++ [n, 0] : List Int)).map (Value.int .u8) from rfl] at st
    refine aN rfl rfl (by constructor) ?_
    refine sE ?_
    show AWl _ _ _ _ _
    refine aN rfl rfl (by constructor) ?_
    refine aN rfl rfl (by constructor) ?_
    refine aLd st 3 rfl rfl rfl (by constructor) ?_
    refine aLit st rfl (by repeat constructor) fun b49 H46 st => ?_
    refine aN rfl rfl (by constructor) ?_
    refine sE ?_
    show AWl _ _ _ _ _
    refine aN rfl rfl (by constructor) ?_
    refine aN rfl rfl (by constructor) ?_
    refine aC (big_call (n := 4) (v := (lba % 2097152)) (by decide)) fun v52 H47 ⟨b52, hv, st1⟩ => ?_
    subst hv
    replace st := st.call st1 rfl
    clear st1
    refine aAppP st 1 (ob := some b49) rfl rfl rfl (by decide) (by first | rfl | (simp [beB_len, *]; done) | (simp [beB_len, *]; omega)) (st.rowAll 0 rfl (by simp [beB_len])).src (by first | rfl | simp [beB_len]) (by first | decide | (simp [beB_len]; done) | omega) (by first | decide | (simp [beB_len]; done) | omega) (by first | decide | omega) (NfL.any _) fun b53 H48 st => ?_
    refine aN rfl rfl (by constructor) ?_
    refine sE ?_
    show AWl _ _ _ _ _
    refine aN rfl rfl (by constructor) ?_
    refine aLit st rfl (by repeat constructor) fun b55 H49 st => ?_
    refine aAppP st 2 (ob := some b53) rfl rfl rfl (by decide) (by first | rfl | simp [beB_len]) (st.rowAll 0 rfl (by first | rfl | (simp [beB_len, *]; done) | (simp [beB_len, *]; omega))).src (by first | rfl | simp [beB_len]) (by first | decide | (simp [beB_len]; done) | omega) (by first | decide | (simp [beB_len]; done) | omega) (by first | decide | omega) (NfL.any _) fun b56 H50 st => ?_
    refine aN rfl rfl (by constructor) ?_
    refine sE ?_
    show AWl _ _ _ _ _
    refine aN rfl rfl (by constructor) ?_
    refine aN rfl rfl (by constructor) ?_
    refine aC (big_call (n := 2) (v := n) (by decide)) fun v59 H51 ⟨b59, hv, st1⟩ => ?_
    subst hv
    replace st := st.call st1 rfl
    clear st1
    refine aAppP st 3 (ob := some b56) rfl rfl rfl (by decide) (by first | rfl | simp [beB_len]) (st.rowAll 0 rfl (by simp [beB_len])).src (by first | rfl | simp [beB_len]) (by first | decide | (simp [beB_len]; done) | omega) (by first | decide | (simp [beB_len]; done) | omega) (by first | decide | omega) (NfL.any _) fun b60 H52 st => ?_
    refine aN rfl rfl (by constructor) ?_
    refine sE ?_
    show AWl _ _ _ _ _
    refine aN rfl rfl (by constructor) ?_
    refine aLit st rfl (by repeat constructor) fun b62 H53 st => ?_
    refine aAppP st 4 (ob := some b60) rfl rfl rfl (by decide) (by first | rfl | simp [beB_len]) (st.rowAll 0 rfl (by first | rfl | (simp [beB_len, *]; done) | (simp [beB_len, *]; omega))).src (by first | rfl | simp [beB_len]) (by first | decide | (simp [beB_len]; done) | omega) (by first | decide | (simp [beB_len]; done) | omega) (by first | decide | omega) (NfL.any _) fun b63 H54 st => ?_
    rw [show ([.int .u8 40, .int .u8 0] : List Value) ++ (beB 4 (lba % 2097152)).map (Value.int .u8) ++ [.int .u8 0] ++ (beB 2 n).map (Value.int .u8) ++ [.int .u8 0] = (([40, 0] ++ beB 4 (lba % 2097152) ++ [0] ++ beB 2 n ++ [0] : List Int)).map (Value.int .u8) from rfl] at st
    refine aN rfl rfl (by constructor) ?_
    refine sE ?_
    show AWl _ _ _ _ _
    refine aN rfl rfl (by constructor) ?_
    refine aN rfl rfl (by constructor) ?_
    refine aLd st 8 rfl rfl rfl (by constructor) ?_
    refine aLit st rfl (by repeat constructor) fun b67 H55 st => ?_
    refine aN rfl rfl (by constructor) ?_
    refine sE ?_
    show AWl _ _ _ _ _
    refine aN rfl rfl (by constructor) ?_
    refine aN rfl rfl (by constructor) ?_
    refine aC (big_call (n := 8) (v := (lba % 2097152)) (by decide)) fun v70 H56 ⟨b70, hv, st1⟩ => ?_
    subst hv
    replace st := st.call st1 rfl
    clear st1
    refine aAppP st 1 (ob := some b67) rfl rfl rfl (by decide) (by first | rfl | (simp [beB_len, *]; done) | (simp [beB_len, *]; omega)) (st.rowAll 0 rfl (by simp [beB_len])).src (by first | rfl | simp [beB_len]) (by first | decide | (simp [beB_len]; done) | omega) (by first | decide | (simp [beB_len]; done) | omega) (by first | decide | omega) (NfL.any _) fun b71 H57 st => ?_
    refine aN rfl rfl (by constructor) ?_
    refine sE ?_
    show AWl _ _ _ _ _
    refine aN rfl rfl (by constructor) ?_
    refine aN rfl rfl (by constructor) ?_
    refine aC (big_call (n := 4) (v := n) (by decide)) fun v74 H58 ⟨b74, hv, st1⟩ => ?_
    subst hv
    replace st := st.call st1 rfl
    clear st1
    refine aAppP st 2 (ob := some b71) rfl rfl rfl (by decide) (by first | rfl | simp [beB_len]) (st.rowAll 0 rfl (by simp [beB_len])).src (by first | rfl | simp [beB_len]) (by first | decide | (simp [beB_len]; done) | omega) (by first | decide | (simp [beB_len]; done) | omega) (by first | decide | omega) (NfL.any _) fun b75 H59 st => ?_
    refine aN rfl rfl (by constructor) ?_
    refine sE ?_
    show AWl _ _ _ _ _
    refine aN rfl rfl (by constructor) ?_
    refine aLit st rfl (by repeat constructor) fun b77 H60 st => ?_
    refine aAppP st 3 (ob := some b75) rfl rfl rfl (by decide) (by first | rfl | simp [beB_len]) (st.rowAll 0 rfl (by first | rfl | (simp [beB_len, *]; done) | (simp [beB_len, *]; omega))).src (by first | rfl | simp [beB_len]) (by first | decide | (simp [beB_len]; done) | omega) (by first | decide | (simp [beB_len]; done) | omega) (by first | decide | omega) (NfL.any _) fun b78 H61 st => ?_
    rw [show ([.int .u8 136, .int .u8 0] : List Value) ++ (beB 8 (lba % 2097152)).map (Value.int .u8) ++ (beB 4 n).map (Value.int .u8) ++ [.int .u8 0, .int .u8 0] = (([136, 0] ++ beB 8 (lba % 2097152) ++ beB 4 n ++ [0, 0] : List Int)).map (Value.int .u8) from rfl] at st
    refine aN rfl rfl (by constructor) ?_
    refine sE ?_
    show AWl _ _ _ _ _
    refine aN rfl rfl (by constructor) ?_
    refine aC (parse_call (xs := ([8] ++ beB 3 (lba % 2097152) ++ [n, 0] : List Int)) (st.rowAll 11 rfl rfl) ((((byteL_cons.2 ⟨by decide, byteL_nil.2 trivial⟩ : ByteL [8]).app (beB_bytes _ _)).app (byteL_cons.2 ⟨by omega, by simp only [byteL_cons, byteL_nil, and_true]; decide⟩))) (by show (6 : Nat) ≤ _; decide)) fun v81 H62 ⟨f81, b81, hv, st1, hP81⟩ => ?_
    subst hv
    replace st := st.call st1 rfl
    clear st1
    rw [form6 (op := 8) (.inl rfl) (by omega) hn hP81, if_neg hz]
    refine aN rfl rfl (by constructor) ?_
    refine aN rfl rfl (by constructor) ?_
    refine aN rfl rfl (by constructor) ?_
    refine aN rfl rfl (by constructor) ?_
    refine aNewP st rfl rfl (by repeat constructor) fun b13 H63 st => ?_
    refine aNewP st rfl rfl (by repeat constructor) fun b14 H64 st => ?_
    refine aSt st 1 rfl rfl rfl rfl (by first | rfl | simp [cellsOf, *]) (by first | decide | simp [*]) (by repeat constructor) fun H65 st => ?_
    refine aSt st 0 rfl rfl rfl rfl (by first | rfl | simp [cellsOf, *]) (by first | decide | simp [*]) (by repeat constructor) fun H66 st => ?_
    refine aN rfl rfl (by constructor) ?_
    refine sE ?_
    show AWl _ _ _ _ _
    refine aN rfl rfl (by constructor) ?_
    refine aC (parse_call (xs := ([40, 0] ++ beB 4 (lba % 2097152) ++ [0] ++ beB 2 n ++ [0] : List Int)) (st.rowAll 10 rfl rfl) (((((by simp only [byteL_cons, byteL_nil, and_true]; decide : ByteL [40, 0]).app (beB_bytes _ _)).app (by simp only [byteL_cons, byteL_nil, and_true]; decide)).app (beB_bytes _ _)).app (by simp only [byteL_cons, byteL_nil, and_true]; decide)) (by show (10 : Nat) ≤ _; decide)) fun v87 H67 ⟨f87, b87, hv, st1, hP87⟩ => ?_
    subst hv
    replace st := st.call st1 rfl
    clear st1
    rw [form10 (op := 40) (.inl rfl) (by omega) (by omega) hP87, if_neg (by omega)]
    refine aN rfl rfl (by constructor) ?_
    refine aN rfl rfl (by constructor) ?_
    refine aN rfl rfl (by constructor) ?_
    refine aN rfl rfl (by constructor) ?_
    refine aNewP st rfl rfl (by repeat constructor) fun b16 H68 st => ?_
    refine aNewP st rfl rfl (by repeat constructor) fun b17 H69 st => ?_
    refine aSt st 1 rfl rfl rfl rfl (by first | rfl | simp [cellsOf, *]) (by first | decide | simp [*]) (by repeat constructor) fun H70 st => ?_
    refine aSt st 0 rfl rfl rfl rfl (by first | rfl | simp [cellsOf, *]) (by first | decide | simp [*]) (by repeat constructor) fun H71 st => ?_
    refine aN rfl rfl (by constructor) ?_
    refine sE ?_
    show AWl _ _ _ _ _
    refine aN rfl rfl (by constructor) ?_
    refine aC (parse_call (xs := ([136, 0] ++ beB 8 (lba % 2097152) ++ beB 4 n ++ [0, 0] : List Int)) (st.rowAll 7 rfl rfl) ((((by simp only [byteL_cons, byteL_nil, and_true]; decide : ByteL [136, 0]).app (beB_bytes _ _)).app (beB_bytes _ _)).app (by simp only [byteL_cons, byteL_nil, and_true]; decide)) (by show (16 : Nat) ≤ _; decide)) fun v93 H72 ⟨f93, b93, hv, st1, hP93⟩ => ?_
    subst hv
    replace st := st.call st1 rfl
    clear st1
    rw [form16 (op := 136) (.inl rfl) (by omega) (by omega) hP93, if_neg (by omega)]
    refine aN rfl rfl (by constructor) ?_
    refine aN rfl rfl (by constructor) ?_
    refine aN rfl rfl (by constructor) ?_
    refine aN rfl rfl (by constructor) ?_
    refine aNewP st rfl rfl (by repeat constructor) fun b19 H73 st => ?_
    refine aNewP st rfl rfl (by repeat constructor) fun b20 H74 st => ?_
    refine aSt st 1 rfl rfl rfl rfl (by first | rfl | simp [cellsOf, *]) (by first | decide | simp [*]) (by repeat constructor) fun H75 st => ?_
    refine aSt st 0 rfl rfl rfl rfl (by first | rfl | simp [cellsOf, *]) (by first | decide | simp [*]) (by repeat constructor) fun H76 st => ?_
    refine aN rfl rfl (by constructor) ?_
    refine sE ?_
    show AWl _ _ _ _ _
    refine aN rfl rfl (by constructor) ?_
    refine aN rfl rfl (by constructor) ?_
    refine gT rfl ?_
    refine aN rfl rfl (by constructor) ?_
    refine aN rfl rfl (by constructor) ?_
    refine aN rfl rfl (by constructor) ?_
    refine gT rfl ?_
    refine aN rfl rfl (by constructor) ?_
    refine aN rfl rfl (by constructor) ?_
    refine aN rfl rfl (by constructor) ?_
    refine gT rfl ?_
    refine aLdA st 5 rfl rfl (by first | decide | simp [*]) (by repeat constructor) ?_
    refine gT rfl ?_
    refine aLdA st 3 rfl rfl (by first | decide | simp [*]) (by repeat constructor) ?_
    refine gT rfl ?_
    refine aEqAV true rfl rfl (by simp [eqL, eqV, cmd0, kindL]) ?_
    refine aN rfl rfl (by constructor) ?_
    refine aN rfl rfl (by constructor) ?_
    refine gT rfl ?_
    refine aLdA st 3 rfl rfl (by first | decide | simp [*]) (by repeat constructor) ?_
    refine gT rfl ?_
    refine aLdA st 1 rfl rfl (by first | decide | simp [*]) (by repeat constructor) ?_
    refine gT rfl ?_
    refine aEqAV true rfl rfl (by simp [eqL, eqV, cmd0, kindL]) ?_
    refine aN rfl rfl (by constructor) ?_
    refine aN rfl rfl (by constructor) ?_
    refine gT rfl ?_
    refine aN rfl rfl (by constructor) ?_
    refine gT rfl ?_
    refine aLd st 5 rfl rfl rfl (by constructor) ?_
    refine gT rfl ?_
    refine aN rfl rfl (by constructor) ?_
    refine gT rfl ?_
    refine aEqII rfl rfl ?_
    refine aN rfl rfl (by constructor) ?_
    refine aN rfl rfl (by constructor) ?_
    refine gT rfl ?_
    refine aN rfl rfl (by constructor) ?_
    refine gT rfl ?_
    refine aLd st 5 rfl rfl rfl (by constructor) ?_
    refine gT rfl ?_
    refine aN rfl rfl (by constructor) ?_
    refine gT rfl ?_
    refine aEqII rfl rfl ?_
    refine aN rfl rfl (by constructor) ?_
    refine aN rfl rfl (by constructor) ?_
    refine gT rfl ?_
    refine aN rfl rfl (by constructor) ?_
    refine gT rfl ?_
    refine aLd st 5 rfl rfl rfl (by constructor) ?_
    refine gT rfl ?_
    refine aBinV (.bool false) rfl rfl rfl ?_
    refine gT rfl ?_
    refine aN rfl rfl (by constructor) ?_
    refine gT rfl ?_
    refine aEqBB (u := false) rfl rfl ?_
    refine aN rfl rfl (by constructor) ?_
    refine aN rfl rfl (by constructor) ?_
    refine sE ?_
    refine ⟨_, out1 (r_tmp rfl (by constructor)), ?_⟩
    rfl
theorem cdbForms_law {H : Hp} {B : Nat} {xs : List Value} (hro : Ro H) (hd : datArgs Try.prog H B 8 [40, 5, 4] xs) : ACalls Try.prog 7 xs H fun v _ => v = .bool true := by
  obtain ⟨x0, x1, x2, rfl, d0, d1, d2⟩ := args3 hd
  obtain ⟨n, rfl, wn⟩ := arg_int (k := .u32) (by kernel_rfl) d0
  obtain ⟨m, rfl, wm⟩ := arg_int (k := .u8) (by kernel_rfl) d1
  obtain ⟨c, rfl⟩ := arg_bool (by kernel_rfl) d2
  cases c
  · exact forms_f (r32 wn) (r8 wm)
  · exact forms_t (r32 wn) (r8 wm)

end Go.Proofs.Ytlbmfcbcmfcjbaa.Abs
