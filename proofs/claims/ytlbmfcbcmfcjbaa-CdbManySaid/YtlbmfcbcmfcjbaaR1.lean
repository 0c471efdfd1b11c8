/- CdbParses, CdbUses. -/
import Derived.Test.YtlbmfcbcmfcjbaaQ2
set_option linter.unusedVariables false
set_option linter.unusedSimpArgs false
set_option maxRecDepth 100000
namespace Go.Proofs.Ytlbmfcbcmfcjbaa.Abs
open Go Go.RowKit
theorem wake_lit {f b : Int} (h : POdd [8, 0, 0, 3, 1, 0] f b) : parseM [8, 0, 0, 3, 1, 0] f b = (⟨7, false, 3, 1, 0, false, 0, false, false, 0, 0, false, 0, 0, false⟩, sns0, true) := by
  have h1 : OddAt [8, 0, 0, 3, 1, 0] [8, 31, 255, 255, 255, 0] f b := h (by decide) (by decide)
  obtain ⟨rfl, rfl⟩ := h1.uniq (.inl ⟨rfl, rfl, by decide⟩ : OddAt [8, 0, 0, 3, 1, 0] [8, 31, 255, 255, 255, 0] (-1) (-1))
  rfl
theorem awake_call {H : Hp}  :
    ACalls Try.prog 9 [] H (fun v H' => v = .bool true ∧ Stt [] H H' []) := by
  refine acallsW Try.func9 f9_ok (Nat.le_of_ble_eq_true rfl) fun hw => ?_
  have st : Stt [] H H [] := Stt.start hw
  unfold f9c
  show AWl _ _ _ _ _
  refine aN rfl rfl (by constructor) ?_
  refine sE ?_
  show AWl _ _ _ _ _
  refine aLit st rfl (by repeat constructor) fun b5 H1 st => ?_
  have st := st.toI 0 rfl rfl (by repeat constructor)
  refine aC (parse_call (xs := [8, 0, 0, 3, 1, 0]) (st.rowAll 0 rfl (by first | rfl | (simp [beB_len, *]; done) | (simp [beB_len, *]; omega))) (by simp only [byteL_cons, byteL_nil, and_true]; decide) (by decide)) fun v6 H2 ⟨f6, b6, hv, st1, hP6⟩ => ?_
  subst hv
  replace st := st.call st1 rfl
  clear st1
  rw [wake_lit hP6]
  refine aN rfl rfl (by constructor) ?_
  refine aN rfl rfl (by constructor) ?_
  refine aN rfl rfl (by constructor) ?_
  refine aN rfl rfl (by constructor) ?_
  refine aNewP st rfl rfl (by repeat constructor) fun b1 H3 st => ?_
  refine aNewP st rfl rfl (by repeat constructor) fun b2 H4 st => ?_
  refine aSt st 1 rfl rfl rfl rfl (by first | rfl | simp [cellsOf, *]) (by first | decide | simp [*]) (by repeat constructor) fun H5 st => ?_
  refine aSt st 0 rfl rfl rfl rfl (by first | rfl | simp [cellsOf, *]) (by first | decide | simp [*]) (by repeat constructor) fun H6 st => ?_
  refine aN rfl rfl (by constructor) ?_
  refine sE ?_
  show AWl _ _ _ _ _
  refine aN rfl rfl (by constructor) ?_
  refine aN rfl rfl (by constructor) ?_
  refine gT rfl ?_
  refine aN rfl rfl (by constructor) ?_
  refine gT rfl ?_
  refine aLd st 1 rfl rfl rfl (by constructor) ?_
  refine gT rfl ?_
  refine aBinV (.bool true) rfl rfl rfl ?_
  refine aN rfl rfl (by constructor) ?_
  refine aN rfl rfl (by constructor) ?_
  refine gT rfl ?_
  refine aN rfl rfl (by constructor) ?_
  refine gT rfl ?_
  refine aLd st 1 rfl rfl rfl (by constructor) ?_
  refine gT rfl ?_
  refine aBinV (.bool true) rfl rfl rfl ?_
  refine aN rfl rfl (by constructor) ?_
  refine aN rfl rfl (by constructor) ?_
  refine gT rfl ?_
  refine aN rfl rfl (by constructor) ?_
  refine gT rfl ?_
  refine aLd st 1 rfl rfl rfl (by constructor) ?_
  refine gT rfl ?_
  refine aBinV (.bool true) rfl rfl rfl ?_
  refine aN rfl rfl (by constructor) ?_
  refine aN rfl rfl (by constructor) ?_
  refine sE ?_
  refine ⟨_, out1 (r_tmp rfl (by constructor)), ?_⟩
  exact ⟨rfl, st.drop⟩
theorem parses_call {H : Hp} {xs : List Int} {x : Value} (hx : Sl H 1 xs.length (xs.map (Value.int .u8)) x) (hb : ByteL xs) (hl : xs.length ≤ 140737488351232) :
    ACalls Try.prog 3 [x] H (fun v _ => v = .bool true) := by
  refine acallsW Try.func3 f3_ok (Nat.le_of_ble_eq_true rfl) fun hw => ?_
  have st : Stt [] H H [] := Stt.start hw
  unfold f3c
  show AWl _ _ _ _ _
  refine aN rfl rfl (by constructor) ?_
  refine sE ?_
  show AWl _ _ _ _ _
  refine aC (awake_call) fun v9 H1 ⟨hv, st1⟩ => ?_
  subst hv
  replace st := st.call st1 rfl
  clear st1
  refine aN rfl rfl (by constructor) ?_
  refine aN rfl rfl (by constructor) ?_
  refine aN rfl rfl (by constructor) ?_
  refine aN rfl rfl (by constructor) ?_
  refine aN rfl rfl (by constructor) ?_
  refine sE ?_
  show AW _ (.cond _ _ _) _ _ _
  refine cF' rfl ?_
  show AWl _ _ _ _ _
  refine aMovV x rfl ?_
  refine aC (parse_call (xs := xs) (st.slc hx) hb (by omega)) fun v17 H2 ⟨f17, b17, hv, st1, hP17⟩ => ?_
  subst hv
  replace st := st.call st1 rfl
  clear st1
  refine aN rfl rfl (by constructor) ?_
  refine aN rfl rfl (by constructor) ?_
  refine aN rfl rfl (by constructor) ?_
  refine aN rfl rfl (by constructor) ?_
  refine aNewP st rfl rfl (by repeat constructor) fun b3 H3 st => ?_
  refine aNewP st rfl rfl (by repeat constructor) fun b4 H4 st => ?_
  refine aSt st 1 rfl rfl rfl rfl (by first | rfl | simp [cellsOf, *]) (by first | decide | simp [*]) (by repeat constructor) fun H5 st => ?_
  refine aSt st 0 rfl rfl rfl rfl (by first | rfl | simp [cellsOf, *]) (by first | decide | simp [*]) (by repeat constructor) fun H6 st => ?_
  refine aN rfl rfl (by constructor) ?_
  refine sE ?_
  show AWl _ _ _ _ _
  refine aMovV x rfl ?_
  refine aC (rparse_call (xs := xs) (st.slc hx) hb (by omega)) fun v23 H7 ⟨f23, b23, hv, st1, hP23⟩ => ?_
  subst hv
  replace st := st.call st1 rfl
  clear st1
  rw [parse_uniq hP23 hP17]
  refine aN rfl rfl (by constructor) ?_
  refine aN rfl rfl (by constructor) ?_
  refine aN rfl rfl (by constructor) ?_
  refine aN rfl rfl (by constructor) ?_
  refine aNewP st rfl rfl (by repeat constructor) fun b6 H8 st => ?_
  refine aNewP st rfl rfl (by repeat constructor) fun b7 H9 st => ?_
  refine aSt st 1 rfl rfl rfl rfl (by first | rfl | simp [cellsOf, *]) (by first | decide | simp [*]) (by repeat constructor) fun H10 st => ?_
  refine aSt st 0 rfl rfl rfl rfl (by first | rfl | simp [cellsOf, *]) (by first | decide | simp [*]) (by repeat constructor) fun H11 st => ?_
  refine aN rfl rfl (by constructor) ?_
  refine sE ?_
  show AWl _ _ _ _ _
  refine aLdA st 3 rfl rfl (by first | decide | simp [*]) (by repeat constructor) ?_
  refine aLdA st 1 rfl rfl (by first | decide | simp [*]) (by repeat constructor) ?_
  refine aEqAV true rfl rfl (by simp [eqL, eqV]) ?_
  refine aN rfl rfl (by constructor) ?_
  refine gT rfl ?_
  refine aLdA st 2 rfl rfl (by first | decide | simp [*]) (by repeat constructor) ?_
  refine gT rfl ?_
  refine aLdA st 0 rfl rfl (by first | decide | simp [*]) (by repeat constructor) ?_
  refine gT rfl ?_
  refine aEqAV true rfl rfl (by simp [eqL, eqV]) ?_
  refine aN rfl rfl (by constructor) ?_
  refine aN rfl rfl (by constructor) ?_
  refine gT rfl ?_
  refine aN rfl rfl (by constructor) ?_
  refine gT rfl ?_
  refine aN rfl rfl (by constructor) ?_
  refine gT rfl ?_
  refine aEqBB rfl rfl ?_
  refine aN rfl rfl (by constructor) ?_
  refine aN rfl rfl (by constructor) ?_
  refine sE ?_
  refine ⟨_, out1 (r_tmp rfl (by constructor)), ?_⟩
  rfl
theorem uses_call {H : Hp} {op sv : Int} (ho : 0 ≤ op ∧ op < 256) :
    ACalls Try.prog 4 [.int .u8 op, .int .u8 sv] H (fun v _ => v = .bool true) := by
  refine acallsW Try.func4 f4_ok (Nat.le_of_ble_eq_true rfl) fun hw => ?_
  have st : Stt [] H H [] := Stt.start hw
  unfold f4c
  show AWl _ _ _ _ _
  refine aN rfl rfl (by constructor) ?_
  refine sE ?_
  show AWl _ _ _ _ _
  refine aC (awake_call) fun v9 H1 ⟨hv, st1⟩ => ?_
  subst hv
  replace st := st.call st1 rfl
  clear st1
  refine aN rfl rfl (by constructor) ?_
  refine sE ?_
  show AW _ (.cond _ _ _) _ _ _
  refine cF' rfl ?_
  show AWl _ _ _ _ _
  refine aN rfl rfl (by constructor) ?_
  refine aN rfl rfl (by constructor) ?_
  refine aC (usage_call (sv := sv) ho) fun v14 H2 ⟨ob14, hv, st1, he14⟩ => ?_
  subst hv
  replace st := st.call st1 rfl
  clear st1
  refine aN rfl rfl (by constructor) ?_
  refine aExtA rfl rfl ?_
  refine aN rfl rfl (by constructor) ?_
  refine aMovA rfl ?_
  refine aN rfl rfl (by constructor) ?_
  refine sE ?_
  show AWl _ _ _ _ _
  refine aN rfl rfl (by constructor) ?_
  refine aN rfl rfl (by constructor) ?_
  refine aC (rusage_call (sv := sv) ho) fun v20 H3 ⟨ob20, hv, st1, he20⟩ => ?_
  subst hv
  replace st := st.call st1 rfl
  clear st1
  refine aN rfl rfl (by constructor) ?_
  refine aExtA rfl rfl ?_
  refine aN rfl rfl (by constructor) ?_
  refine aMovA rfl ?_
  refine aN rfl rfl (by constructor) ?_
  refine sE ?_
  show AWl _ _ _ _ _
  refine aMovA rfl ?_
  refine aText (st.rowAcc 1 rfl (by decide) (by simp)) rfl ?_
  refine aMovA rfl ?_
  refine aText (st.rowAcc 0 rfl (by decide) (by simp)) rfl ?_
  refine aEqSS (u := ofInts (useL op)) rfl rfl ?_
  refine aN rfl rfl (by constructor) ?_
  refine gT rfl ?_
  refine aN rfl rfl (by constructor) ?_
  refine gT rfl ?_
  refine aN rfl rfl (by constructor) ?_
  refine gT rfl ?_
  refine aEqBB rfl rfl ?_
  refine aN rfl rfl (by constructor) ?_
  refine aN rfl rfl (by constructor) ?_
  refine gT rfl ?_
  refine aN rfl rfl (by constructor) ?_
  refine gT rfl ?_
  refine aN rfl rfl (by constructor) ?_
  refine gT rfl ?_
  refine aC (fault_call) fun v36 H4 ⟨hv, st1⟩ => ?_
  subst hv
  replace st := st.call st1 rfl
  clear st1
  refine gT rfl ?_
  refine aN rfl rfl (by constructor) ?_
  refine gT rfl ?_
  refine aN rfl rfl (by constructor) ?_
  refine gT rfl ?_
  refine aC (rfault_call) fun v39 H5 ⟨hv, st1⟩ => ?_
  subst hv
  replace st := st.call st1 rfl
  clear st1
  refine gT rfl ?_
  refine aEqAV true rfl rfl (by simp [eqL, eqV]) ?_
  refine aN rfl rfl (by constructor) ?_
  refine aN rfl rfl (by constructor) ?_
  refine sE ?_
  refine ⟨_, out1 (r_tmp rfl (by constructor)), ?_⟩
  rfl
theorem args1 {P : Program} {H : Hp} {B D : Nat} {a : TypeId} {xs : List Value} (h : datArgs P H B D [a] xs) : ∃ x0, xs = [x0] ∧ datV P H B D a x0 := by
  match xs, h with
  | [x0], ⟨d0, _⟩ => exact ⟨x0, rfl, d0⟩
theorem args2 {P : Program} {H : Hp} {B D : Nat} {a b : TypeId} {xs : List Value} (h : datArgs P H B D [a, b] xs) : ∃ x0 x1, xs = [x0, x1] ∧ datV P H B D a x0 ∧ datV P H B D b x1 := by
  match xs, h with
  | [x0, x1], ⟨d0, d1, _⟩ => exact ⟨x0, x1, rfl, d0, d1⟩
theorem args3 {P : Program} {H : Hp} {B D : Nat} {a b c : TypeId} {xs : List Value} (h : datArgs P H B D [a, b, c] xs) : ∃ x0 x1 x2, xs = [x0, x1, x2] ∧ datV P H B D a x0 ∧ datV P H B D b x1 ∧ datV P H B D c x2 := by
  match xs, h with
  | [x0, x1, x2], ⟨d0, d1, d2, _⟩ => exact ⟨x0, x1, x2, rfl, d0, d1, d2⟩
theorem args4 {P : Program} {H : Hp} {B D : Nat} {a b c d : TypeId} {xs : List Value} (h : datArgs P H B D [a, b, c, d] xs) : ∃ x0 x1 x2 x3, xs = [x0, x1, x2, x3] ∧ datV P H B D a x0 ∧ datV P H B D b x1 ∧ datV P H B D c x2 ∧ datV P H B D d x3 := by
  match xs, h with
  | [x0, x1, x2, x3], ⟨d0, d1, d2, d3, _⟩ => exact ⟨x0, x1, x2, x3, rfl, d0, d1, d2, d3⟩
theorem cdbParses_law {H : Hp} {B : Nat} {xs : List Value} (hro : Ro H) (hd : datArgs Try.prog H B 8 [22] xs) : ACalls Try.prog 3 xs H fun v _ => v = .bool true := by
  obtain ⟨x0, rfl, d0⟩ := args1 hd
  obtain ⟨ps, hps, wps, lps, _⟩ := arg_ints (e := 5) (k := .u8) (by kernel_rfl) (by kernel_rfl) (by kernel_rfl) d0
  rw [show Try.prog.bytesOf 5 = 1 by kernel_rfl, Nat.mul_one] at lps
  exact parses_call hps (wf_bytes wps) lps
theorem cdbUses_law {H : Hp} {B : Nat} {xs : List Value} (hro : Ro H) (hd : datArgs Try.prog H B 8 [5, 5] xs) : ACalls Try.prog 4 xs H fun v _ => v = .bool true := by
  obtain ⟨x0, x1, rfl, d0, d1⟩ := args2 hd
  obtain ⟨n, rfl, wn⟩ := arg_int (k := .u8) (by kernel_rfl) d0
  obtain ⟨m, rfl, wm⟩ := arg_int (k := .u8) (by kernel_rfl) d1
  exact uses_call (r8 wn)

end Go.Proofs.Ytlbmfcbcmfcjbaa.Abs
