/- Commands: the first example. -/
import Derived.Test.YtlbmfcbcmfcjbaaQ1
set_option linter.unusedVariables false
set_option linter.unusedSimpArgs false
set_option maxRecDepth 100000
namespace Go.Proofs.Ytlbmfcbcmfcjbaa.Abs
open Go Go.RowKit
theorem wake_lit {f b : Int} (h : POdd [8, 0, 0, 3, 1, 0] f b) : parseM [8, 0, 0, 3, 1, 0] f b = (⟨7, false, 3, 1, 0, false, 0, false, false, 0, 0, false, 0, 0, false⟩, sns0, true) := by
  have h1 : OddAt [8, 0, 0, 3, 1, 0] [8, 31, 255, 255, 255, 0] f b := h (by decide) (by decide)
  obtain ⟨rfl, rfl⟩ := h1.uniq (.inl ⟨rfl, rfl, by decide⟩ : OddAt [8, 0, 0, 3, 1, 0] [8, 31, 255, 255, 255, 0] (-1) (-1))
  rfl
theorem awake_call {H : Hp}  :
    ACalls Try.prog 9 [] H (fun v H' => v = .bool true ∧ Stt [] H H' []) := by
  refine acallsW Try.func9 f9_ok (Nat.le_of_ble_eq_true rfl) fun hw => ?_
  have st : Stt [] H H [] := Stt.start hw
  unfold f9c
  show AWl _ _ _ _ _
  refine aN rfl rfl (by constructor) ?_
  refine sE ?_
  show AWl _ _ _ _ _
  refine aLit st rfl (by repeat constructor) fun b5 H1 st => ?_
  have st := st.toI 0 rfl rfl (by repeat constructor)
  refine aC (parse_call (xs := [8, 0, 0, 3, 1, 0]) (st.rowAll 0 rfl (by first | rfl | (simp [beB_len, *]; done) | (simp [beB_len, *]; omega))) (by simp only [byteL_cons, byteL_nil, and_true]; decide) (by decide)) fun v6 H2 ⟨f6, b6, hv, st1, hP6⟩ => ?_
  subst hv
  replace st := st.call st1 rfl
  clear st1
  rw [wake_lit hP6]
  refine aN rfl rfl (by constructor) ?_
  refine aN rfl rfl (by constructor) ?_
  refine aN rfl rfl (by constructor) ?_
  refine aN rfl rfl (by constructor) ?_
  refine aNewP st rfl rfl (by repeat constructor) fun b1 H3 st => ?_
  refine aNewP st rfl rfl (by repeat constructor) fun b2 H4 st => ?_
  refine aSt st 1 rfl rfl rfl rfl (by first | rfl | simp [cellsOf, *]) (by first | decide | simp [*]) (by repeat constructor) fun H5 st => ?_
  refine aSt st 0 rfl rfl rfl rfl (by first | rfl | simp [cellsOf, *]) (by first | decide | simp [*]) (by repeat constructor) fun H6 st => ?_
  refine aN rfl rfl (by constructor) ?_
  refine sE ?_
  show AWl _ _ _ _ _
  refine aN rfl rfl (by constructor) ?_
  refine aN rfl rfl (by constructor) ?_
  refine gT rfl ?_
  refine aN rfl rfl (by constructor) ?_
  refine gT rfl ?_
  refine aLd st 1 rfl rfl rfl (by constructor) ?_
  refine gT rfl ?_
  refine aBinV (.bool true) rfl rfl rfl ?_
  refine aN rfl rfl (by constructor) ?_
  refine aN rfl rfl (by constructor) ?_
  refine gT rfl ?_
  refine aN rfl rfl (by constructor) ?_
  refine gT rfl ?_
  refine aLd st 1 rfl rfl rfl (by constructor) ?_
  refine gT rfl ?_
  refine aBinV (.bool true) rfl rfl rfl ?_
  refine aN rfl rfl (by constructor) ?_
  refine aN rfl rfl (by constructor) ?_
  refine gT rfl ?_
  refine aN rfl rfl (by constructor) ?_
  refine gT rfl ?_
  refine aLd st 1 rfl rfl rfl (by constructor) ?_
  refine gT rfl ?_
  refine aBinV (.bool true) rfl rfl rfl ?_
  refine aN rfl rfl (by constructor) ?_
  refine aN rfl rfl (by constructor) ?_
  refine sE ?_
  refine ⟨_, out1 (r_tmp rfl (by constructor)), ?_⟩
  exact ⟨rfl, st.drop⟩
theorem args1 {P : Program} {H : Hp} {B D : Nat} {a : TypeId} {xs : List Value} (h : datArgs P H B D [a] xs) : ∃ x0, xs = [x0] ∧ datV P H B D a x0 := by
  match xs, h with
  | [x0], ⟨d0, _⟩ => exact ⟨x0, rfl, d0⟩
theorem args2 {P : Program} {H : Hp} {B D : Nat} {a b : TypeId} {xs : List Value} (h : datArgs P H B D [a, b] xs) : ∃ x0 x1, xs = [x0, x1] ∧ datV P H B D a x0 ∧ datV P H B D b x1 := by
  match xs, h with
  | [x0, x1], ⟨d0, d1, _⟩ => exact ⟨x0, x1, rfl, d0, d1⟩
theorem args3 {P : Program} {H : Hp} {B D : Nat} {a b c : TypeId} {xs : List Value} (h : datArgs P H B D [a, b, c] xs) : ∃ x0 x1 x2, xs = [x0, x1, x2] ∧ datV P H B D a x0 ∧ datV P H B D b x1 ∧ datV P H B D c x2 := by
  match xs, h with
  | [x0, x1, x2], ⟨d0, d1, d2, _⟩ => exact ⟨x0, x1, x2, rfl, d0, d1, d2⟩
theorem args4 {P : Program} {H : Hp} {B D : Nat} {a b c d : TypeId} {xs : List Value} (h : datArgs P H B D [a, b, c, d] xs) : ∃ x0 x1 x2 x3, xs = [x0, x1, x2, x3] ∧ datV P H B D a x0 ∧ datV P H B D b x1 ∧ datV P H B D c x2 ∧ datV P H B D d x3 := by
  match xs, h with
  | [x0, x1, x2, x3], ⟨d0, d1, d2, d3, _⟩ => exact ⟨x0, x1, x2, x3, rfl, d0, d1, d2, d3⟩

end Go.Proofs.Ytlbmfcbcmfcjbaa.Abs
