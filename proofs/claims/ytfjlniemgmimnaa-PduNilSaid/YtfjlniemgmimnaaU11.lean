/- PDUs: PduNil. -/
import Derived.Test.YtfjlniemgmimnaaU10
set_option linter.unusedVariables false
set_option linter.unusedSimpArgs false
set_option maxRecDepth 100000
namespace Go.Proofs.Ytfjlniemgmimnaa.Abs
open Go Go.RowKit
theorem sl_nil {H : Hp} {sz : Nat} : Sl H sz 0 [] (.slice none 0 0) := ⟨by simp, .inl ⟨rfl, .inl rfl⟩⟩
theorem digests_nil {H : Hp} {a b : Bool} {x : Value}  :
    ACalls Try.prog 15 [.pointer none, .bool a, .bool b] H (fun v H' => v = .tuple #[] ∧ Stt [] H H' []) := by
  refine acallsW Try.func15 f15_ok (Nat.le_of_ble_eq_true rfl) fun hw => ?_
  have st : Stt [] H H [] := Stt.start hw
  unfold f15c
  show AWl _ _ _ _ _
  refine aN rfl rfl (by constructor) ?_
  refine aBinV (.bool false) (u := .pointer none) (u' := .pointer none) rfl rfl rfl ?_
  refine sE ?_
  show AW _ (.cond _ _ _) _ _ _
  refine cF' rfl ?_
  refine ⟨_, rfl , ?_⟩
  exact ⟨rfl, st.drop⟩
theorem feed_nil {H : Hp} {a b : Bool} {x : Value}  :
    ACalls Try.prog 16 [.pointer none, x] H (fun v H' => v = .tuple #[] ∧ Stt [] H H' []) := by
  refine acallsW Try.func16 f16_ok (Nat.le_of_ble_eq_true rfl) fun hw => ?_
  have st : Stt [] H H [] := Stt.start hw
  unfold f16c
  show AWl _ _ _ _ _
  refine aN rfl rfl (by constructor) ?_
  refine aBinV (.bool false) (u := .pointer none) (u' := .pointer none) rfl rfl rfl ?_
  refine aN rfl rfl (by constructor) ?_
  refine gF rfl (by decide) ?_
  refine gF rfl (by decide) ?_
  refine gF rfl (by decide) ?_
  refine gF rfl (by decide) ?_
  refine gF rfl (by decide) ?_
  refine aN rfl rfl (by constructor) ?_
  refine sE ?_
  show AW _ (.cond _ _ _) _ _ _
  refine cF' rfl ?_
  refine ⟨_, rfl , ?_⟩
  exact ⟨rfl, st.drop⟩
theorem next_nil {H : Hp} {a b : Bool} {x : Value}  :
    ACalls Try.prog 17 [.pointer none] H (fun v H' => v = .tuple #[.agg #[.int .u8 0, .int .u8 0, .int .u8 0, .int .u8 0, .int .u8 0, .int .u32 0, .int .u32 0, .int .u32 0, .int .u32 0, .int .u32 0, .int .u32 0, .int .u32 0, .int .u32 0, .slice none 0 0], .int .i64 8] ∧ Stt [] H H' []) := by
  refine acallsW Try.func17 f17_ok (Nat.le_of_ble_eq_true rfl) fun hw => ?_
  have st : Stt [] H H [] := Stt.start hw
  unfold f17c
  show AWl _ _ _ _ _
  refine aNewP st rfl rfl (by repeat constructor) fun b2 H1 st => ?_
  refine aN rfl rfl (by constructor) ?_
  refine sE ?_
  show AWl _ _ _ _ _
  refine aN rfl rfl (by constructor) ?_
  refine aBinV (.bool true) (u := .pointer none) (u' := .pointer none) rfl rfl rfl ?_
  refine aN rfl rfl (by constructor) ?_
  refine sE ?_
  show AW _ (.cond _ _ _) _ _ _
  refine cT rfl ?_
  show AWl _ _ _ _ _
  refine aBld rfl (by repeat constructor) ?_
  refine aSt st 0 rfl rfl rfl rfl (by first | rfl | simp [cellsOf, *]) (by first | decide | simp [*]) (by repeat constructor) fun H2 st => ?_
  refine aN rfl rfl (by constructor) ?_
  refine sE ?_
  refine ⟨_, out2 (r_cellA st 0 rfl rfl (by first | decide | simp [*]) (by repeat constructor)) (r_tmp rfl (by constructor)) ⟨rfl, rfl⟩, ?_⟩
  exact ⟨rfl, st.drop⟩
theorem held_nil {H : Hp} {a b : Bool} {x : Value}  :
    ACalls Try.prog 18 [.pointer none] H (fun v H' => v = .int .i64 0 ∧ Stt [] H H' []) := by
  refine acallsW Try.func18 f18_ok (Nat.le_of_ble_eq_true rfl) fun hw => ?_
  have st : Stt [] H H [] := Stt.start hw
  unfold f18c
  show AWl _ _ _ _ _
  refine aN rfl rfl (by constructor) ?_
  refine sE ?_
  show AWl _ _ _ _ _
  refine aN rfl rfl (by constructor) ?_
  refine aBinV (.bool true) (u := .pointer none) (u' := .pointer none) rfl rfl rfl ?_
  refine sE ?_
  show AW _ (.cond _ _ _) _ _ _
  refine cT rfl ?_
  show AWl _ _ _ _ _
  refine aN rfl rfl (by constructor) ?_
  refine sE ?_
  refine ⟨_, out1 (r_tmp rfl (by constructor)), ?_⟩
  exact ⟨rfl, st.drop⟩
theorem nil_call {H : Hp} {x : Value}  :
    ACalls Try.prog 7 [x] H (fun v _ => v = .bool true) := by
  refine acallsW Try.func7 f7_ok (Nat.le_of_ble_eq_true rfl) fun hw => ?_
  have st : Stt [] H H [] := Stt.start hw
  unfold f7c
  show AWl _ _ _ _ _
  refine aN rfl rfl (by constructor) ?_
  refine sE ?_
  show AWl _ _ _ _ _
  refine aN rfl rfl (by constructor) ?_
  refine sE ?_
  show AWl _ _ _ _ _
  refine aN rfl rfl (by constructor) ?_
  refine aC (digests_nil (x := .pointer none)) fun v7 H1 ⟨hv, st1⟩ => ?_
  subst hv
  replace st := st.call st1 rfl
  clear st1
  refine sE ?_
  show AWl _ _ _ _ _
  refine aN rfl rfl (by constructor) ?_
  refine aMovV x rfl ?_
  refine aC (feed_nil (a := true) (b := true)) fun v10 H2 ⟨hv, st1⟩ => ?_
  subst hv
  replace st := st.call st1 rfl
  clear st1
  refine sE ?_
  show AWl _ _ _ _ _
  refine aN rfl rfl (by constructor) ?_
  refine aC (next_nil (a := true) (b := true) (x := .pointer none)) fun v13 H3 ⟨hv, st1⟩ => ?_
  subst hv
  replace st := st.call st1 rfl
  clear st1
  refine aN rfl rfl (by constructor) ?_
  refine aN rfl rfl (by constructor) ?_
  refine aN rfl rfl (by constructor) ?_
  refine aNewP st rfl rfl (by repeat constructor) fun b4 H4 st => ?_
  refine aSt st 0 rfl rfl rfl rfl (by first | rfl | simp [cellsOf, *]) (by first | decide | simp [*]) (by repeat constructor) fun H5 st => ?_
  refine aN rfl rfl (by constructor) ?_
  refine sE ?_
  show AWl _ _ _ _ _
  refine aC (awake_call) fun v16 H6 ⟨hv, st1⟩ => ?_
  subst hv
  replace st := st.call st1 rfl
  clear st1
  refine aN rfl rfl (by constructor) ?_
  refine gT rfl ?_
  refine aN rfl rfl (by constructor) ?_
  refine gT rfl ?_
  refine aBinV (.bool true) rfl rfl rfl ?_
  refine aN rfl rfl (by constructor) ?_
  refine aN rfl rfl (by constructor) ?_
  refine gT rfl ?_
  refine aLdA st 0 rfl rfl (by first | decide | simp [*]) (by repeat constructor) ?_
  refine gT rfl ?_
  refine aBld rfl (by repeat constructor) ?_
  refine gT rfl ?_
  refine aC (same_call (p := zeroP) (x := .slice none 0 0) (y := .slice none 0 0) sl_nil sl_nil) fun v24 H7 ⟨hv, st1⟩ => ?_
  subst hv
  replace st := st.call st1 rfl
  clear st1
  refine aN rfl rfl (by constructor) ?_
  refine aN rfl rfl (by constructor) ?_
  refine gT rfl ?_
  refine aN rfl rfl (by constructor) ?_
  refine gT rfl ?_
  refine aC (held_nil (a := true) (b := true) (x := .pointer none)) fun v28 H8 ⟨hv, st1⟩ => ?_
  subst hv
  replace st := st.call st1 rfl
  clear st1
  refine gT rfl ?_
  refine aBinV (.bool true) rfl rfl rfl ?_
  refine aN rfl rfl (by constructor) ?_
  refine aN rfl rfl (by constructor) ?_
  refine sE ?_
  refine ⟨_, out1 (r_tmp rfl (by constructor)), ?_⟩
  rfl
end Go.Proofs.Ytfjlniemgmimnaa.Abs
