/- Sums of 32 bits. -/
import Derived.Test.YtloeadlmcdddnaaK1
set_option linter.unusedVariables false
set_option linter.unusedSimpArgs false
set_option maxRecDepth 100000
namespace Go.Proofs.Ytloeadlmcdddnaa.Abs
open Go Go.RowKit
theorem c32_call {H : Hp} {xs : List Int} {x : Value} (hx : Sl H 1 xs.length (xs.map (Value.int .u8)) x) (hb : ByteL xs) (hl : xs.length ≤ 140737488351232) :
  ACalls Try.prog 44 [x] H (fun v H' => v = .int .u32 (c32 xs) ∧ Stt [] H H' []) := by
 refine acallsW Try.func44 f44_ok (Nat.le_of_ble_eq_true rfl) fun hw => ?_
 have st : Stt [] H H [] := Stt.start hw
 unfold f44c
 show AWl _ _ _ _ _
 refine aN rfl rfl (by constructor) ?_
 refine sE ?_
 show AWl _ _ _ _ _
 refine aMovV x rfl ?_
 refine aC (add32_call (st.slc hx) hb hl) fun v4 H1 ⟨hv, st1⟩ => ?_
 subst hv
 replace st := st.call st1 rfl
 clear st1
 refine aN rfl rfl (by constructor) ?_
 refine sE ?_
 refine ⟨_, out1 (r_tmp rfl (by constructor)), ?_⟩
 exact ⟨rfl, st.drop⟩
theorem sum_eq {c : Int} : [IntKind.u8.wrap (c.fdiv (2 ^ min (24 : Int).toNat IntKind.u32.bits)), IntKind.u8.wrap (c.fdiv (2 ^ min (16 : Int).toNat IntKind.u32.bits)), IntKind.u8.wrap (c.fdiv (2 ^ min (8 : Int).toNat IntKind.u32.bits)), IntKind.u8.wrap c] = beB 4 c := by
  rw [shr_eq, shr_eq, shr_eq, w8, w8, w8, w8, show (2 : Int) ^ min (24 : Int).toNat IntKind.u32.bits = 256 * 256 * 256 by decide, show (2 : Int) ^ min (16 : Int).toNat IntKind.u32.bits = 256 * 256 by decide, show (2 : Int) ^ min (8 : Int).toNat IntKind.u32.bits = 256 by decide, ← Int.ediv_ediv_of_nonneg (by decide), ← Int.ediv_ediv_of_nonneg (by decide)]
  rfl
theorem sum_call {H : Hp} {xs : List Int} {x : Value} (hx : Sl H 1 xs.length (xs.map (Value.int .u8)) x) (hb : ByteL xs) (hl : xs.length ≤ 140737488351232) :
  ACalls Try.prog 38 [x] H (fun v H' => ∃ b, v = .slice (some ⟨b, 0, none⟩) 4 1 ∧ Stt [] H H' [⟨some b, true, ⟨true, 5, (beB 4 (c32 xs)).map (Value.int .u8)⟩⟩]) := by
 refine acallsW Try.func38 f38_ok (Nat.le_of_ble_eq_true rfl) fun hw => ?_
 have st : Stt [] H H [] := Stt.start hw
 unfold f38c
 show AWl _ _ _ _ _
 refine aN rfl rfl (by constructor) ?_
 refine sE ?_
 show AWl _ _ _ _ _
 refine aMovV x rfl ?_
 refine aC (c32_call (st.slc hx) hb hl) fun v5 H1 ⟨hv, st1⟩ => ?_
 subst hv
 replace st := st.call st1 rfl
 clear st1
 refine aN rfl rfl (by constructor) ?_
 refine sE ?_
 show AWl _ _ _ _ _
 iterate 11 refine aN rfl rfl (by constructor) ?_
 refine aLit st rfl (by repeat constructor) fun b17 H2 st => ?_
 refine aN rfl rfl (by constructor) ?_
 refine sE ?_
 refine ⟨_, out1 (r_tmp rfl (by constructor)), ?_⟩
 have st2 := (st.pick 0 rfl).toI 0 rfl rfl (by repeat constructor)
 rw [sum_eq] at st2
 exact ⟨b17, rfl, st2⟩
end Go.Proofs.Ytloeadlmcdddnaa.Abs
