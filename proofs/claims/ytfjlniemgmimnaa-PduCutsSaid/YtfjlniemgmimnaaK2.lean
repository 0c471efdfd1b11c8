/- Sums of 32 bits. -/
import Derived.Test.YtfjlniemgmimnaaK1
set_option linter.unusedVariables false
set_option linter.unusedSimpArgs false
set_option maxRecDepth 100000
namespace Go.Proofs.Ytfjlniemgmimnaa.Abs
open Go Go.RowKit
theorem c32_call {H : Hp} {xs : List Int} {x : Value} (hx : Sl H 1 xs.length (xs.map (Value.int .u8)) x) (hb : ByteL xs) (hl : xs.length ≤ 140737488351232) :
  ACalls Try.prog 29 [x] H (fun v H' => v = .int .u32 (c32 xs) ∧ Stt [] H H' []) := by
 refine acallsW Try.func29 f29_ok (Nat.le_of_ble_eq_true rfl) fun hw => ?_
 have st : Stt [] H H [] := Stt.start hw
 unfold f29c
 show AWl _ _ _ _ _
 refine aN rfl rfl (by constructor) ?_
 refine sE ?_
 show AWl _ _ _ _ _
 refine aMovV x rfl ?_
 refine aC (add32_call (st.slc hx) hb hl) fun v4 H1 ⟨hv, st1⟩ => ?_
 subst hv
 replace st := st.call st1 rfl
 clear st1
 refine aN rfl rfl (by constructor) ?_
 refine sE ?_
 refine ⟨_, out1 (r_tmp rfl (by constructor)), ?_⟩
 exact ⟨rfl, st.drop⟩
theorem rc32_call {H : Hp} {xs : List Int} {x : Value} (hx : Sl H 1 xs.length (xs.map (Value.int .u8)) x) (hb : ByteL xs) (hl : xs.length ≤ 140737488351232) :
  ACalls Try.prog 30 [x] H (fun v H' => v = .int .u32 (c32 xs) ∧ Stt [] H H' []) := by
 refine acallsW Try.func30 f30_ok (Nat.le_of_ble_eq_true rfl) fun hw => ?_
 have st : Stt [] H H [] := Stt.start hw
 unfold f30c
 show AWl _ _ _ _ _
 refine aN rfl rfl (by constructor) ?_
 refine sE ?_
 show AWl _ _ _ _ _
 refine aMovV x rfl ?_
 refine aC (radd32_call (st.slc hx) hb hl) fun v4 H1 ⟨hv, st1⟩ => ?_
 subst hv
 replace st := st.call st1 rfl
 clear st1
 refine aN rfl rfl (by constructor) ?_
 refine sE ?_
 refine ⟨_, out1 (r_tmp rfl (by constructor)), ?_⟩
 exact ⟨rfl, st.drop⟩
theorem sum_eq {c : Int} : [IntKind.u8.wrap (c.fdiv (2 ^ min (24 : Int).toNat IntKind.u32.bits)), IntKind.u8.wrap (c.fdiv (2 ^ min (16 : Int).toNat IntKind.u32.bits)), IntKind.u8.wrap (c.fdiv (2 ^ min (8 : Int).toNat IntKind.u32.bits)), IntKind.u8.wrap c] = beB 4 c := by
  rw [shr_eq, shr_eq, shr_eq, w8, w8, w8, w8, show (2 : Int) ^ min (24 : Int).toNat IntKind.u32.bits = 256 * 256 * 256 by decide, show (2 : Int) ^ min (16 : Int).toNat IntKind.u32.bits = 256 * 256 by decide, show (2 : Int) ^ min (8 : Int).toNat IntKind.u32.bits = 256 by decide, ← Int.ediv_ediv_of_nonneg (by decide), ← Int.ediv_ediv_of_nonneg (by decide)]
  rfl
theorem sum_call {H : Hp} {xs : List Int} {x : Value} (hx : Sl H 1 xs.length (xs.map (Value.int .u8)) x) (hb : ByteL xs) (hl : xs.length ≤ 140737488351232) :
  ACalls Try.prog 22 [x] H (fun v H' => ∃ b, v = .slice (some ⟨b, 0, none⟩) 4 1 ∧ Stt [] H H' [⟨some b, true, ⟨true, 5, (beB 4 (c32 xs)).map (Value.int .u8)⟩⟩]) := by
 refine acallsW Try.func22 f22_ok (Nat.le_of_ble_eq_true rfl) fun hw => ?_
 have st : Stt [] H H [] := Stt.start hw
 unfold f22c
 show AWl _ _ _ _ _
 refine aN rfl rfl (by constructor) ?_
 refine sE ?_
 show AWl _ _ _ _ _
 refine aMovV x rfl ?_
 refine aC (c32_call (st.slc hx) hb hl) fun v5 H1 ⟨hv, st1⟩ => ?_
 subst hv
 replace st := st.call st1 rfl
 clear st1
 refine aN rfl rfl (by constructor) ?_
 refine sE ?_
 show AWl _ _ _ _ _
 iterate 11 refine aN rfl rfl (by constructor) ?_
 refine aLit st rfl (by repeat constructor) fun b17 H2 st => ?_
 refine aN rfl rfl (by constructor) ?_
 refine sE ?_
 refine ⟨_, out1 (r_tmp rfl (by constructor)), ?_⟩
 have st2 := (st.pick 0 rfl).toI 0 rfl rfl (by repeat constructor)
 rw [sum_eq] at st2
 exact ⟨b17, rfl, st2⟩
theorem rsum_call {H : Hp} {xs : List Int} {x : Value} (hx : Sl H 1 xs.length (xs.map (Value.int .u8)) x) (hb : ByteL xs) (hl : xs.length ≤ 140737488351232) :
  ACalls Try.prog 25 [x] H (fun v H' => ∃ b, v = .slice (some ⟨b, 0, none⟩) 4 1 ∧ Stt [] H H' [⟨some b, true, ⟨true, 5, (beB 4 (c32 xs)).map (Value.int .u8)⟩⟩]) := by
 refine acallsW Try.func25 f25_ok (Nat.le_of_ble_eq_true rfl) fun hw => ?_
 have st : Stt [] H H [] := Stt.start hw
 unfold f25c
 show AWl _ _ _ _ _
 refine aN rfl rfl (by constructor) ?_
 refine sE ?_
 show AWl _ _ _ _ _
 refine aMovV x rfl ?_
 refine aC (rc32_call (st.slc hx) hb hl) fun v4 H1 ⟨hv, st1⟩ => ?_
 subst hv
 replace st := st.call st1 rfl
 clear st1
 refine aN rfl rfl (by constructor) ?_
 refine aC (big_call (n := 4) (by decide)) fun v6 H2 ⟨b6, hv, st1⟩ => ?_
 subst hv
 replace st := st.call st1 rfl
 clear st1
 refine aN rfl rfl (by constructor) ?_
 refine sE ?_
 refine ⟨_, out1 (r_tmp rfl (by constructor)), ?_⟩
 have hu : IntKind.u64.wrap (c32 xs) = c32 xs := by have := c32_bd xs; rw [w64]; omega
 refine ⟨_, rfl, ?_⟩
 have st2 := st.pick 0 rfl; rw [hu] at st2; exact st2
end Go.Proofs.Ytfjlniemgmimnaa.Abs
