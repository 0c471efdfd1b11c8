/- Inq: cuts. -/
import Derived.Test.YtaboppkelafoaaaI6
set_option linter.unusedVariables false
set_option linter.unusedSimpArgs false
set_option maxRecDepth 100000
namespace Go.Proofs.Ytaboppkelafoaaa.Abs
open Go Go.RowKit
def cutN (xs : List Int) (n : Int) : Nat := (if (xs.length : Int) < (if n < 0 then (0 : Int) else n) then (xs.length : Int) else (if n < 0 then (0 : Int) else n)).toNat
theorem cutN_bd (xs : List Int) (n : Int) : 0 ≤ (if (xs.length : Int) < (if n < 0 then (0 : Int) else n) then (xs.length : Int) else (if n < 0 then (0 : Int) else n)) ∧ (if (xs.length : Int) < (if n < 0 then (0 : Int) else n) then (xs.length : Int) else (if n < 0 then (0 : Int) else n)) ≤ xs.length := by
  by_cases h : n < 0
  · rw [if_pos h]; split <;> omega
  · rw [if_neg h]; split <;> omega
theorem cutN_le (xs : List Int) (n : Int) : cutN xs n ≤ xs.length := by
  have := cutN_bd xs n
  unfold cutN
  omega
def cutL (xs : List Int) (n : Int) : List Int := xs.take (cutN xs n)
theorem of_call {H : Hp} {i : Inf} (hs : i.wf) :
    ACalls Try.prog 14 [.agg #[.string (ofInts i.v), .string (ofInts i.p), .string (ofInts i.r), .string (ofInts i.s), .int .u8 i.prot]] H (fun v H' => v = .agg #[.string (ofInts i.v), .string (ofInts i.p), .string (ofInts i.r), .string (ofInts i.s), .int .i64 i.prot] ∧ Stt [] H H' []) := by
  refine acallsW Try.func14 f14_ok (Nat.le_of_ble_eq_true rfl) fun hw => ?_
  have st : Stt [] H H [] := Stt.start hw
  unfold f14c
  show AWl _ _ _ _ _
  refine aBoxN st rfl rfl (by repeat constructor) rfl fun b1 H1 st => ?_
  refine aNewP st rfl rfl (by repeat constructor) fun b2 H2 st => ?_
  refine sE ?_
  show AWl _ _ _ _ _
  refine aN rfl rfl (by constructor) ?_
  refine aLd st 1 rfl rfl rfl (by constructor) ?_
  refine aN rfl rfl (by constructor) ?_
  refine aLd st 1 rfl rfl rfl (by constructor) ?_
  refine aN rfl rfl (by constructor) ?_
  refine aLd st 1 rfl rfl rfl (by constructor) ?_
  refine aN rfl rfl (by constructor) ?_
  refine aLd st 1 rfl rfl rfl (by constructor) ?_
  refine aN rfl rfl (by constructor) ?_
  refine aLd st 1 rfl rfl rfl (by constructor) ?_
  refine aN rfl rfl (by constructor) ?_
  refine aBld rfl (by repeat constructor) ?_
  refine aSt st 0 rfl rfl rfl rfl (by first | rfl | simp [cellsOf, *]) (by first | decide | simp [*]) (by repeat constructor) fun H3 st => ?_
  refine sE ?_
  refine ⟨_, out1 (r_cellA st 0 rfl rfl (by first | decide | simp [*]) (by repeat constructor)), ?_⟩
  refine ⟨congrArg (fun z => Value.agg #[.string (ofInts i.v), .string (ofInts i.p), .string (ofInts i.r), .string (ofInts i.s), .int .i64 z]) (wi _ (by have := hs.2.2.2.2; omega)), st.drop⟩
theorem cut_call {H : Hp} {xs : List Int} {x : Value} {n : Int} (hx : Sl H 1 xs.length (xs.map (Value.int .u8)) x) (hl : xs.length ≤ 140737488351232) :
    ACalls Try.prog 9 [x, .int .i64 n] H (fun v H' => ∃ ob, v = accV ob (cutL xs n).length 1 ∧ Stt [] H H' [⟨ob, true, ⟨true, 5, (cutL xs n).map (Value.int .u8)⟩⟩]) := by
  refine acallsW Try.func9 f9_ok (Nat.le_of_ble_eq_true rfl) fun hw => ?_
  have st : Stt [] H H [] := Stt.start hw
  unfold f9c
  show AWl _ _ _ _ _
  refine aN rfl rfl (by constructor) ?_
  refine sE ?_
  show AWl _ _ _ _ _
  refine aMovV x rfl ?_
  refine aN rfl rfl (by constructor) ?_
  refine aMax rfl rfl ?_
  refine aMovV x rfl ?_
  refine aLen (st.slc hx) rfl ?_
  refine aMin rfl rfl ?_
  refine aCutH (st.slc hx) rfl rfl (cutN_bd xs n) fun v11 s11 => ?_
  replace s11 := s11 _ hx
  have st := st.nil 5
  have hnil : (Value.slice none 0 0) = accV none 0 1 := rfl
  refine aApp st 0 (ob := none) (n := 0) rfl rfl rfl (by decide) (rfl) (st.slc s11).src (by have := cutN_bd xs n; simp only [List.length_map, List.length_take, Nat.mul_one]; omega) (by have := cutN_bd xs n; omega) (by have := cutN_bd xs n; omega) fun b12 H1 hp12 st => ?_
  refine aMovA rfl ?_
  refine sE ?_
  refine ⟨_, out1 (r_acc rfl), ?_⟩
  exact ⟨b12, congrArg (fun k => accV _ k 1) (by rw [Nat.zero_add]; unfold cutL; rw [List.length_take, Nat.min_eq_left (cutN_le xs n)]; rfl), by have st2 := st.pick 0 rfl; simpa [cutL, cutN] using st2⟩
end Go.Proofs.Ytaboppkelafoaaa.Abs
