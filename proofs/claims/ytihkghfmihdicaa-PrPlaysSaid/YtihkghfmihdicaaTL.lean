/- Reservations: tables as bytes. -/
import Derived.Test.YtihkghfmihdicaaT9
import Derived.Test.YtihkghfmihdicaaS4
set_option linter.unusedVariables false
set_option linter.unusedSimpArgs false
set_option maxRecDepth 100000
namespace Go.Proofs.Ytihkghfmihdicaa.Abs
open Go Go.RowKit

def recN (p : List Int) (i : Nat) : Int × Int := (p.getD (5 + 9 * i) 0, rgetV p ((5 + 9 * i + 1 : Nat) : Int) 8)
def prevN (p : List Int) (i : Nat) : Int := if i = 0 then -1 else (recN p (i - 1)).1
def okAt (p : List Int) (i : Nat) : Bool := decide (prevN p i < (recN p i).1) && decide ((recN p i).1 < 8) && (recN p i).2 != 0
def recs (p : List Int) (j : Nat) : List (Int × Int) := (List.range j).map (recN p)
def headB (p : List Int) : Prop := p.length < 5 ∨ p.getD 0 0 ≠ 80 ∨ p.getD 1 0 ≠ 82 ∨ (p.length : Int) ≠ 5 + 9 * p.getD 4 0
instance (p : List Int) : Decidable (headB p) := by unfold headB; exact inferInstance
def hold3 (p : List Int) : Int := IntKind.i64.wrap (IntKind.i8.wrap (p.getD 3 0))
def cntN (p : List Int) : Nat := (p.getD 4 0).toNat
def loadT (p : List Int) : PT := ⟨recs p (cntN p), 0, p.getD 2 0, hold3 p, true⟩
def loadM (p : List Int) : Option PT :=
  if p.length = 0 then some PT0
  else if headB p then none
  else if (List.range (cntN p)).all (okAt p) = false then none
  else if p.getD 2 0 = 0 ∨ allB (p.getD 2 0) = true then
    if hold3 p ≠ -1 ∨ (allB (p.getD 2 0) = true ∧ cntN p = 0) then none else some (loadT p)
  else if (keyM (recs p (cntN p)) (hold3 p)).2 = true ∧ typeB (p.getD 2 0) = true then some (loadT p) else none
theorem recs_len (p : List Int) (j : Nat) : (recs p j).length = j := by simp [recs]
theorem recs_step (p : List Int) (j : Nat) : recs p (j + 1) = recs p j ++ [recN p j] := by simp [recs, List.range_succ]
theorem ok_all {p : List Int} {m : Nat} (h : ∀ i, i < m → okAt p i = true) : (List.range m).all (okAt p) = true := by
  rw [List.all_eq_true]
  intro i hi
  exact h i (List.mem_range.1 hi)
theorem ok_not {p : List Int} {m j : Nat} (hj : j < m) (h : okAt p j = false) : (List.range m).all (okAt p) = false := by
  rw [List.all_eq_false]
  exact ⟨j, List.mem_range.2 hj, by rw [h]; decide⟩
theorem lm0 {p : List Int} (h : p.length = 0) : loadM p = some PT0 := if_pos h
section
variable {p : List Int} (h0 : p.length ≠ 0)
include h0
theorem lm1 (h : headB p) : loadM p = none := by unfold loadM; rw [if_neg h0, if_pos h]
variable (h1 : ¬ headB p)
include h1
theorem lm2 (h : (List.range (cntN p)).all (okAt p) = false) : loadM p = none := by unfold loadM; rw [if_neg h0, if_neg h1, if_pos h]
variable (h2 : (List.range (cntN p)).all (okAt p) = true)
include h2
theorem lm3 (h : p.getD 2 0 = 0 ∨ allB (p.getD 2 0) = true) (k : hold3 p ≠ -1 ∨ (allB (p.getD 2 0) = true ∧ cntN p = 0)) : loadM p = none := by unfold loadM; rw [if_neg h0, if_neg h1, if_neg (by rw [h2]; decide), if_pos h, if_pos k]
theorem lm4 (h : p.getD 2 0 = 0 ∨ allB (p.getD 2 0) = true) (k : ¬ (hold3 p ≠ -1 ∨ (allB (p.getD 2 0) = true ∧ cntN p = 0))) : loadM p = some (loadT p) := by unfold loadM; rw [if_neg h0, if_neg h1, if_neg (by rw [h2]; decide), if_pos h, if_neg k]
theorem lm5 (h : ¬ (p.getD 2 0 = 0 ∨ allB (p.getD 2 0) = true)) (k : ¬ ((keyM (recs p (cntN p)) (hold3 p)).2 = true ∧ typeB (p.getD 2 0) = true)) : loadM p = none := by unfold loadM; rw [if_neg h0, if_neg h1, if_neg (by rw [h2]; decide), if_neg h, if_neg k]
theorem lm6 (h : ¬ (p.getD 2 0 = 0 ∨ allB (p.getD 2 0) = true)) (k : (keyM (recs p (cntN p)) (hold3 p)).2 = true ∧ typeB (p.getD 2 0) = true) : loadM p = some (loadT p) := by unfold loadM; rw [if_neg h0, if_neg h1, if_neg (by rw [h2]; decide), if_neg h, if_pos k]
end
theorem head_no {p : List Int} (hb : ByteL p) (h : ¬ headB p) : 5 ≤ p.length ∧ p.getD 0 0 = 80 ∧ p.getD 1 0 = 82 ∧ p.length = 5 + 9 * cntN p ∧ cntN p ≤ 255 := by
  unfold headB at h
  have h4 := hb.getD 4
  unfold cntN
  refine ⟨by omega, by omega, by omega, by omega, by omega⟩
section
variable {p : List Int} {j : Nat}
theorem ok_f1 (h : decide ((recN p j).1 ≤ prevN p j) = true) : okAt p j = false := by
  have := of_decide_eq_true h
  unfold okAt
  rw [decide_eq_false (show ¬ prevN p j < (recN p j).1 by omega)]
  rfl
theorem ok_f2 (h : decide ((recN p j).1 ≥ 8) = true) : okAt p j = false := by
  have := of_decide_eq_true h
  unfold okAt
  rw [decide_eq_false (show ¬ (recN p j).1 < 8 by omega), Bool.and_false]
  rfl
theorem ok_f3 (h : ((recN p j).2 == 0) = true) : okAt p j = false := by
  unfold okAt
  rw [show ((recN p j).2 != 0) = false by simpa using h, Bool.and_false]
theorem ok_t (h1 : decide ((recN p j).1 ≤ prevN p j) = false) (h2 : decide ((recN p j).1 ≥ 8) = false) (h3 : ((recN p j).2 == 0) = false) : okAt p j = true := by
  have e1 := of_decide_eq_false h1
  have e2 := of_decide_eq_false h2
  unfold okAt
  rw [decide_eq_true (show prevN p j < (recN p j).1 by omega), decide_eq_true (show (recN p j).1 < 8 by omega), show ((recN p j).2 != 0) = true by simpa using h3]
  rfl
end

end Go.Proofs.Ytihkghfmihdicaa.Abs
