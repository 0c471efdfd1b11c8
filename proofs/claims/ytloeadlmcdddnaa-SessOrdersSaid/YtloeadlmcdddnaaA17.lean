/- An abstract machine for the program's text, part 17: from a law's call to its row. -/
import Derived.Test.YtloeadlmcdddnaaA16
import Derived.Carry
import Derived.WideShapes
import Derived.SizedLaws
set_option linter.unusedVariables false
set_option linter.unusedSimpArgs false
namespace Go.Proofs.Ytloeadlmcdddnaa.Abs
open Go Go.RowKit
/-- An argument, told with abstract blocks. -/
def datV (P : Program) (H : Hp) (B D : Nat) (t : TypeId) (x : Value) : Prop :=
  match isRowT P t with
  | some true => ∃ us : List Value, x = .agg us.toArray ∧ dat P H B D t us
  | _ => dat P H B D t [x]
def datArgs (P : Program) (H : Hp) (B D : Nat) : List TypeId → List Value → Prop
  | [], [] => True
  | t :: ts, x :: xs => datV P H B D t x ∧ datArgs P H B D ts xs
  | _, _ => False
section
variable {HH : Type} {enc : TypeId × Value → HH} {P : Program} {W : World}
theorem datV_ext {H H' : Hp} (he : HExt H H') {B D : Nat} {t : TypeId} {x : Value} (h : datV P H B D t x) : datV P H' B D t x := by
  unfold datV at h ⊢
  split at h
  · obtain ⟨us, h1, h2⟩ := h
    exact ⟨us, h1, dat_ext he h2⟩
  · exact dat_ext he h
theorem datV_of {H : Hp} {ρ : Rho} {B D : Nat} {t : TypeId} {v : Value} {us : List Value} {base : Nat} (hok : okT P D t = true) (hv : Value.okWide P W .any base t v) (hu : All2 (RC ρ) us v.cells.toList) (hd : dat P H B D t us) : ∃ x, RV ρ x v ∧ datV P H B D t x := by
  cases D with
  | zero => cases hok
  | succ D =>
    have single : ∀ {u : Value}, us = [u] → v.cells = #[v] → isRowT P t = some false → ∃ x, RV ρ x v ∧ datV P H B (D + 1) t x := fun {u} e1 e2 e3 => by
      subst e1
      rw [e2] at hu
      cases hu with
      | cons r _ => exact ⟨u, .one (.one r), by unfold datV; rw [e3]; exact hd⟩
    have hd' := hd
    unfold dat at hd
    unfold okT at hok
    split at hok
    · rename_i ht
      rw [ht] at hd
      obtain ⟨b, hb⟩ := hd
      obtain ⟨_, rfl⟩ := WideShapes.okWide_bool ht hv
      exact single hb rfl (by simp [isRowT, ht])
    · rename_i k ht
      rw [ht] at hd
      obtain ⟨b, hb, _⟩ := hd
      obtain ⟨_, rfl⟩ := WideShapes.okWide_int ht hv
      exact single hb rfl (by simp [isRowT, ht])
    · rename_i ht
      rw [ht] at hd
      obtain ⟨b, hb, _⟩ := hd
      obtain ⟨_, rfl⟩ := WideShapes.okWide_string ht hv
      exact single hb rfl (by simp [isRowT, ht])
    · rename_i e ht
      rw [ht] at hd
      obtain ⟨_, _, _, rfl⟩ := WideShapes.okWide_slice ht hv
      rcases hd with hb | ⟨_, hb⟩ | ⟨_, _, _, hb, _⟩
      · exact single hb rfl (by simp [isRowT, ht])
      · exact single hb rfl (by simp [isRowT, ht])
      · exact single hb rfl (by simp [isRowT, ht])
    · rename_i fs ht
      obtain ⟨cs, rfl, _⟩ := WideShapes.okWide_struct ht hv
      have : All2 (RC ρ) us cs.toList := hu
      refine ⟨.agg us.toArray, .one ?_, by unfold datV; rw [show isRowT P t = some true by simp [isRowT, ht]]; exact ⟨us, rfl, hd'⟩⟩
      have h2 := RT.agg this
      simpa using h2
    · rename_i m e ht
      have hv' := hv
      simp only [Value.okWide, ht] at hv'
      obtain ⟨cs, rfl, _⟩ := hv'
      have : All2 (RC ρ) us cs.toList := hu
      refine ⟨.agg us.toArray, .one ?_, by unfold datV; rw [show isRowT P t = some true by simp [isRowT, ht]]; exact ⟨us, rfl, hd'⟩⟩
      have h2 := RT.agg this
      simpa using h2
    · cases hok
theorem args_open {B D : Nat} {base : Nat} : ∀ (ts : List TypeId) (vs : List Value) (ds : List (DataW HH)) (ps : List MemPlace), DataW.TrodAll enc P W 0 (fun _ => true) true ts vs ds ps → ts.all (okT P D) = true → (∀ (j : Nat) t d, ts[j]? = some t → ds[j]? = some d → (d.weights P t).all (· ≤ reachBytes) = true) → Rows.uptoBulkAll ds ≤ B →
    (∀ (j : Nat) t v, ts[j]? = some t → vs[j]? = some v → Value.okWide P W .any base t v) → ∀ ρ H, RH ρ H W W → Ro H → ∃ (ρ' : Rho) (H' : Hp) (xs : List Value), Ext ρ ρ' ∧ HExt H H' ∧ RH ρ' H' W W ∧ Ro H' ∧ All2 (RV ρ') xs vs ∧ datArgs P H' B D ts xs
  | [], [], [], _, _, _, _, _, _, ρ, H, h, hro => ⟨ρ, H, [], Ext.refl _, fun _ _ h => h, h, hro, .nil, trivial⟩
  | t :: ts, v :: vs, d :: ds, ps, hA, hok, hw, hB, hval, ρ, H, h, hro => by
    simp only [Rows.uptoBulkAll] at hB
    obtain ⟨p, q, ⟨fuel, h1⟩, h2, rfl⟩ := hA
    simp only [List.all_cons, Bool.and_eq_true] at hok
    obtain ⟨ρ1, H1, us, e1, x1, r1, o1, a1, d1⟩ := opens_of (B := B) D t fuel _ _ hok.1 h1 (hw 0 t d rfl rfl) (show Rows.uptoBulk d ≤ B by omega) ρ H h hro
    obtain ⟨x, hx, hd⟩ := datV_of hok.1 (hval 0 t v rfl rfl) a1 d1
    obtain ⟨ρ2, H2, xs, e2, x2, r2, o2, a2, d2⟩ := args_open ts vs ds q h2 hok.2 (fun j t d ht hd => hw (j + 1) t d (by simpa using ht) (by simpa using hd)) (show Rows.uptoBulkAll ds ≤ B by omega) (fun j t v ht hv => hval (j + 1) t v (by simpa using ht) (by simpa using hv)) ρ1 H1 r1 o1
    exact ⟨ρ2, H2, x :: xs, e1.trans e2, fun b k hk => x2 b k (x1 b k hk), r2, o2, .cons (hx.ext e2) a2, datV_ext x2 hd, d2⟩
  | [], _ :: _, _, _, hA, _, _, _, _, _, _, _, _ => by simp [DataW.TrodAll] at hA
  | [], [], _ :: _, _, hA, _, _, _, _, _, _, _, _ => by simp [DataW.TrodAll] at hA
  | _ :: _, [], _, _, hA, _, _, _, _, _, _, _, _ => by simp [DataW.TrodAll] at hA
  | _ :: _, _ :: _, [], _, hA, _, _, _, _, _, _, _, _ => by simp [DataW.TrodAll] at hA
theorem trodAll_below {W' : World} (hl : laidOutB P = true) (hb : Below W.heap.size W W') : ∀ (ts : List TypeId) (vs : List Value) (ds : List (DataW HH)) (ps : List MemPlace), DataW.TrodAll enc P W 0 (fun _ => true) true ts vs ds ps → ts.all (fun t => P.readableRec t && decide (t < P.types.size)) = true →
    DataW.TrodAll enc P W' 0 (fun b => decide (b < W.heap.size)) true ts vs ds ps
  | [], [], [], _, h, _ => h
  | t :: ts, v :: vs, d :: ds, ps, hA, hr => by
    obtain ⟨p, q, h1, h2, rfl⟩ := hA
    simp only [List.all_cons, Bool.and_eq_true, decide_eq_true_eq] at hr
    obtain ⟨⟨hr1, hr2⟩, hr3⟩ := hr
    exact ⟨p, q, Below.trod hl hr1 hr2 h1 hb (by obtain ⟨m, hm⟩ := h1; exact DataW.trod_lt m _ _ _ hm), trodAll_below hl hb ts vs ds q h2 (by simpa using hr3), rfl⟩
  | [], _ :: _, _, _, hA, _ => by simp [DataW.TrodAll] at hA
  | [], [], _ :: _, _, hA, _ => by simp [DataW.TrodAll] at hA
  | _ :: _, [], _, _, hA, _ => by simp [DataW.TrodAll] at hA
  | _ :: _, _ :: _, [], _, hA, _ => by simp [DataW.TrodAll] at hA
/-- No block yet. -/
theorem RH.start (W : World) : RH (fun _ => none) ⟨fun _ => none, 0⟩ W W :=
  ⟨Below.refl _ _, (fun b k h => by cases h), (fun b b' k k' l l' h => by cases h), (fun b _ => rfl), fun b l h => by cases h⟩
/-- THE LAW OF ROWS: what a law's call is, whatever it is handed. -/
theorem law_calls {f : FuncId} {ts : List TypeId} {B D base : Nat} {args : Array Value} {ds : List (DataW HH)} {ps : List MemPlace} (hA : DataW.TrodAll enc P W 0 (fun _ => true) true ts args.toList ds ps) (hok : ts.all (okT P D) = true)
    (hw : ∀ (j : Nat) t d, ts[j]? = some t → ds[j]? = some d → (d.weights P t).all (· ≤ reachBytes) = true) (hB : Rows.uptoBulkAll ds ≤ B) (hval : ∀ (j : Nat) t v, ts[j]? = some t → args[j]? = some v → Value.okWide P W .any base t v)
    (hl : laidOutB P = true) (hr : ts.all (fun t => P.readableRec t && decide (t < P.types.size)) = true)
    (law : ∀ (H : Hp) (xs : List Value), Ro H → datArgs P H B D ts xs → ACalls P f xs H fun v _ => v = .bool true) :
    Calls P f args W fun e W' => e = .returned (.bool true) ∧ Below W.heap.size W W' ∧ DataW.TrodAll enc P W' 0 (fun b => decide (b < W.heap.size)) true ts args.toList ds ps := by
  obtain ⟨ρ, H, xs, _, _, hR, hro, hx, hd⟩ := args_open (B := B) ts args.toList ds ps hA hok hw hB (fun j t v ht hv => hval j t v ht (by simpa using hv)) _ _ (RH.start W) (fun b k h => by cases h)
  have := law H xs hro hd ρ W W args.toList hx hR
  rw [Array.toArray_toList] at this
  refine this.mono fun e W' he => ?_
  cases e with
  | returned v =>
    obtain ⟨ρ', u, H', _, h2, h3, rfl⟩ := he
    have hv := rv_bool h2
    subst hv
    exact ⟨rfl, h3.below, trodAll_below hl h3.below ts _ ds ps hA hr⟩
  | panicked c => exact he.elim
  | outgrown => exact he.elim
end
end Go.Proofs.Ytloeadlmcdddnaa.Abs
