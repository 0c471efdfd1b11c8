/- An abstract machine for the program's text, part 4: operators of two values. -/
import Derived.Test.YtloeadlmcdddnaaA3
import Derived.Laws.StructEq
import Derived.Laws.Cover3
import Derived.Laws.Small
set_option linter.unusedVariables false
set_option linter.unusedSimpArgs false
namespace Go.Proofs.Ytloeadlmcdddnaa.Abs
open Go Go.RowKit
section
variable {P : Program} {o : Oper} {a : Act} {n : Nat} {t : Nat → Value} {w w0 : World} {ρ : Rho} {H : Hp}
theorem underlying_of_tk {T : TypeId} : (tkOf (P.underlying T) = 1 → P.underlying T = some .bool) ∧ (tkOf (P.underlying T) = 2 → P.underlying T = some .string) ∧ (tkOf (P.underlying T) = 3 → ∃ e, P.underlying T = some (.pointer e)) ∧ (tkOf (P.underlying T) = 4 → ∃ e, P.underlying T = some (.slice e)) ∧ (tkOf (P.underlying T) = 5 → ∃ k, P.underlying T = some (.int k)) := by
  unfold tkOf
  split <;> simp_all
theorem eq_bool {T : TypeId} (h : P.underlying T = some .bool) (x y : Bool) (w : World) : (Op.equal T (.bool x) (.bool y)).run P w = .ok (x == y) w := run_equal_bool w T x y h
theorem eq_ptr_nil {T e : TypeId} (h : P.underlying T = some (.pointer e)) (q : Option Addr) (w : World) : (Op.equal T (.pointer none) (.pointer q)).run P w = .ok q.isNone w := by
  show (Op.equalIn (9999 + 1) T _ _).run P w = _
  generalize 9999 = d
  cases q <;> simp [Op.equalIn, run_underlying h]
theorem eq_nil_ptr {T e : TypeId} (h : P.underlying T = some (.pointer e)) (q : Addr) (w : World) : (Op.equal T (.pointer (some q)) (.pointer none)).run P w = .ok false w := by
  show (Op.equalIn (9999 + 1) T _ _).run P w = _
  generalize 9999 = d
  simp [Op.equalIn, run_underlying h]
theorem run_aEq {op : BinOp} {T : TypeId} {u v : Value} {b : Bool} {r : Value} (hr : aEq op b = some r) (hu : ∀ w, (Op.equal T u v).run P w = .ok b w)
    (he : op = .eql ∨ op = .neq → ∀ w, (binOp op T u v).run P w = if op = .eql then ((Op.equal T u v).run P w).andThen fun b w => .ok (.bool b) w else ((Op.equal T u v).run P w).andThen fun b w => .ok (.bool !b) w) (w : World) : (binOp op T u v).run P w = .ok r w := by
  cases op <;> simp [aEq] at hr
  · subst hr
    rw [he (.inl rfl), hu]
    simp
  · subst hr
    rw [he (.inr rfl), hu]
    simp
theorem run_aBin {tk : Nat} {op : BinOp} {T : TypeId} {u v u' v' r : Value} (hr : aBin tk op u v = some r) (ht : tkOf (P.underlying T) = tk) (hu : RV ρ u u') (hv : RV ρ v v') (w : World) :
    (binOp op T u' v').run P w = .ok r w ∧ ((∃ k n, u' = .int k n) ∨ (∃ b, u' = .bool b) ∨ (∃ s, u' = .string s) ∨ (∃ p, u' = .pointer p) ∨ (∃ p n c, u' = .slice p n c)) ∧ ∃ z, r = z ∧ RV ρ r z := by
  have fin : ∀ {r}, aBin tk op u v = some r → RV ρ r r := by
    intro r hr
    unfold aBin at hr
    split at hr
    · split at hr
      · unfold aShift at hr
        split at hr
        · cases hr
        · split at hr
          · injection hr with hr; subst hr; exact .one (.one (.int _ _))
          · injection hr with hr; subst hr; exact .one (.one (.int _ _))
          · cases hr
      · split at hr
        · cases op <;> simp [aInt] at hr <;> first
            | (subst hr; first | exact .one (.one (.int _ _)) | exact .one (.one (.bool _)))
            | (obtain ⟨_, hr⟩ := hr; subst hr; exact .one (.one (.int _ _)))
        · cases hr
    · split at hr
      · cases op <;> simp [aEq] at hr <;> (subst hr; exact .one (.one (.bool _)))
      · cases hr
    · cases op <;> simp [aStr] at hr <;> first
        | (subst hr; exact .one (.one (.bool _)))
        | (obtain ⟨_, hr⟩ := hr; subst hr; exact .one (.one (.string _)))
    · split at hr
      · cases op <;> simp [aEq] at hr <;> (subst hr; exact .one (.one (.bool _)))
      · cases hr
    · split at hr
      · cases op <;> simp [aEq] at hr <;> (subst hr; exact .one (.one (.bool _)))
      · cases hr
    · split at hr
      · cases op <;> simp [aEq] at hr <;> (subst hr; exact .one (.one (.bool _)))
      · cases hr
    · cases hr
  refine ⟨?_, ?_, r, rfl, fin hr⟩
  · unfold aBin at hr
    split at hr
    · have h1 := rv_int hu
      have h2 := rv_int hv
      subst h1 h2
      split at hr
      · rename_i hs
        refine run_aShift (by cases op <;> simp_all [isShift]) hr w
      · rename_i hs
        split at hr
        · rename_i hk
          subst hk
          exact run_aInt (by cases op <;> simp_all [isShift]) hr w
        · cases hr
    · have h1 := rv_bool hu
      have h2 := rv_bool hv
      subst h1 h2
      split at hr
      · rename_i hk
        subst ht
        have := (underlying_of_tk (P := P) (T := T)).1 hk
        exact run_aEq hr (eq_bool this _ _) (fun ho w => by rcases ho with rfl | rfl <;> simp [binOp]) w
      · cases hr
    · have h1 := rv_string hu
      have h2 := rv_string hv
      subst h1 h2
      exact run_aStr hr w
    · have h1 := rv_ptr_none hu
      subst h1
      split at hr
      · rename_i q hk
        subst ht
        obtain ⟨e, this⟩ := (underlying_of_tk (P := P) (T := T)).2.2.1 hk
        cases q with
        | none =>
          have h2 := rv_ptr_none hv
          subst h2
          exact run_aEq hr (eq_ptr_nil this _) (fun ho w => by rcases ho with rfl | rfl <;> simp [binOp]) w
        | some q =>
          obtain ⟨q', h2⟩ := rv_ptr_some hv
          subst h2
          exact run_aEq (b := false) hr (fun w => eq_ptr_nil this _ w) (fun ho w => by rcases ho with rfl | rfl <;> simp [binOp]) w
      · cases hr
    · obtain ⟨q', h1⟩ := rv_ptr_some hu
      have h2 := rv_ptr_none hv
      subst h1 h2
      split at hr
      · rename_i hk
        subst ht
        obtain ⟨e, this⟩ := (underlying_of_tk (P := P) (T := T)).2.2.1 hk
        exact run_aEq hr (eq_nil_ptr this _) (fun ho w => by rcases ho with rfl | rfl <;> simp [binOp]) w
      · cases hr
    · rename_i a n c
      obtain ⟨h2, _, _⟩ := rv_nil hv
      subst h2
      split at hr
      · rename_i hk
        subst ht
        obtain ⟨e, this⟩ := (underlying_of_tk (P := P) (T := T)).2.2.2.1 hk
        cases a with
        | none =>
          obtain ⟨h1, _, _⟩ := rv_nil hu
          subst h1
          exact run_aEq hr (fun w => run_equal_slice_nil w T e _ _ _ this) (fun ho w => by rcases ho with rfl | rfl <;> simp [binOp]) w
        | some a =>
          obtain ⟨a', c', h1⟩ := rv_slice_some hu
          subst h1
          exact run_aEq (b := false) hr (fun w => run_equal_slice_nil w T e (some a') _ _ this) (fun ho w => by rcases ho with rfl | rfl <;> simp [binOp]) w
      · cases hr
    · cases hr
  · unfold aBin at hr
    split at hr
    · exact .inl ⟨_, _, rv_int hu⟩
    · exact .inr (.inl ⟨_, rv_bool hu⟩)
    · exact .inr (.inr (.inl ⟨_, rv_string hu⟩))
    · exact .inr (.inr (.inr (.inl ⟨_, rv_ptr_none hu⟩)))
    · obtain ⟨q', h1⟩ := rv_ptr_some hu
      exact .inr (.inr (.inr (.inl ⟨_, h1⟩)))
    · rename_i a n c
      cases a with
      | none => exact .inr (.inr (.inr (.inr ⟨_, _, _, (rv_nil hu).1⟩)))
      | some a =>
        obtain ⟨a', c', h1⟩ := rv_slice_some hu
        exact .inr (.inr (.inr (.inr ⟨_, _, _, h1⟩)))
    · cases hr
theorem ok_bin {op : BinOp} {T yT : TypeId} {x y : Operand} {x' y' : Opd} {r : Value} (ho : o.op = .binOp op T x y yT) (hx : cO n x = some x') (hy : cO n y = some y') (hr : aBin (tkOf (P.underlying T)) op (ev t x') (ev t y') = some r) (hg : RG ρ n t a) (h : RH ρ H w0 w) : Ok0 P o a w ρ r := by
  have hu := ev_rel hg hx
  have hv := ev_rel hg hy
  obtain ⟨h1, h2, z, rfl, h3⟩ := run_aBin hr rfl hu hv w
  refine Ok.still h (v' := r) ?_ h3
  have hq : (eqGuard op T x y (a.eval x) (a.eval y)).run P w = .ok () w := by
    unfold eqGuard
    rcases h2 with ⟨_, _, h2⟩ | ⟨_, h2⟩ | ⟨_, h2⟩ | ⟨_, h2⟩ | ⟨_, _, _, h2⟩ <;> rw [h2] <;> cases op <;> simp
  simp only [execOp, ho, Sem.run_bind, hq, Result.andThen_ok, h1]
  rfl
end
end Go.Proofs.Ytloeadlmcdddnaa.Abs
