/- An abstract machine for the program's text, part 11: texts, what they do, and that the machine does it. -/
import Derived.Test.YtloeadlmcdddnaaA10
import Derived.Orders
set_option linter.unusedVariables false
set_option linter.unusedSimpArgs false
namespace Go.Proofs.Ytloeadlmcdddnaa.Abs
open Go Go.RowKit
structure AO where
  dst : Option Nat
  i : AI
  g : Option (Nat × Bool)
/-- A region whose order is drawn: quiet operations as early as can be, and each order of the others; 'checks': what was read, and may be read behind the operation, too. -/
inductive AP where
  | done
  | stop
  | quiet (o : AO) (rest : AP)
  | br (o : AO) (checks : List AO) (rest more : AP)
inductive AC where
  | skip
  | ret
  | exit (id : Nat)
  | list (os : List AO)
  | plan (p : AP)
  | seq (x y : AC)
  | cond (c : Opd) (x y : AC)
  | block (id : Nat) (x : AC)
  | loop (x : AC)
abbrev Tm := Nat → Value
def upd (t : Tm) (d : Option Nat) (v : Value) : Tm :=
  match d with
  | none => t
  | some d => fun i => if i = d then v else t i
/-- A call of a function: whatever the blocks' places, it returns, and as told. -/
def ACalls (P : Program) (f : FuncId) (xs : List Value) (H : Hp) (K : Value → Hp → Prop) : Prop :=
  ∀ ρ w0 w ys, All2 (RV ρ) xs ys → RH ρ H w0 w → Calls P f ys.toArray w fun
    | .returned v', w' => ∃ ρ' v H', Ext ρ ρ' ∧ RV ρ' v v' ∧ RH ρ' H' w0 w' ∧ K v H'
    | _, _ => False
def aRun (P : Program) (i : AI) (g : Opd → Value) (H : Hp) (K : Value → Hp → Prop) : Prop :=
  match i with
  | .call f xs => ACalls P f (xs.map g) H K
  | i => ∃ v H', aI i g H = some (v, H') ∧ K v H'
/-- What a guard's temporary tells: a truth, or nothing (what sets it was not wanted). -/
inductive Gd : Value → Option Bool → Prop
  | bool (b : Bool) : Gd (.bool b) (some b)
  | none : Gd undef none
def aStep (P : Program) (o : AO) (K : Tm → Hp → Prop) (t : Tm) (H : Hp) : Prop :=
  match o.g with
  | none => aRun P o.i (ev t) H fun v H' => K (upd t o.dst v) H'
  | some (g, want) => ∃ b, Gd (t g) b ∧ if b = some want then aRun P o.i (ev t) H fun v H' => K (upd t o.dst v) H' else K (upd t o.dst undef) H
/-- What was read would be read again. -/
def aHeld (o : AO) (t : Tm) (H : Hp) : Prop :=
  match o.dst with
  | none => False
  | some d => match o.g with
    | none => aI o.i (ev t) H = some (t d, H)
    | some (g, want) => ∃ b, Gd (t g) b ∧ if b = some want then aI o.i (ev t) H = some (t d, H) else t d = undef
def heldAll (cs : List AO) (t : Tm) (H : Hp) : Prop :=
  match cs with
  | [] => True
  | c :: cs => aHeld c t H ∧ heldAll cs t H
def AWl (P : Program) (os : List AO) (K : Tm → Hp → Prop) (t : Tm) (H : Hp) : Prop :=
  match os with
  | [] => K t H
  | o :: os => aStep P o (AWl P os K) t H
def AWp (P : Program) (p : AP) (K : Tm → Hp → Prop) (t : Tm) (H : Hp) : Prop :=
  match p with
  | .done => K t H
  | .stop => True
  | .quiet o rest => aStep P o (AWp P rest K) t H
  | .br o cs rest more => aStep P o (fun t' H' => heldAll cs t' H' ∧ AWp P rest K t' H') t H ∧ AWp P more K t H
def xThen (next : Tm → Hp → Prop) (Q : Exit → Tm → Hp → Prop) : Exit → Tm → Hp → Prop
  | .normal, t, H => next t H
  | e, t, H => Q e t H
def xBlock (id : Nat) (Q : Exit → Tm → Hp → Prop) : Exit → Tm → Hp → Prop
  | .exit id', t, H => if id' = id then Q .normal t H else Q (.exit id') t H
  | e, t, H => Q e t H
def AW (P : Program) (c : AC) (Q : Exit → Tm → Hp → Prop) (t : Tm) (H : Hp) : Prop :=
  match c with
  | .skip => Q .normal t H
  | .ret => Q .ret t H
  | .exit id => Q (.exit id) t H
  | .list os => AWl P os (Q .normal) t H
  | .plan p => AWp P p (Q .normal) t H
  | .seq x y => AW P x (xThen (AW P y Q) Q) t H
  | .cond c x y => ∃ b, ev t c = .bool b ∧ if b = true then AW P x Q t H else AW P y Q t H
  | .block id x => AW P x (xBlock id Q) t H
  | .loop x => ∃ (I : Tm → Hp → Prop) (μ : Tm → Hp → Nat), I t H ∧ ∀ t H, I t H → AW P x (xThen (fun t' H' => I t' H' ∧ μ t' H' < μ t H) Q) t H

def cOp (P : Program) (n : Nat) (ops : Array Oper) (o : Oper) : Option AO :=
  match cI P n o with
  | some i =>
    if (o.dst.all fun d => decide (d < n)) = true then
      match o.guard with
      | none => some ⟨o.dst, i, none⟩
      | some (j, want) => match (ops[j]?).bind (·.dst) with
        | some g => if g < n then some ⟨o.dst, i, some (g, want)⟩ else none
        | none => none
    else none
  | none => none
section
variable {P : Program} {o : Oper} {a : Act} {n : Nat} {t : Nat → Value} {w w0 : World} {ρ : Rho} {H : Hp}
theorem RG.ext {ρ' : Rho} (h : RG ρ n t a) (he : Ext ρ ρ') : RG ρ' n t a := ⟨h.size, fun i hi => (h.val i hi).ext he⟩
theorem RG.put {d : Option Nat} {v v' : Value} (h : RG ρ n t a) (hd : ∀ x, d = some x → x < n) (hv : RV ρ v v') : RG ρ n (upd t d v) (a.put d v') := by
  cases d with
  | none => exact h
  | some d =>
    have hdn := hd d rfl
    refine ⟨by simpa [Act.put] using h.size, fun i hi => ?_⟩
    simp only [upd, Act.put]
    by_cases e : i = d
    · subst e
      rw [if_pos rfl, Array.getD_eq_getD_getElem?, Array.getElem?_setIfInBounds_self_of_lt (by rw [h.size]; exact hi)]
      exact hv
    · rw [if_neg e, Array.getD_eq_getD_getElem?, Array.getElem?_setIfInBounds_ne (Ne.symm e), ← Array.getD_eq_getD_getElem?]
      exact h.val i hi
theorem put_defers {d : Option Nat} {v : Value} : (a.put d v).defers = a.defers := by cases d <;> rfl
/-- What an operation may come to. -/
def Outcome (P : Program) (ops : Array Oper) (o : Oper) (a : Act) (w : World) (F : Value → World → Prop) : Prop :=
  (Region.wanted o (yielded ops a.tmps) = true ∧ ((∃ v' w', ((execOp a.eval o).run P w = .ok (.value v') w' ∨ ((execOp a.eval o).run P w = .ok .skip w' ∧ v' = undef)) ∧ F v' w') ∨
    ∃ f args, (execOp a.eval o).run P w = .ok (.enter f args) w ∧ Calls P f args w fun | .returned v', w' => F v' w' | _, _ => False)) ∨
  (Region.wanted o (yielded ops a.tmps) = false ∧ F undef w)
theorem mapM_rel {xs : List Operand} {xs' : List Opd} (h : xs.mapM (cO n) = some xs') (hg : RG ρ n t a) : All2 (RV ρ) (xs'.map (ev t)) (xs.map a.eval) := by
  induction xs generalizing xs' with
  | nil => simp at h; subst h; exact .nil
  | cons x xs ih =>
    simp only [List.mapM_cons, Option.bind_eq_bind, Option.pure_def, Option.bind_eq_some_iff] at h
    obtain ⟨y, hy, ys, hys, he⟩ := h
    injection he with he
    subst he
    exact .cons (ev_rel hg hy) (ih hys)
theorem cB_call {b : Builtin} {ys : List Operand} {Ts : List TypeId} {f : FuncId} {xs : List Opd} (hi : cBuiltin P n b ys Ts = some (.call f xs)) : False := by
  unfold cBuiltin at hi
  revert hi
  repeat' split
  all_goals simp [Option.bind_eq_some_iff, Option.map_eq_some_iff]
theorem cI_call {f : FuncId} {xs : List Opd} (hi : cI P n o = some (.call f xs)) : ∃ c, o.op = .call c ∧ c.callee = .value (.func f) ∧ callable P f = true ∧ c.args.toList.mapM (cO n) = some xs := by
  unfold cI at hi
  split at hi
  case h_20 c ho =>
    split at hi
    · exact (cB_call hi).elim
    · rename_i g hb
      split at hi
      · rename_i hc
        obtain ⟨ys, hy, he⟩ := Option.map_eq_some_iff.1 hi
        injection he with h1 h2
        subst h1 h2
        exact ⟨c, ho, hb, hc, hy⟩
      · cases hi
    · cases hi
  all_goals
    exfalso
    revert hi
    repeat' split
    all_goals simp [Option.bind_eq_some_iff, Option.map_eq_some_iff]
theorem run_ok {i : AI} {K : Value → Hp → Prop} (hi : cI P n o = some i) (hr : aRun P i (ev t) H K) (hg : RG ρ n t a) (h : RH ρ H w0 w) :
    (∃ v' w', ((execOp a.eval o).run P w = .ok (.value v') w' ∨ ((execOp a.eval o).run P w = .ok .skip w' ∧ v' = undef)) ∧ ∃ ρ' v H', Ext ρ ρ' ∧ RV ρ' v v' ∧ RH ρ' H' w0 w' ∧ K v H') ∨
    ∃ f args, (execOp a.eval o).run P w = .ok (.enter f args) w ∧ Calls P f args w fun | .returned v', w' => (∃ ρ' v H', Ext ρ ρ' ∧ RV ρ' v v' ∧ RH ρ' H' w0 w' ∧ K v H') | _, _ => False := by
  by_cases hc : ∃ f xs, i = .call f xs
  · obtain ⟨f, xs, rfl⟩ := hc
    right
    obtain ⟨c, ho, hb, hcl, hm⟩ := cI_call hi
    have hr' : ACalls P f (xs.map (ev t)) H K := hr
    have := hr' ρ w0 w _ (mapM_rel hm hg) h
    refine ⟨f, (c.args.toList.map a.eval).toArray, ?_, this⟩
    have e1 : (c.args.toList.map a.eval).toArray = c.args.map a.eval := by
      apply Array.ext'
      simp
    rw [e1]
    unfold callable at hcl
    split at hcl
    · rename_i fn hfn
      simp only [Bool.and_eq_true, Bool.not_eq_true', beq_eq_false_iff_ne, ne_eq] at hcl
      obtain ⟨h1, h2⟩ := hcl
      have h3 : fn.body.isNone = false := by cases hfb : fn.body <;> simp_all
      simp [execOp, ho, resolve, hb, Act.eval, Deferred.ofValue, invoke, callFunc, hfn, h1, h3]
      intro hn
      rw [hn] at h2
      cases h2
    · cases hcl
  · left
    have hr' : ∃ v H', aI i (ev t) H = some (v, H') ∧ K v H' := by
      unfold aRun at hr
      split at hr
      · exact absurd ⟨_, _, rfl⟩ hc
      · exact hr
    obtain ⟨v, H', hv, hk⟩ := hr'
    obtain ⟨ρ', v', w', h1, h2, h3, h4⟩ := (cI_ok hi hv hg h).1
    exact ⟨v', w', h1, ρ', v, H', h2, h3, h4, hk⟩
theorem cOp_spec {ops : Array Oper} {o' : AO} (hc : cOp P n ops o = some o') : cI P n o = some o'.i ∧ o'.dst = o.dst ∧ (∀ x, o.dst = some x → x < n) ∧
    ((o.guard = none ∧ o'.g = none) ∨ ∃ j want g, o.guard = some (j, want) ∧ (ops[j]?).bind (·.dst) = some g ∧ g < n ∧ o'.g = some (g, want)) := by
  unfold cOp at hc
  split at hc
  · rename_i i hi
    split at hc
    · rename_i hd
      have hd' : ∀ x, o.dst = some x → x < n := fun x hx => by
        rw [hx] at hd
        simpa using hd
      split at hc
      · rename_i hg
        injection hc with hc
        subst hc
        exact ⟨hi, rfl, hd', .inl ⟨hg, rfl⟩⟩
      · rename_i j want hg
        split at hc
        · rename_i g hgj
          split at hc
          · rename_i hlt
            injection hc with hc
            subst hc
            exact ⟨hi, rfl, hd', .inr ⟨j, want, g, hg, hgj, hlt, rfl⟩⟩
          · cases hc
        · cases hc
    · cases hc
  · cases hc
theorem wanted_of {ops : Array Oper} {o' : AO} (hc : cOp P n ops o = some o') (hg : RG ρ n t a) : (o'.g = none → Region.wanted o (yielded ops a.tmps) = true) ∧ ∀ g want b, o'.g = some (g, want) → Gd (t g) b → Region.wanted o (yielded ops a.tmps) = (b == some want) := by
  obtain ⟨_, _, _, hgd⟩ := cOp_spec hc
  rcases hgd with ⟨h1, h2⟩ | ⟨j, want, g, h1, h2, h3, h4⟩
  · refine ⟨fun _ => by simp [Region.wanted, h1], fun g want b h => ?_⟩
    rw [h2] at h
    cases h
  · refine ⟨fun h => (by rw [h4] at h; cases h), fun g' want' b h hb => ?_⟩
    rw [h4] at h
    injection h with h
    injection h with e1 e2
    subst e1 e2
    have hv := hg.val g h3
    have hsz : g < a.tmps.size := by rw [hg.size]; exact h3
    have hget : a.tmps[g]? = some (a.tmps.getD g undef) := by
      rw [Array.getD_eq_getD_getElem?, Array.getElem?_eq_getElem hsz]
      rfl
    generalize ht : t g = tv at hb hv
    cases hb with
    | bool b =>
      have hv := rv_bool hv
      rw [hv] at hget
      simp only [Region.wanted, h1, yielded, h2, Option.bind_some, hget]
    | none =>
      have hu : ∃ ys, a.tmps.getD g undef = .tuple ys := by
        generalize a.tmps.getD g undef = y at hv
        unfold undef at hv
        generalize hz : (Value.tuple #[]) = z at hv
        cases hv with
        | one r => cases r with
          | one r => subst hz; cases r
          | agg r => cases hz
        | tuple r => exact ⟨_, rfl⟩
      obtain ⟨ys, hu⟩ := hu
      rw [hu] at hget
      simp only [Region.wanted, h1, yielded, h2, Option.bind_some, hget]
theorem step_out {ops : Array Oper} {o' : AO} {K : Tm → Hp → Prop} (hc : cOp P n ops o = some o') (hs : aStep P o' K t H) (hg : RG ρ n t a) (h : RH ρ H w0 w) :
    Outcome P ops o a w fun v' w' => ∃ ρ' v H', Ext ρ ρ' ∧ RV ρ' v v' ∧ RH ρ' H' w0 w' ∧ K (upd t o.dst v) H' := by
  obtain ⟨hi, hd, _, _⟩ := cOp_spec hc
  obtain ⟨w1, w2⟩ := wanted_of hc hg
  unfold aStep at hs
  rw [hd] at hs
  split at hs
  · rename_i hgn
    exact .inl ⟨w1 hgn, run_ok hi hs hg h⟩
  · rename_i g want hgs
    obtain ⟨b, hb, hs⟩ := hs
    split at hs
    · rename_i hbw
      subst hbw
      exact .inl ⟨by rw [w2 g _ _ hgs hb]; simp, run_ok hi hs hg h⟩
    · rename_i hbw
      exact .inr ⟨by rw [w2 g want b hgs hb]; simpa using hbw, ρ, undef, H, Ext.refl _, rv_undef _, h, hs⟩
/-- The outcome, for the machine's walk. -/
theorem Outcome.wp {ops : Array Oper} {F : Value → World → Prop} {K' : Act → World → Prop} {Q : Exit → Act → World → Prop} (ho : Outcome P ops o a w F) (hK : ∀ v w', F v w' → K' (a.put o.dst v) w') :
    if Region.wanted o (yielded ops a.tmps) then o.wp P a w K' Q ∨ (o.asks P a w ∧ LetsOut Q) else K' (a.put o.dst undef) w := by
  rcases ho with ⟨hw, ho⟩ | ⟨hw, hf⟩
  · rw [if_pos hw]
    left
    unfold Oper.wp
    rcases ho with ⟨v', w', hr, hf⟩ | ⟨f, args, hr, hf⟩
    · rcases hr with hr | ⟨hr, rfl⟩
      · rw [hr]; exact hK _ _ hf
      · rw [hr]; exact hK _ _ hf
    · rw [hr]
      refine Calls.mono hf fun e w' he => ?_
      cases e with
      | returned v => exact hK _ _ he
      | panicked c => exact he.elim
      | outgrown => exact he.elim
  · rw [if_neg (by simp [hw])]
    exact hK _ _ hf
/-- A region whose order is its list's. -/
theorem list_ok {ops : Array Oper} {Q : Exit → Act → World → Prop} {K : Tm → Hp → Prop} : ∀ (l : List Oper) (l' : List AO) (t : Tm) (a : Act) (w : World) (ρ : Rho) (H : Hp), l.mapM (cOp P n ops) = some l' → AWl P l' K t H → RG ρ n t a → RH ρ H w0 w →
    (∀ ρ' t' H' a' w', Ext ρ ρ' → RG ρ' n t' a' → a'.defers = a.defers → RH ρ' H' w0 w' → K t' H' → Q .normal a' w') → wpList P ops Q l a w
  | [], l', t, a, w, ρ, H, hm, hs, hg, h, hQ => by
    simp at hm
    subst hm
    exact hQ ρ t H a w (Ext.refl _) hg rfl h hs
  | o :: l, l', t, a, w, ρ, H, hm, hs, hg, h, hQ => by
    simp only [List.mapM_cons, Option.bind_eq_bind, Option.pure_def, Option.bind_eq_some_iff] at hm
    obtain ⟨o', ho', ls, hls, he⟩ := hm
    injection he with he
    subst he
    have hd := (cOp_spec ho').2.2.1
    refine (step_out ho' hs hg h).wp fun v w' hf => ?_
    obtain ⟨ρ', u, H', e1, e2, e3, e4⟩ := hf
    exact list_ok l ls _ _ _ ρ' H' hls e4 ((hg.ext e1).put hd e2) e3 fun ρ2 t2 H2 a2 w2 x1 x2 x3 x4 x5 => hQ ρ2 t2 H2 a2 w2 (e1.trans x1) x2 (x3.trans put_defers) x4 x5
end
end Go.Proofs.Ytloeadlmcdddnaa.Abs
