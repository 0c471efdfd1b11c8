/- An abstract machine for the program's text, part 15: functions. -/
import Derived.Test.YtfjlniemgmimnaaA14
set_option linter.unusedVariables false
namespace Go.Proofs.Ytfjlniemgmimnaa.Abs
open Go Go.RowKit
/-- A function's text, and where its results lie. -/
def cF (P : Program) (fn : Func) : Option (AC × List AR) :=
  match fn.body with
  | some c => match cC P fn.ntmps c, fn.results.toList.mapM (cR P fn.ntmps) with
    | some c, some rs => some (c, rs)
    | _, _ => none
  | none => none
theorem acalls {P : Program} {f : FuncId} {fn : Func} {c : AC} {rs : List AR} {xs : List Value} {H : Hp} {K : Value → Hp → Prop} (hf : P.funcs[f]? = some fn) (hc : cF P fn = some (c, rs)) (hx : xs.length ≤ fn.ntmps) (hs : AW P c (Fin rs K) (fun i => xs.getD i undef) H) : ACalls P f xs H K := by
  unfold cF at hc
  split at hc
  · rename_i c0 hb
    split at hc
    · rename_i c1 rs1 hc1 hr1
      injection hc with hc
      injection hc with h1 h2
      subst h1 h2
      exact acalls_of hf hb hc1 hr1 hx hs
    · cases hc
  · cases hc
theorem ACalls.mono {P : Program} {f : FuncId} {xs : List Value} {H : Hp} {K K' : Value → Hp → Prop} (h : ACalls P f xs H K) (hk : ∀ v H, K v H → K' v H) : ACalls P f xs H K' := by
  intro ρ w0 w ys h1 h2
  refine (h ρ w0 w ys h1 h2).mono fun e w' he => ?_
  cases e with
  | returned v =>
    obtain ⟨ρ', u, H', e1, e2, e3, e4⟩ := he
    exact ⟨ρ', u, H', e1, e2, e3, hk _ _ e4⟩
  | panicked c => exact he
  | outgrown => exact he
end Go.Proofs.Ytfjlniemgmimnaa.Abs
