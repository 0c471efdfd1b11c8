/- An abstract machine for the program's text, part 15: functions. -/
import Derived.Test.YtloeadlmcdddnaaA14
set_option linter.unusedVariables false
namespace Go.Proofs.Ytloeadlmcdddnaa.Abs
open Go Go.RowKit
/-- A function's text, and where its results lie. -/
def cF (P : Program) (fn : Func) : Option (AC × List AR) :=
  match fn.body with
  | some c => match cC P fn.ntmps c, fn.results.toList.mapM (cR P fn.ntmps) with
    | some c, some rs => some (c, rs)
    | _, _ => none
  | none => none
theorem acalls {P : Program} {f : FuncId} {fn : Func} {c : AC} {rs : List AR} {xs : List Value} {H : Hp} {K : Value → Hp → Prop} (hf : P.funcs[f]? = some fn) (hc : cF P fn = some (c, rs)) (hx : xs.length ≤ fn.ntmps) (hs : AW P c (Fin rs K) (fun i => xs.getD i undef) H) : ACalls P f xs H K := by
  unfold cF at hc
  split at hc
  · rename_i c0 hb
    split at hc
    · rename_i c1 rs1 hc1 hr1
      injection hc with hc
      injection hc with h1 h2
      subst h1 h2
      exact acalls_of hf hb hc1 hr1 hx hs
    · cases hc
  · cases hc
end Go.Proofs.Ytloeadlmcdddnaa.Abs
