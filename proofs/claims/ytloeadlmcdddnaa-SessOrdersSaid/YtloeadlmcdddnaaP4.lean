/- Further steps: a number as one of another kind. -/
import Derived.Test.YtloeadlmcdddnaaP3
set_option linter.unusedVariables false
set_option linter.unusedSimpArgs false
namespace Go.Proofs.Ytloeadlmcdddnaa.Abs
open Go Go.RowKit
section
variable {P : Program} {R : Tm → Hp → Prop} {t : Tm} {H : Hp} {d : Option Nat} {x : Opd}
theorem aConvV {k k' : IntKind} {n n' : Int} (hx : ev t x = .int k n) (h : k'.wrap n = n') (kk : R (upd t d (.int k' n')) H) : aStep P ⟨d, .conv k' x, none⟩ R t H := by
  refine ⟨.int k' n', H, ?_, kk⟩
  simp only [aI, hx, h]
end
end Go.Proofs.Ytloeadlmcdddnaa.Abs
