/- Cuts in an abstract text: what a part ends in may be told in other words. -/
import Derived.Test.YtloeadlmcdddnaaB1
set_option linter.unusedVariables false
set_option linter.unusedSimpArgs false
namespace Go.Proofs.Ytloeadlmcdddnaa.Abs
open Go Go.RowKit
section
variable {P : Program} {t : Tm} {H : Hp}
/-- A part, told by what holds behind it. -/
theorem AW_cut {x y : AC} {Q : Exit → Tm → Hp → Prop} (I : Tm → Hp → Prop) (h1 : AW P x (xThen I Q) t H) (h2 : ∀ t H, I t H → AW P y Q t H) : AW P (.seq x y) Q t H := AW_mono (c := x) (xThen_mono h2 fun _ _ _ h => h) h1
theorem AWl_cut {os : List AO} {K : Tm → Hp → Prop} (I : Tm → Hp → Prop) (h1 : AWl P os I t H) (h2 : ∀ t H, I t H → K t H) : AWl P os K t H := AWl_mono h2 h1
theorem AWp_cut {p : AP} {K : Tm → Hp → Prop} (I : Tm → Hp → Prop) (h1 : AWp P p I t H) (h2 : ∀ t H, I t H → K t H) : AWp P p K t H := AWp_mono h2 h1
end
end Go.Proofs.Ytloeadlmcdddnaa.Abs
