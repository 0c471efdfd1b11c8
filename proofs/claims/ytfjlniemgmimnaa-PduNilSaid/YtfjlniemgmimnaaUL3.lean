/- PduNil: the law. -/
import Derived.Test.YtfjlniemgmimnaaU11
import Derived.Test.YtfjlniemgmimnaaUL1
set_option linter.unusedVariables false
set_option linter.unusedSimpArgs false
namespace Go.Proofs.Ytfjlniemgmimnaa.Abs
open Go Go.RowKit
theorem pduNil_law {H : Hp} {B : Nat} {xs : List Value} (hro : Ro H) (hd : datArgs Try.prog H B 8 [24] xs) : ACalls Try.prog 7 xs H fun v _ => v = .bool true := by
  match xs, hd with
  | [x0], ⟨d0, _⟩ => exact nil_call
end Go.Proofs.Ytfjlniemgmimnaa.Abs
