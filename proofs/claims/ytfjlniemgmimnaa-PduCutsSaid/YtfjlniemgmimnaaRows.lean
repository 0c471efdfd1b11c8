/-
  No cell of these rows narrows 'for every input' (looked for: loops, veiled, ifaces, maps, wideKeys, modest, calm, conditions, laid).
  DERIVED. THE GIVEN ROWS OF THIS SEAT. 6 by the template 'for every input the law returns true; each argument reads behind the call as it read before'; 0 by the template 'total and deterministic' (their statements: YtfjlniemgmimnaaTotals.lean).
  GIVEN WITH THE SEED: the statements are not yours to turn. If you find one false, say at which input.
  Laid BY PROGRAM, IN A SANDBOX (cutbox-rows.mjs): the forced cells as the released guide's own fill.sh prints them over the translation 0e1deb13ecc41c96… (all of the seat's roots in one cut). By AI agents, Wed Nov 11 2026. No macro, syntax, notation, axiom, sorry.
-/
import Derived.Test.YtfjlniemgmimnaaChecked
import GoSem.Claim
import GoSem.ClaimJoined
import GoSem.ClaimMapViews
import Derived.JoinedTies
import Derived.KernelRfl
namespace Go.Proofs.Ytfjlniemgmimnaa
/- THE CELL 'sum', in the pinned program and in every row, IS THE sha256 OF THE DUMP (.gsa) THAT YtfjlniemgmimnaaProg.lean LOADS. Nothing in Lean hashes anything: it is a label: what it is worth is what the hold of that sum in a sandbox is worth. -/
noncomputable def Try.pinned : Pinned := { name := "ytfjlniemgmimnaa", sum := "0e1deb13ecc41c962f4940d42dcdc5bca56e97510419a291ee536b7a53022411", checked := Try.checked }
namespace Rows
def none {H : Type} : Left H := { results := [], args := [] }

/-- 'palletlaw17.PduBytes': WHATEVER THE INPUT: true; the input reads as it did. -/
def pduBytesSpec : ChangeSpec := { name := "pduBytes", fn := fun _ => fun
  | [d1, d2, d3] => { results := [.lit (.bool true)], args := [d1, d2, d3] }
  | _ => none }
def pduBytesRow : OpenClaim := { program := "ytfjlniemgmimnaa", sum := "0e1deb13ecc41c962f4940d42dcdc5bca56e97510419a291ee536b7a53022411", func := "pallet/palletlaw17.PduBytes", spec := "pduBytes", apart := false }
def PduBytesSaid : Prop := pduBytesRow.holds Try.pinned (OpenSpec.ofChange pduBytesSpec)

/-- ITS FALSE NEIGHBOUR: 'it returns false'. Refute it at one input. -/
def pduBytesWrong : ChangeSpec := { name := "pduBytes", fn := fun _ => fun
  | [d1, d2, d3] => { results := [.lit (.bool false)], args := [d1, d2, d3] }
  | _ => none }
def PduBytesWrongFalsely : Prop := pduBytesRow.holds Try.pinned (OpenSpec.ofChange pduBytesWrong)

/-- 'palletlaw17.PduReads': WHATEVER THE INPUT: true; the input reads as it did. -/
def pduReadsSpec : ChangeSpec := { name := "pduReads", fn := fun _ => fun
  | [d1, d2, d3] => { results := [.lit (.bool true)], args := [d1, d2, d3] }
  | _ => none }
def pduReadsRow : OpenClaim := { program := "ytfjlniemgmimnaa", sum := "0e1deb13ecc41c962f4940d42dcdc5bca56e97510419a291ee536b7a53022411", func := "pallet/palletlaw17.PduReads", spec := "pduReads", apart := false }
def PduReadsSaid : Prop := pduReadsRow.holds Try.pinned (OpenSpec.ofChange pduReadsSpec)

/-- ITS FALSE NEIGHBOUR: 'it returns false'. Refute it at one input. -/
def pduReadsWrong : ChangeSpec := { name := "pduReads", fn := fun _ => fun
  | [d1, d2, d3] => { results := [.lit (.bool false)], args := [d1, d2, d3] }
  | _ => none }
def PduReadsWrongFalsely : Prop := pduReadsRow.holds Try.pinned (OpenSpec.ofChange pduReadsWrong)

/-- 'palletlaw17.PduSpoils': WHATEVER THE INPUT: true; the input reads as it did. -/
def pduSpoilsSpec : ChangeSpec := { name := "pduSpoils", fn := fun _ => fun
  | [d1, d2, d3] => { results := [.lit (.bool true)], args := [d1, d2, d3] }
  | _ => none }
def pduSpoilsRow : OpenClaim := { program := "ytfjlniemgmimnaa", sum := "0e1deb13ecc41c962f4940d42dcdc5bca56e97510419a291ee536b7a53022411", func := "pallet/palletlaw17.PduSpoils", spec := "pduSpoils", apart := false }
def PduSpoilsSaid : Prop := pduSpoilsRow.holds Try.pinned (OpenSpec.ofChange pduSpoilsSpec)

/-- ITS FALSE NEIGHBOUR: 'it returns false'. Refute it at one input. -/
def pduSpoilsWrong : ChangeSpec := { name := "pduSpoils", fn := fun _ => fun
  | [d1, d2, d3] => { results := [.lit (.bool false)], args := [d1, d2, d3] }
  | _ => none }
def PduSpoilsWrongFalsely : Prop := pduSpoilsRow.holds Try.pinned (OpenSpec.ofChange pduSpoilsWrong)

/-- 'palletlaw17.PduLengths': WHATEVER THE INPUT: true; the input reads as it did. -/
def pduLengthsSpec : ChangeSpec := { name := "pduLengths", fn := fun _ => fun
  | [d1, d2, d3] => { results := [.lit (.bool true)], args := [d1, d2, d3] }
  | _ => none }
def pduLengthsRow : OpenClaim := { program := "ytfjlniemgmimnaa", sum := "0e1deb13ecc41c962f4940d42dcdc5bca56e97510419a291ee536b7a53022411", func := "pallet/palletlaw17.PduLengths", spec := "pduLengths", apart := false }
def PduLengthsSaid : Prop := pduLengthsRow.holds Try.pinned (OpenSpec.ofChange pduLengthsSpec)

/-- ITS FALSE NEIGHBOUR: 'it returns false'. Refute it at one input. -/
def pduLengthsWrong : ChangeSpec := { name := "pduLengths", fn := fun _ => fun
  | [d1, d2, d3] => { results := [.lit (.bool false)], args := [d1, d2, d3] }
  | _ => none }
def PduLengthsWrongFalsely : Prop := pduLengthsRow.holds Try.pinned (OpenSpec.ofChange pduLengthsWrong)

/-- 'palletlaw17.PduNil': WHATEVER THE INPUT: true; the input reads as it did. -/
def pduNilSpec : ChangeSpec := { name := "pduNil", fn := fun _ => fun
  | [d] => { results := [.lit (.bool true)], args := [d] }
  | _ => none }
def pduNilRow : OpenClaim := { program := "ytfjlniemgmimnaa", sum := "0e1deb13ecc41c962f4940d42dcdc5bca56e97510419a291ee536b7a53022411", func := "pallet/palletlaw17.PduNil", spec := "pduNil", apart := false }
def PduNilSaid : Prop := pduNilRow.holds Try.pinned (OpenSpec.ofChange pduNilSpec)

/-- ITS FALSE NEIGHBOUR: 'it returns false'. Refute it at one input. -/
def pduNilWrong : ChangeSpec := { name := "pduNil", fn := fun _ => fun
  | [d] => { results := [.lit (.bool false)], args := [d] }
  | _ => none }
def PduNilWrongFalsely : Prop := pduNilRow.holds Try.pinned (OpenSpec.ofChange pduNilWrong)

/-- 'palletlaw17.PduCuts': WHATEVER THE INPUT: true; the input reads as it did. -/
def pduCutsSpec : ChangeSpec := { name := "pduCuts", fn := fun _ => fun
  | [d1, d2, d3, d4, d5] => { results := [.lit (.bool true)], args := [d1, d2, d3, d4, d5] }
  | _ => none }
def pduCutsRow : OpenClaim := { program := "ytfjlniemgmimnaa", sum := "0e1deb13ecc41c962f4940d42dcdc5bca56e97510419a291ee536b7a53022411", func := "pallet/palletlaw17.PduCuts", spec := "pduCuts", apart := false }
def PduCutsSaid : Prop := pduCutsRow.holds Try.pinned (OpenSpec.ofChange pduCutsSpec)

/-- ITS FALSE NEIGHBOUR: 'it returns false'. Refute it at one input. -/
def pduCutsWrong : ChangeSpec := { name := "pduCuts", fn := fun _ => fun
  | [d1, d2, d3, d4, d5] => { results := [.lit (.bool false)], args := [d1, d2, d3, d4, d5] }
  | _ => none }
def PduCutsWrongFalsely : Prop := pduCutsRow.holds Try.pinned (OpenSpec.ofChange pduCutsWrong)

/- THE SECOND FORM. 'bulk': how many values and letters a reading holds, each counted each time it is reached (what is shared counts as often as it is met; a slice's spare places count too). A statement '..UptoSaid' is the law's where the arguments, and the package variables that the reading takes, are together of bulk at most 1048576: NARROWER than '..Said'. Prove '..Said' where nothing that the law and all that it calls make is longer than what came in: it says more and counts as full. Else prove '..UptoSaid'. A law counts once. -/
mutual
def uptoBulk {H : Type} : DataW H → Nat
  | .lit (.string bytes) => bytes.length + 1
  | .lit _ => 1
  | .nil => 1
  | .ptr d => uptoBulk d + 1
  | .slice elems spare => uptoBulkAll elems + uptoBulkAll spare + 1
  | .agg parts => uptoBulkAll parts + 1
  | .iface _ d => uptoBulk d + 1
  | .map entries => uptoBulkEntries entries + 1
  | .held _ => 1
def uptoBulkAll {H : Type} : List (DataW H) → Nat
  | [] => 0
  | d :: r => uptoBulk d + uptoBulkAll r
def uptoBulkEntries {H : Type} : List (Lit × DataW H) → Nat
  | [] => 0
  | x :: r => uptoBulkEntry x + uptoBulkEntries r
def uptoBulkEntry {H : Type} : Lit × DataW H → Nat
  | (.string bytes, d) => bytes.length + uptoBulk d + 1
  | (_, d) => uptoBulk d + 1
 end
def uptoSmall : (H : Type) → List (DataW H) → Bool := fun _ ds => decide (uptoBulkAll ds ≤ 1048576)
def OpenSpec.upto (s : _root_.Go.ChangeSpec) : _root_.Go.OpenSpec := { _root_.Go.OpenSpec.ofChange s with cond := some uptoSmall }

/-- 'palletlaw17.PduBytes', WHERE WHAT IT READS IS OF BULK AT MOST 1048576: true; the input reads as it did. -/
def pduBytesUptoRow : OpenClaim := { program := "ytfjlniemgmimnaa", sum := "0e1deb13ecc41c962f4940d42dcdc5bca56e97510419a291ee536b7a53022411", func := "pallet/palletlaw17.PduBytes", spec := "pduBytes", apart := false, narrowed := true }
def PduBytesUptoSaid : Prop := pduBytesUptoRow.holds Try.pinned (OpenSpec.upto pduBytesSpec)

/-- 'palletlaw17.PduReads', WHERE WHAT IT READS IS OF BULK AT MOST 1048576: true; the input reads as it did. -/
def pduReadsUptoRow : OpenClaim := { program := "ytfjlniemgmimnaa", sum := "0e1deb13ecc41c962f4940d42dcdc5bca56e97510419a291ee536b7a53022411", func := "pallet/palletlaw17.PduReads", spec := "pduReads", apart := false, narrowed := true }
def PduReadsUptoSaid : Prop := pduReadsUptoRow.holds Try.pinned (OpenSpec.upto pduReadsSpec)

/-- 'palletlaw17.PduSpoils', WHERE WHAT IT READS IS OF BULK AT MOST 1048576: true; the input reads as it did. -/
def pduSpoilsUptoRow : OpenClaim := { program := "ytfjlniemgmimnaa", sum := "0e1deb13ecc41c962f4940d42dcdc5bca56e97510419a291ee536b7a53022411", func := "pallet/palletlaw17.PduSpoils", spec := "pduSpoils", apart := false, narrowed := true }
def PduSpoilsUptoSaid : Prop := pduSpoilsUptoRow.holds Try.pinned (OpenSpec.upto pduSpoilsSpec)

/-- 'palletlaw17.PduLengths', WHERE WHAT IT READS IS OF BULK AT MOST 1048576: true; the input reads as it did. -/
def pduLengthsUptoRow : OpenClaim := { program := "ytfjlniemgmimnaa", sum := "0e1deb13ecc41c962f4940d42dcdc5bca56e97510419a291ee536b7a53022411", func := "pallet/palletlaw17.PduLengths", spec := "pduLengths", apart := false, narrowed := true }
def PduLengthsUptoSaid : Prop := pduLengthsUptoRow.holds Try.pinned (OpenSpec.upto pduLengthsSpec)

/-- 'palletlaw17.PduNil', WHERE WHAT IT READS IS OF BULK AT MOST 1048576: true; the input reads as it did. -/
def pduNilUptoRow : OpenClaim := { program := "ytfjlniemgmimnaa", sum := "0e1deb13ecc41c962f4940d42dcdc5bca56e97510419a291ee536b7a53022411", func := "pallet/palletlaw17.PduNil", spec := "pduNil", apart := false, narrowed := true }
def PduNilUptoSaid : Prop := pduNilUptoRow.holds Try.pinned (OpenSpec.upto pduNilSpec)

/-- 'palletlaw17.PduCuts', WHERE WHAT IT READS IS OF BULK AT MOST 1048576: true; the input reads as it did. -/
def pduCutsUptoRow : OpenClaim := { program := "ytfjlniemgmimnaa", sum := "0e1deb13ecc41c962f4940d42dcdc5bca56e97510419a291ee536b7a53022411", func := "pallet/palletlaw17.PduCuts", spec := "pduCuts", apart := false, narrowed := true }
def PduCutsUptoSaid : Prop := pduCutsUptoRow.holds Try.pinned (OpenSpec.upto pduCutsSpec)

end Rows
end Go.Proofs.Ytfjlniemgmimnaa
