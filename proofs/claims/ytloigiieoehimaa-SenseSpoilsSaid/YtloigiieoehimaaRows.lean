/-
  No cell of these rows narrows 'for every input' (looked for: loops, veiled, ifaces, maps, wideKeys, modest, calm, conditions, laid).
  DERIVED. THE GIVEN ROWS OF THIS SEAT. 5 by the template 'for every input the law returns true; each argument reads behind the call as it read before'; 0 by the template 'total and deterministic' (their statements: YtloigiieoehimaaTotals.lean).
  GIVEN WITH THE SEED: the statements are not yours to turn. If you find one false, say at which input.
  Laid BY PROGRAM, IN A SANDBOX (cutbox-rows.mjs): the forced cells as the released guide's own fill.sh prints them over the translation 03efbbcf208be23d… (all of the seat's roots in one cut). By AI agents, Wed Nov 11 2026. No macro, syntax, notation, axiom, sorry.
-/
import Derived.Test.YtloigiieoehimaaChecked
import GoSem.Claim
import GoSem.ClaimJoined
import GoSem.ClaimMapViews
import Derived.JoinedTies
import Derived.KernelRfl
namespace Go.Proofs.Ytloigiieoehimaa
/- THE CELL 'sum', in the pinned program and in every row, IS THE sha256 OF THE DUMP (.gsa) THAT YtloigiieoehimaaProg.lean LOADS. Nothing in Lean hashes anything: it is a label: what it is worth is what the hold of that sum in a sandbox is worth. -/
noncomputable def Try.pinned : Pinned := { name := "ytloigiieoehimaa", sum := "03efbbcf208be23dced496f217b9edf14ca3c160eee3c0645ce90970a58b036f", checked := Try.checked }
namespace Rows
def none {H : Type} : Left H := { results := [], args := [] }

/-- 'palletlaw06.SenseBytes': WHATEVER THE INPUT: true; the input reads as it did. -/
def senseBytesSpec : ChangeSpec := { name := "senseBytes", fn := fun _ => fun
  | [d] => { results := [.lit (.bool true)], args := [d] }
  | _ => none }
def senseBytesRow : OpenClaim := { program := "ytloigiieoehimaa", sum := "03efbbcf208be23dced496f217b9edf14ca3c160eee3c0645ce90970a58b036f", func := "pallet/palletlaw06.SenseBytes", spec := "senseBytes", apart := false }
def SenseBytesSaid : Prop := senseBytesRow.holds Try.pinned (OpenSpec.ofChange senseBytesSpec)

/-- ITS FALSE NEIGHBOUR: 'it returns false'. Refute it at one input. -/
def senseBytesWrong : ChangeSpec := { name := "senseBytes", fn := fun _ => fun
  | [d] => { results := [.lit (.bool false)], args := [d] }
  | _ => none }
def SenseBytesWrongFalsely : Prop := senseBytesRow.holds Try.pinned (OpenSpec.ofChange senseBytesWrong)

/-- 'palletlaw06.SenseNames': WHATEVER THE INPUT: true; the input reads as it did. -/
def senseNamesSpec : ChangeSpec := { name := "senseNames", fn := fun _ => fun
  | [d] => { results := [.lit (.bool true)], args := [d] }
  | _ => none }
def senseNamesRow : OpenClaim := { program := "ytloigiieoehimaa", sum := "03efbbcf208be23dced496f217b9edf14ca3c160eee3c0645ce90970a58b036f", func := "pallet/palletlaw06.SenseNames", spec := "senseNames", apart := false }
def SenseNamesSaid : Prop := senseNamesRow.holds Try.pinned (OpenSpec.ofChange senseNamesSpec)

/-- ITS FALSE NEIGHBOUR: 'it returns false'. Refute it at one input. -/
def senseNamesWrong : ChangeSpec := { name := "senseNames", fn := fun _ => fun
  | [d] => { results := [.lit (.bool false)], args := [d] }
  | _ => none }
def SenseNamesWrongFalsely : Prop := senseNamesRow.holds Try.pinned (OpenSpec.ofChange senseNamesWrong)

/-- 'palletlaw06.SenseReads': WHATEVER THE INPUT: true; the input reads as it did. -/
def senseReadsSpec : ChangeSpec := { name := "senseReads", fn := fun _ => fun
  | [d] => { results := [.lit (.bool true)], args := [d] }
  | _ => none }
def senseReadsRow : OpenClaim := { program := "ytloigiieoehimaa", sum := "03efbbcf208be23dced496f217b9edf14ca3c160eee3c0645ce90970a58b036f", func := "pallet/palletlaw06.SenseReads", spec := "senseReads", apart := false }
def SenseReadsSaid : Prop := senseReadsRow.holds Try.pinned (OpenSpec.ofChange senseReadsSpec)

/-- ITS FALSE NEIGHBOUR: 'it returns false'. Refute it at one input. -/
def senseReadsWrong : ChangeSpec := { name := "senseReads", fn := fun _ => fun
  | [d] => { results := [.lit (.bool false)], args := [d] }
  | _ => none }
def SenseReadsWrongFalsely : Prop := senseReadsRow.holds Try.pinned (OpenSpec.ofChange senseReadsWrong)

/-- 'palletlaw06.SenseBack': WHATEVER THE INPUT: true; the input reads as it did. -/
def senseBackSpec : ChangeSpec := { name := "senseBack", fn := fun _ => fun
  | [d] => { results := [.lit (.bool true)], args := [d] }
  | _ => none }
def senseBackRow : OpenClaim := { program := "ytloigiieoehimaa", sum := "03efbbcf208be23dced496f217b9edf14ca3c160eee3c0645ce90970a58b036f", func := "pallet/palletlaw06.SenseBack", spec := "senseBack", apart := false }
def SenseBackSaid : Prop := senseBackRow.holds Try.pinned (OpenSpec.ofChange senseBackSpec)

/-- ITS FALSE NEIGHBOUR: 'it returns false'. Refute it at one input. -/
def senseBackWrong : ChangeSpec := { name := "senseBack", fn := fun _ => fun
  | [d] => { results := [.lit (.bool false)], args := [d] }
  | _ => none }
def SenseBackWrongFalsely : Prop := senseBackRow.holds Try.pinned (OpenSpec.ofChange senseBackWrong)

/-- 'palletlaw06.SenseSpoils': WHATEVER THE INPUT: true; the input reads as it did. -/
def senseSpoilsSpec : ChangeSpec := { name := "senseSpoils", fn := fun _ => fun
  | [d1, d2, d3, d4] => { results := [.lit (.bool true)], args := [d1, d2, d3, d4] }
  | _ => none }
def senseSpoilsRow : OpenClaim := { program := "ytloigiieoehimaa", sum := "03efbbcf208be23dced496f217b9edf14ca3c160eee3c0645ce90970a58b036f", func := "pallet/palletlaw06.SenseSpoils", spec := "senseSpoils", apart := false }
def SenseSpoilsSaid : Prop := senseSpoilsRow.holds Try.pinned (OpenSpec.ofChange senseSpoilsSpec)

/-- ITS FALSE NEIGHBOUR: 'it returns false'. Refute it at one input. -/
def senseSpoilsWrong : ChangeSpec := { name := "senseSpoils", fn := fun _ => fun
  | [d1, d2, d3, d4] => { results := [.lit (.bool false)], args := [d1, d2, d3, d4] }
  | _ => none }
def SenseSpoilsWrongFalsely : Prop := senseSpoilsRow.holds Try.pinned (OpenSpec.ofChange senseSpoilsWrong)

/- THE SECOND FORM. 'bulk': how many values and letters a reading holds, each counted each time it is reached (what is shared counts as often as it is met; a slice's spare places count too). A statement '..UptoSaid' is the law's where the arguments, and the package variables that the reading takes, are together of bulk at most 1048576: NARROWER than '..Said'. Prove '..Said' where nothing that the law and all that it calls make is longer than what came in: it says more and counts as full. Else prove '..UptoSaid'. A law counts once. -/
mutual
def uptoBulk {H : Type} : DataW H → Nat
  | .lit (.string bytes) => bytes.length + 1
  | .lit _ => 1
  | .nil => 1
  | .ptr d => uptoBulk d + 1
  | .slice elems spare => uptoBulkAll elems + uptoBulkAll spare + 1
  | .agg parts => uptoBulkAll parts + 1
  | .iface _ d => uptoBulk d + 1
  | .map entries => uptoBulkEntries entries + 1
  | .held _ => 1
def uptoBulkAll {H : Type} : List (DataW H) → Nat
  | [] => 0
  | d :: r => uptoBulk d + uptoBulkAll r
def uptoBulkEntries {H : Type} : List (Lit × DataW H) → Nat
  | [] => 0
  | x :: r => uptoBulkEntry x + uptoBulkEntries r
def uptoBulkEntry {H : Type} : Lit × DataW H → Nat
  | (.string bytes, d) => bytes.length + uptoBulk d + 1
  | (_, d) => uptoBulk d + 1
 end
def uptoSmall : (H : Type) → List (DataW H) → Bool := fun _ ds => decide (uptoBulkAll ds ≤ 1048576)
def OpenSpec.upto (s : _root_.Go.ChangeSpec) : _root_.Go.OpenSpec := { _root_.Go.OpenSpec.ofChange s with cond := some uptoSmall }

/-- 'palletlaw06.SenseBytes', WHERE WHAT IT READS IS OF BULK AT MOST 1048576: true; the input reads as it did. -/
def senseBytesUptoRow : OpenClaim := { program := "ytloigiieoehimaa", sum := "03efbbcf208be23dced496f217b9edf14ca3c160eee3c0645ce90970a58b036f", func := "pallet/palletlaw06.SenseBytes", spec := "senseBytes", apart := false, narrowed := true }
def SenseBytesUptoSaid : Prop := senseBytesUptoRow.holds Try.pinned (OpenSpec.upto senseBytesSpec)

/-- 'palletlaw06.SenseNames', WHERE WHAT IT READS IS OF BULK AT MOST 1048576: true; the input reads as it did. -/
def senseNamesUptoRow : OpenClaim := { program := "ytloigiieoehimaa", sum := "03efbbcf208be23dced496f217b9edf14ca3c160eee3c0645ce90970a58b036f", func := "pallet/palletlaw06.SenseNames", spec := "senseNames", apart := false, narrowed := true }
def SenseNamesUptoSaid : Prop := senseNamesUptoRow.holds Try.pinned (OpenSpec.upto senseNamesSpec)

/-- 'palletlaw06.SenseReads', WHERE WHAT IT READS IS OF BULK AT MOST 1048576: true; the input reads as it did. -/
def senseReadsUptoRow : OpenClaim := { program := "ytloigiieoehimaa", sum := "03efbbcf208be23dced496f217b9edf14ca3c160eee3c0645ce90970a58b036f", func := "pallet/palletlaw06.SenseReads", spec := "senseReads", apart := false, narrowed := true }
def SenseReadsUptoSaid : Prop := senseReadsUptoRow.holds Try.pinned (OpenSpec.upto senseReadsSpec)

/-- 'palletlaw06.SenseBack', WHERE WHAT IT READS IS OF BULK AT MOST 1048576: true; the input reads as it did. -/
def senseBackUptoRow : OpenClaim := { program := "ytloigiieoehimaa", sum := "03efbbcf208be23dced496f217b9edf14ca3c160eee3c0645ce90970a58b036f", func := "pallet/palletlaw06.SenseBack", spec := "senseBack", apart := false, narrowed := true }
def SenseBackUptoSaid : Prop := senseBackUptoRow.holds Try.pinned (OpenSpec.upto senseBackSpec)

/-- 'palletlaw06.SenseSpoils', WHERE WHAT IT READS IS OF BULK AT MOST 1048576: true; the input reads as it did. -/
def senseSpoilsUptoRow : OpenClaim := { program := "ytloigiieoehimaa", sum := "03efbbcf208be23dced496f217b9edf14ca3c160eee3c0645ce90970a58b036f", func := "pallet/palletlaw06.SenseSpoils", spec := "senseSpoils", apart := false, narrowed := true }
def SenseSpoilsUptoSaid : Prop := senseSpoilsUptoRow.holds Try.pinned (OpenSpec.upto senseSpoilsSpec)

end Rows
end Go.Proofs.Ytloigiieoehimaa
