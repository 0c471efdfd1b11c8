/-
  No cell of these rows narrows 'for every input' (looked for: loops, veiled, ifaces, maps, wideKeys, modest, calm, conditions, laid).
  DERIVED. THE GIVEN ROWS OF THIS SEAT. 6 by the template 'for every input the law returns true; each argument reads behind the call as it read before'; 0 by the template 'total and deterministic' (their statements: YtgnfeeddapiihaaTotals.lean).
  GIVEN WITH THE SEED: the statements are not yours to turn. If you find one false, say at which input.
  Laid BY PROGRAM, IN A SANDBOX (cutbox-rows.mjs): the forced cells as the released guide's own fill.sh prints them over the translation fb45abe9a6c269e8… (all of the seat's roots in one cut). By AI agents, Wed Nov 11 2026. No macro, syntax, notation, axiom, sorry.
-/
import Derived.Test.YtgnfeeddapiihaaChecked
import GoSem.Claim
import GoSem.ClaimJoined
import GoSem.ClaimMapViews
import Derived.JoinedTies
import Derived.KernelRfl
namespace Go.Proofs.Ytgnfeeddapiihaa
/- THE CELL 'sum', in the pinned program and in every row, IS THE sha256 OF THE DUMP (.gsa) THAT YtgnfeeddapiihaaProg.lean LOADS. Nothing in Lean hashes anything: it is a label: what it is worth is what the hold of that sum in a sandbox is worth. -/
noncomputable def Try.pinned : Pinned := { name := "ytgnfeeddapiihaa", sum := "fb45abe9a6c269e8df38ff3a5d28b436af1e98f10588d89356de7be19f3af3ab", checked := Try.checked }
namespace Rows
def none {H : Type} : Left H := { results := [], args := [] }

/-- 'palletlaw01.BeGets': WHATEVER THE INPUT: true; the input reads as it did. -/
def beGetsSpec : ChangeSpec := { name := "beGets", fn := fun _ => fun
  | [d1, d2, d3] => { results := [.lit (.bool true)], args := [d1, d2, d3] }
  | _ => none }
def beGetsRow : OpenClaim := { program := "ytgnfeeddapiihaa", sum := "fb45abe9a6c269e8df38ff3a5d28b436af1e98f10588d89356de7be19f3af3ab", func := "pallet/palletlaw01.BeGets", spec := "beGets", apart := false }
def BeGetsSaid : Prop := beGetsRow.holds Try.pinned (OpenSpec.ofChange beGetsSpec)

/-- ITS FALSE NEIGHBOUR: 'it returns false'. Refute it at one input. -/
def beGetsWrong : ChangeSpec := { name := "beGets", fn := fun _ => fun
  | [d1, d2, d3] => { results := [.lit (.bool false)], args := [d1, d2, d3] }
  | _ => none }
def BeGetsWrongFalsely : Prop := beGetsRow.holds Try.pinned (OpenSpec.ofChange beGetsWrong)

/-- 'palletlaw01.BePads': WHATEVER THE INPUT: true; the input reads as it did. -/
def bePadsSpec : ChangeSpec := { name := "bePads", fn := fun _ => fun
  | [d] => { results := [.lit (.bool true)], args := [d] }
  | _ => none }
def bePadsRow : OpenClaim := { program := "ytgnfeeddapiihaa", sum := "fb45abe9a6c269e8df38ff3a5d28b436af1e98f10588d89356de7be19f3af3ab", func := "pallet/palletlaw01.BePads", spec := "bePads", apart := false }
def BePadsSaid : Prop := bePadsRow.holds Try.pinned (OpenSpec.ofChange bePadsSpec)

/-- ITS FALSE NEIGHBOUR: 'it returns false'. Refute it at one input. -/
def bePadsWrong : ChangeSpec := { name := "bePads", fn := fun _ => fun
  | [d] => { results := [.lit (.bool false)], args := [d] }
  | _ => none }
def BePadsWrongFalsely : Prop := bePadsRow.holds Try.pinned (OpenSpec.ofChange bePadsWrong)

/-- 'palletlaw01.BeRanges': WHATEVER THE INPUT: true; the input reads as it did. -/
def beRangesSpec : ChangeSpec := { name := "beRanges", fn := fun _ => fun
  | [d1, d2, d3, d4] => { results := [.lit (.bool true)], args := [d1, d2, d3, d4] }
  | _ => none }
def beRangesRow : OpenClaim := { program := "ytgnfeeddapiihaa", sum := "fb45abe9a6c269e8df38ff3a5d28b436af1e98f10588d89356de7be19f3af3ab", func := "pallet/palletlaw01.BeRanges", spec := "beRanges", apart := false }
def BeRangesSaid : Prop := beRangesRow.holds Try.pinned (OpenSpec.ofChange beRangesSpec)

/-- ITS FALSE NEIGHBOUR: 'it returns false'. Refute it at one input. -/
def beRangesWrong : ChangeSpec := { name := "beRanges", fn := fun _ => fun
  | [d1, d2, d3, d4] => { results := [.lit (.bool false)], args := [d1, d2, d3, d4] }
  | _ => none }
def BeRangesWrongFalsely : Prop := beRangesRow.holds Try.pinned (OpenSpec.ofChange beRangesWrong)

/-- 'palletlaw01.BeOdds': WHATEVER THE INPUT: true; the input reads as it did. -/
def beOddsSpec : ChangeSpec := { name := "beOdds", fn := fun _ => fun
  | [d1, d2] => { results := [.lit (.bool true)], args := [d1, d2] }
  | _ => none }
def beOddsRow : OpenClaim := { program := "ytgnfeeddapiihaa", sum := "fb45abe9a6c269e8df38ff3a5d28b436af1e98f10588d89356de7be19f3af3ab", func := "pallet/palletlaw01.BeOdds", spec := "beOdds", apart := false }
def BeOddsSaid : Prop := beOddsRow.holds Try.pinned (OpenSpec.ofChange beOddsSpec)

/-- ITS FALSE NEIGHBOUR: 'it returns false'. Refute it at one input. -/
def beOddsWrong : ChangeSpec := { name := "beOdds", fn := fun _ => fun
  | [d1, d2] => { results := [.lit (.bool false)], args := [d1, d2] }
  | _ => none }
def BeOddsWrongFalsely : Prop := beOddsRow.holds Try.pinned (OpenSpec.ofChange beOddsWrong)

/-- 'palletlaw01.BePuts': WHATEVER THE INPUT: true; the input reads as it did. -/
def bePutsSpec : ChangeSpec := { name := "bePuts", fn := fun _ => fun
  | [d1, d2, d3, d4] => { results := [.lit (.bool true)], args := [d1, d2, d3, d4] }
  | _ => none }
def bePutsRow : OpenClaim := { program := "ytgnfeeddapiihaa", sum := "fb45abe9a6c269e8df38ff3a5d28b436af1e98f10588d89356de7be19f3af3ab", func := "pallet/palletlaw01.BePuts", spec := "bePuts", apart := false }
def BePutsSaid : Prop := bePutsRow.holds Try.pinned (OpenSpec.ofChange bePutsSpec)

/-- ITS FALSE NEIGHBOUR: 'it returns false'. Refute it at one input. -/
def bePutsWrong : ChangeSpec := { name := "bePuts", fn := fun _ => fun
  | [d1, d2, d3, d4] => { results := [.lit (.bool false)], args := [d1, d2, d3, d4] }
  | _ => none }
def BePutsWrongFalsely : Prop := bePutsRow.holds Try.pinned (OpenSpec.ofChange bePutsWrong)

/-- 'palletlaw01.BeBack': WHATEVER THE INPUT: true; the input reads as it did. -/
def beBackSpec : ChangeSpec := { name := "beBack", fn := fun _ => fun
  | [d1, d2, d3, d4] => { results := [.lit (.bool true)], args := [d1, d2, d3, d4] }
  | _ => none }
def beBackRow : OpenClaim := { program := "ytgnfeeddapiihaa", sum := "fb45abe9a6c269e8df38ff3a5d28b436af1e98f10588d89356de7be19f3af3ab", func := "pallet/palletlaw01.BeBack", spec := "beBack", apart := false }
def BeBackSaid : Prop := beBackRow.holds Try.pinned (OpenSpec.ofChange beBackSpec)

/-- ITS FALSE NEIGHBOUR: 'it returns false'. Refute it at one input. -/
def beBackWrong : ChangeSpec := { name := "beBack", fn := fun _ => fun
  | [d1, d2, d3, d4] => { results := [.lit (.bool false)], args := [d1, d2, d3, d4] }
  | _ => none }
def BeBackWrongFalsely : Prop := beBackRow.holds Try.pinned (OpenSpec.ofChange beBackWrong)

/- THE SECOND FORM. 'bulk': how many values and letters a reading holds, each counted each time it is reached (what is shared counts as often as it is met; a slice's spare places count too). A statement '..UptoSaid' is the law's where the arguments, and the package variables that the reading takes, are together of bulk at most 1048576: NARROWER than '..Said'. Prove '..Said' where nothing that the law and all that it calls make is longer than what came in: it says more and counts as full. Else prove '..UptoSaid'. A law counts once. -/
mutual
def uptoBulk {H : Type} : DataW H → Nat
  | .lit (.string bytes) => bytes.length + 1
  | .lit _ => 1
  | .nil => 1
  | .ptr d => uptoBulk d + 1
  | .slice elems spare => uptoBulkAll elems + uptoBulkAll spare + 1
  | .agg parts => uptoBulkAll parts + 1
  | .iface _ d => uptoBulk d + 1
  | .map entries => uptoBulkEntries entries + 1
  | .held _ => 1
def uptoBulkAll {H : Type} : List (DataW H) → Nat
  | [] => 0
  | d :: r => uptoBulk d + uptoBulkAll r
def uptoBulkEntries {H : Type} : List (Lit × DataW H) → Nat
  | [] => 0
  | x :: r => uptoBulkEntry x + uptoBulkEntries r
def uptoBulkEntry {H : Type} : Lit × DataW H → Nat
  | (.string bytes, d) => bytes.length + uptoBulk d + 1
  | (_, d) => uptoBulk d + 1
 end
def uptoSmall : (H : Type) → List (DataW H) → Bool := fun _ ds => decide (uptoBulkAll ds ≤ 1048576)
def OpenSpec.upto (s : _root_.Go.ChangeSpec) : _root_.Go.OpenSpec := { _root_.Go.OpenSpec.ofChange s with cond := some uptoSmall }

/-- 'palletlaw01.BeGets', WHERE WHAT IT READS IS OF BULK AT MOST 1048576: true; the input reads as it did. -/
def beGetsUptoRow : OpenClaim := { program := "ytgnfeeddapiihaa", sum := "fb45abe9a6c269e8df38ff3a5d28b436af1e98f10588d89356de7be19f3af3ab", func := "pallet/palletlaw01.BeGets", spec := "beGets", apart := false, narrowed := true }
def BeGetsUptoSaid : Prop := beGetsUptoRow.holds Try.pinned (OpenSpec.upto beGetsSpec)

/-- 'palletlaw01.BePads', WHERE WHAT IT READS IS OF BULK AT MOST 1048576: true; the input reads as it did. -/
def bePadsUptoRow : OpenClaim := { program := "ytgnfeeddapiihaa", sum := "fb45abe9a6c269e8df38ff3a5d28b436af1e98f10588d89356de7be19f3af3ab", func := "pallet/palletlaw01.BePads", spec := "bePads", apart := false, narrowed := true }
def BePadsUptoSaid : Prop := bePadsUptoRow.holds Try.pinned (OpenSpec.upto bePadsSpec)

/-- 'palletlaw01.BeRanges', WHERE WHAT IT READS IS OF BULK AT MOST 1048576: true; the input reads as it did. -/
def beRangesUptoRow : OpenClaim := { program := "ytgnfeeddapiihaa", sum := "fb45abe9a6c269e8df38ff3a5d28b436af1e98f10588d89356de7be19f3af3ab", func := "pallet/palletlaw01.BeRanges", spec := "beRanges", apart := false, narrowed := true }
def BeRangesUptoSaid : Prop := beRangesUptoRow.holds Try.pinned (OpenSpec.upto beRangesSpec)

/-- 'palletlaw01.BeOdds', WHERE WHAT IT READS IS OF BULK AT MOST 1048576: true; the input reads as it did. -/
def beOddsUptoRow : OpenClaim := { program := "ytgnfeeddapiihaa", sum := "fb45abe9a6c269e8df38ff3a5d28b436af1e98f10588d89356de7be19f3af3ab", func := "pallet/palletlaw01.BeOdds", spec := "beOdds", apart := false, narrowed := true }
def BeOddsUptoSaid : Prop := beOddsUptoRow.holds Try.pinned (OpenSpec.upto beOddsSpec)

/-- 'palletlaw01.BePuts', WHERE WHAT IT READS IS OF BULK AT MOST 1048576: true; the input reads as it did. -/
def bePutsUptoRow : OpenClaim := { program := "ytgnfeeddapiihaa", sum := "fb45abe9a6c269e8df38ff3a5d28b436af1e98f10588d89356de7be19f3af3ab", func := "pallet/palletlaw01.BePuts", spec := "bePuts", apart := false, narrowed := true }
def BePutsUptoSaid : Prop := bePutsUptoRow.holds Try.pinned (OpenSpec.upto bePutsSpec)

/-- 'palletlaw01.BeBack', WHERE WHAT IT READS IS OF BULK AT MOST 1048576: true; the input reads as it did. -/
def beBackUptoRow : OpenClaim := { program := "ytgnfeeddapiihaa", sum := "fb45abe9a6c269e8df38ff3a5d28b436af1e98f10588d89356de7be19f3af3ab", func := "pallet/palletlaw01.BeBack", spec := "beBack", apart := false, narrowed := true }
def BeBackUptoSaid : Prop := beBackUptoRow.holds Try.pinned (OpenSpec.upto beBackSpec)

end Rows
end Go.Proofs.Ytgnfeeddapiihaa
