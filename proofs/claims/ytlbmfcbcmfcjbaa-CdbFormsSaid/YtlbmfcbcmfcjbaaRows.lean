/-
  No cell of these rows narrows 'for every input' (looked for: loops, veiled, ifaces, maps, wideKeys, modest, calm, conditions, laid).
  DERIVED. THE GIVEN ROWS OF THIS SEAT. 6 by the template 'for every input the law returns true; each argument reads behind the call as it read before'; 0 by the template 'total and deterministic' (their statements: YtlbmfcbcmfcjbaaTotals.lean).
  GIVEN WITH THE SEED: the statements are not yours to turn. If you find one false, say at which input.
  Laid BY PROGRAM, IN A SANDBOX (cutbox-rows.mjs): the forced cells as the released guide's own fill.sh prints them over the translation 9d4eb3c5e322f3cf… (all of the seat's roots in one cut). By AI agents, Wed Nov 11 2026. No macro, syntax, notation, axiom, sorry.
-/
import Derived.Test.YtlbmfcbcmfcjbaaChecked
import GoSem.Claim
import GoSem.ClaimJoined
import GoSem.ClaimMapViews
import Derived.JoinedTies
import Derived.KernelRfl
namespace Go.Proofs.Ytlbmfcbcmfcjbaa
/- THE CELL 'sum', in the pinned program and in every row, IS THE sha256 OF THE DUMP (.gsa) THAT YtlbmfcbcmfcjbaaProg.lean LOADS. Nothing in Lean hashes anything: it is a label: what it is worth is what the hold of that sum in a sandbox is worth. -/
noncomputable def Try.pinned : Pinned := { name := "ytlbmfcbcmfcjbaa", sum := "9d4eb3c5e322f3cfa326d522b18988e6da9234c67e08d2ec2a3f8fa42b334d38", checked := Try.checked }
namespace Rows
def none {H : Type} : Left H := { results := [], args := [] }

/-- 'palletlaw08.CdbParses': WHATEVER THE INPUT: true; the input reads as it did. -/
def cdbParsesSpec : ChangeSpec := { name := "cdbParses", fn := fun _ => fun
  | [d] => { results := [.lit (.bool true)], args := [d] }
  | _ => none }
def cdbParsesRow : OpenClaim := { program := "ytlbmfcbcmfcjbaa", sum := "9d4eb3c5e322f3cfa326d522b18988e6da9234c67e08d2ec2a3f8fa42b334d38", func := "pallet/palletlaw08.CdbParses", spec := "cdbParses", apart := false }
def CdbParsesSaid : Prop := cdbParsesRow.holds Try.pinned (OpenSpec.ofChange cdbParsesSpec)

/-- ITS FALSE NEIGHBOUR: 'it returns false'. Refute it at one input. -/
def cdbParsesWrong : ChangeSpec := { name := "cdbParses", fn := fun _ => fun
  | [d] => { results := [.lit (.bool false)], args := [d] }
  | _ => none }
def CdbParsesWrongFalsely : Prop := cdbParsesRow.holds Try.pinned (OpenSpec.ofChange cdbParsesWrong)

/-- 'palletlaw08.CdbUses': WHATEVER THE INPUT: true; the input reads as it did. -/
def cdbUsesSpec : ChangeSpec := { name := "cdbUses", fn := fun _ => fun
  | [d1, d2] => { results := [.lit (.bool true)], args := [d1, d2] }
  | _ => none }
def cdbUsesRow : OpenClaim := { program := "ytlbmfcbcmfcjbaa", sum := "9d4eb3c5e322f3cfa326d522b18988e6da9234c67e08d2ec2a3f8fa42b334d38", func := "pallet/palletlaw08.CdbUses", spec := "cdbUses", apart := false }
def CdbUsesSaid : Prop := cdbUsesRow.holds Try.pinned (OpenSpec.ofChange cdbUsesSpec)

/-- ITS FALSE NEIGHBOUR: 'it returns false'. Refute it at one input. -/
def cdbUsesWrong : ChangeSpec := { name := "cdbUses", fn := fun _ => fun
  | [d1, d2] => { results := [.lit (.bool false)], args := [d1, d2] }
  | _ => none }
def CdbUsesWrongFalsely : Prop := cdbUsesRow.holds Try.pinned (OpenSpec.ofChange cdbUsesWrong)

/-- 'palletlaw08.CdbReserved': WHATEVER THE INPUT: true; the input reads as it did. -/
def cdbReservedSpec : ChangeSpec := { name := "cdbReserved", fn := fun _ => fun
  | [d1, d2, d3, d4] => { results := [.lit (.bool true)], args := [d1, d2, d3, d4] }
  | _ => none }
def cdbReservedRow : OpenClaim := { program := "ytlbmfcbcmfcjbaa", sum := "9d4eb3c5e322f3cfa326d522b18988e6da9234c67e08d2ec2a3f8fa42b334d38", func := "pallet/palletlaw08.CdbReserved", spec := "cdbReserved", apart := false }
def CdbReservedSaid : Prop := cdbReservedRow.holds Try.pinned (OpenSpec.ofChange cdbReservedSpec)

/-- ITS FALSE NEIGHBOUR: 'it returns false'. Refute it at one input. -/
def cdbReservedWrong : ChangeSpec := { name := "cdbReserved", fn := fun _ => fun
  | [d1, d2, d3, d4] => { results := [.lit (.bool false)], args := [d1, d2, d3, d4] }
  | _ => none }
def CdbReservedWrongFalsely : Prop := cdbReservedRow.holds Try.pinned (OpenSpec.ofChange cdbReservedWrong)

/-- 'palletlaw08.CdbShort': WHATEVER THE INPUT: true; the input reads as it did. -/
def cdbShortSpec : ChangeSpec := { name := "cdbShort", fn := fun _ => fun
  | [d1, d2] => { results := [.lit (.bool true)], args := [d1, d2] }
  | _ => none }
def cdbShortRow : OpenClaim := { program := "ytlbmfcbcmfcjbaa", sum := "9d4eb3c5e322f3cfa326d522b18988e6da9234c67e08d2ec2a3f8fa42b334d38", func := "pallet/palletlaw08.CdbShort", spec := "cdbShort", apart := false }
def CdbShortSaid : Prop := cdbShortRow.holds Try.pinned (OpenSpec.ofChange cdbShortSpec)

/-- ITS FALSE NEIGHBOUR: 'it returns false'. Refute it at one input. -/
def cdbShortWrong : ChangeSpec := { name := "cdbShort", fn := fun _ => fun
  | [d1, d2] => { results := [.lit (.bool false)], args := [d1, d2] }
  | _ => none }
def CdbShortWrongFalsely : Prop := cdbShortRow.holds Try.pinned (OpenSpec.ofChange cdbShortWrong)

/-- 'palletlaw08.CdbForms': WHATEVER THE INPUT: true; the input reads as it did. -/
def cdbFormsSpec : ChangeSpec := { name := "cdbForms", fn := fun _ => fun
  | [d1, d2, d3] => { results := [.lit (.bool true)], args := [d1, d2, d3] }
  | _ => none }
def cdbFormsRow : OpenClaim := { program := "ytlbmfcbcmfcjbaa", sum := "9d4eb3c5e322f3cfa326d522b18988e6da9234c67e08d2ec2a3f8fa42b334d38", func := "pallet/palletlaw08.CdbForms", spec := "cdbForms", apart := false }
def CdbFormsSaid : Prop := cdbFormsRow.holds Try.pinned (OpenSpec.ofChange cdbFormsSpec)

/-- ITS FALSE NEIGHBOUR: 'it returns false'. Refute it at one input. -/
def cdbFormsWrong : ChangeSpec := { name := "cdbForms", fn := fun _ => fun
  | [d1, d2, d3] => { results := [.lit (.bool false)], args := [d1, d2, d3] }
  | _ => none }
def CdbFormsWrongFalsely : Prop := cdbFormsRow.holds Try.pinned (OpenSpec.ofChange cdbFormsWrong)

/-- 'palletlaw08.CdbMany': WHATEVER THE INPUT: true; the input reads as it did. -/
def cdbManySpec : ChangeSpec := { name := "cdbMany", fn := fun _ => fun
  | [d1, d2] => { results := [.lit (.bool true)], args := [d1, d2] }
  | _ => none }
def cdbManyRow : OpenClaim := { program := "ytlbmfcbcmfcjbaa", sum := "9d4eb3c5e322f3cfa326d522b18988e6da9234c67e08d2ec2a3f8fa42b334d38", func := "pallet/palletlaw08.CdbMany", spec := "cdbMany", apart := false }
def CdbManySaid : Prop := cdbManyRow.holds Try.pinned (OpenSpec.ofChange cdbManySpec)

/-- ITS FALSE NEIGHBOUR: 'it returns false'. Refute it at one input. -/
def cdbManyWrong : ChangeSpec := { name := "cdbMany", fn := fun _ => fun
  | [d1, d2] => { results := [.lit (.bool false)], args := [d1, d2] }
  | _ => none }
def CdbManyWrongFalsely : Prop := cdbManyRow.holds Try.pinned (OpenSpec.ofChange cdbManyWrong)

/- THE SECOND FORM. 'bulk': how many values and letters a reading holds, each counted each time it is reached (what is shared counts as often as it is met; a slice's spare places count too). A statement '..UptoSaid' is the law's where the arguments, and the package variables that the reading takes, are together of bulk at most 1048576: NARROWER than '..Said'. Prove '..Said' where nothing that the law and all that it calls make is longer than what came in: it says more and counts as full. Else prove '..UptoSaid'. A law counts once. -/
mutual
def uptoBulk {H : Type} : DataW H → Nat
  | .lit (.string bytes) => bytes.length + 1
  | .lit _ => 1
  | .nil => 1
  | .ptr d => uptoBulk d + 1
  | .slice elems spare => uptoBulkAll elems + uptoBulkAll spare + 1
  | .agg parts => uptoBulkAll parts + 1
  | .iface _ d => uptoBulk d + 1
  | .map entries => uptoBulkEntries entries + 1
  | .held _ => 1
def uptoBulkAll {H : Type} : List (DataW H) → Nat
  | [] => 0
  | d :: r => uptoBulk d + uptoBulkAll r
def uptoBulkEntries {H : Type} : List (Lit × DataW H) → Nat
  | [] => 0
  | x :: r => uptoBulkEntry x + uptoBulkEntries r
def uptoBulkEntry {H : Type} : Lit × DataW H → Nat
  | (.string bytes, d) => bytes.length + uptoBulk d + 1
  | (_, d) => uptoBulk d + 1
 end
def uptoSmall : (H : Type) → List (DataW H) → Bool := fun _ ds => decide (uptoBulkAll ds ≤ 1048576)
def OpenSpec.upto (s : _root_.Go.ChangeSpec) : _root_.Go.OpenSpec := { _root_.Go.OpenSpec.ofChange s with cond := some uptoSmall }

/-- 'palletlaw08.CdbParses', WHERE WHAT IT READS IS OF BULK AT MOST 1048576: true; the input reads as it did. -/
def cdbParsesUptoRow : OpenClaim := { program := "ytlbmfcbcmfcjbaa", sum := "9d4eb3c5e322f3cfa326d522b18988e6da9234c67e08d2ec2a3f8fa42b334d38", func := "pallet/palletlaw08.CdbParses", spec := "cdbParses", apart := false, narrowed := true }
def CdbParsesUptoSaid : Prop := cdbParsesUptoRow.holds Try.pinned (OpenSpec.upto cdbParsesSpec)

/-- 'palletlaw08.CdbUses', WHERE WHAT IT READS IS OF BULK AT MOST 1048576: true; the input reads as it did. -/
def cdbUsesUptoRow : OpenClaim := { program := "ytlbmfcbcmfcjbaa", sum := "9d4eb3c5e322f3cfa326d522b18988e6da9234c67e08d2ec2a3f8fa42b334d38", func := "pallet/palletlaw08.CdbUses", spec := "cdbUses", apart := false, narrowed := true }
def CdbUsesUptoSaid : Prop := cdbUsesUptoRow.holds Try.pinned (OpenSpec.upto cdbUsesSpec)

/-- 'palletlaw08.CdbReserved', WHERE WHAT IT READS IS OF BULK AT MOST 1048576: true; the input reads as it did. -/
def cdbReservedUptoRow : OpenClaim := { program := "ytlbmfcbcmfcjbaa", sum := "9d4eb3c5e322f3cfa326d522b18988e6da9234c67e08d2ec2a3f8fa42b334d38", func := "pallet/palletlaw08.CdbReserved", spec := "cdbReserved", apart := false, narrowed := true }
def CdbReservedUptoSaid : Prop := cdbReservedUptoRow.holds Try.pinned (OpenSpec.upto cdbReservedSpec)

/-- 'palletlaw08.CdbShort', WHERE WHAT IT READS IS OF BULK AT MOST 1048576: true; the input reads as it did. -/
def cdbShortUptoRow : OpenClaim := { program := "ytlbmfcbcmfcjbaa", sum := "9d4eb3c5e322f3cfa326d522b18988e6da9234c67e08d2ec2a3f8fa42b334d38", func := "pallet/palletlaw08.CdbShort", spec := "cdbShort", apart := false, narrowed := true }
def CdbShortUptoSaid : Prop := cdbShortUptoRow.holds Try.pinned (OpenSpec.upto cdbShortSpec)

/-- 'palletlaw08.CdbForms', WHERE WHAT IT READS IS OF BULK AT MOST 1048576: true; the input reads as it did. -/
def cdbFormsUptoRow : OpenClaim := { program := "ytlbmfcbcmfcjbaa", sum := "9d4eb3c5e322f3cfa326d522b18988e6da9234c67e08d2ec2a3f8fa42b334d38", func := "pallet/palletlaw08.CdbForms", spec := "cdbForms", apart := false, narrowed := true }
def CdbFormsUptoSaid : Prop := cdbFormsUptoRow.holds Try.pinned (OpenSpec.upto cdbFormsSpec)

/-- 'palletlaw08.CdbMany', WHERE WHAT IT READS IS OF BULK AT MOST 1048576: true; the input reads as it did. -/
def cdbManyUptoRow : OpenClaim := { program := "ytlbmfcbcmfcjbaa", sum := "9d4eb3c5e322f3cfa326d522b18988e6da9234c67e08d2ec2a3f8fa42b334d38", func := "pallet/palletlaw08.CdbMany", spec := "cdbMany", apart := false, narrowed := true }
def CdbManyUptoSaid : Prop := cdbManyUptoRow.holds Try.pinned (OpenSpec.upto cdbManySpec)

end Rows
end Go.Proofs.Ytlbmfcbcmfcjbaa
