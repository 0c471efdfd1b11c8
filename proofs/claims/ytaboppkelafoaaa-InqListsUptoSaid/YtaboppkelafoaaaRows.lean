/-
  No cell of these rows narrows 'for every input' (looked for: loops, veiled, ifaces, maps, wideKeys, modest, calm, conditions, laid).
  DERIVED. THE GIVEN ROWS OF THIS SEAT. 4 by the template 'for every input the law returns true; each argument reads behind the call as it read before'; 0 by the template 'total and deterministic' (their statements: YtaboppkelafoaaaTotals.lean).
  GIVEN WITH THE SEED: the statements are not yours to turn. If you find one false, say at which input.
  Laid BY PROGRAM, IN A SANDBOX (cutbox-rows.mjs): the forced cells as the released guide's own fill.sh prints them over the translation 7fe98335d3243ae8… (all of the seat's roots in one cut). By AI agents, Wed Nov 11 2026. No macro, syntax, notation, axiom, sorry.
-/
import Derived.Test.YtaboppkelafoaaaChecked
import GoSem.Claim
import GoSem.ClaimJoined
import GoSem.ClaimMapViews
import Derived.JoinedTies
import Derived.KernelRfl
namespace Go.Proofs.Ytaboppkelafoaaa
/- THE CELL 'sum', in the pinned program and in every row, IS THE sha256 OF THE DUMP (.gsa) THAT YtaboppkelafoaaaProg.lean LOADS. Nothing in Lean hashes anything: it is a label: what it is worth is what the hold of that sum in a sandbox is worth. -/
noncomputable def Try.pinned : Pinned := { name := "ytaboppkelafoaaa", sum := "7fe98335d3243ae8aff0544d464828908643cce1b00a86df1751bc757fcd2a4d", checked := Try.checked }
namespace Rows
def none {H : Type} : Left H := { results := [], args := [] }

/-- 'palletlaw11.InqKeeps': WHATEVER THE INPUT: true; the input reads as it did. -/
def inqKeepsSpec : ChangeSpec := { name := "inqKeeps", fn := fun _ => fun
  | [d1, d2] => { results := [.lit (.bool true)], args := [d1, d2] }
  | _ => none }
def inqKeepsRow : OpenClaim := { program := "ytaboppkelafoaaa", sum := "7fe98335d3243ae8aff0544d464828908643cce1b00a86df1751bc757fcd2a4d", func := "pallet/palletlaw11.InqKeeps", spec := "inqKeeps", apart := false }
def InqKeepsSaid : Prop := inqKeepsRow.holds Try.pinned (OpenSpec.ofChange inqKeepsSpec)

/-- ITS FALSE NEIGHBOUR: 'it returns false'. Refute it at one input. -/
def inqKeepsWrong : ChangeSpec := { name := "inqKeeps", fn := fun _ => fun
  | [d1, d2] => { results := [.lit (.bool false)], args := [d1, d2] }
  | _ => none }
def InqKeepsWrongFalsely : Prop := inqKeepsRow.holds Try.pinned (OpenSpec.ofChange inqKeepsWrong)

/-- 'palletlaw11.InqLists': WHATEVER THE INPUT: true; the input reads as it did. -/
def inqListsSpec : ChangeSpec := { name := "inqLists", fn := fun _ => fun
  | [d1, d2, d3] => { results := [.lit (.bool true)], args := [d1, d2, d3] }
  | _ => none }
def inqListsRow : OpenClaim := { program := "ytaboppkelafoaaa", sum := "7fe98335d3243ae8aff0544d464828908643cce1b00a86df1751bc757fcd2a4d", func := "pallet/palletlaw11.InqLists", spec := "inqLists", apart := false }
def InqListsSaid : Prop := inqListsRow.holds Try.pinned (OpenSpec.ofChange inqListsSpec)

/-- ITS FALSE NEIGHBOUR: 'it returns false'. Refute it at one input. -/
def inqListsWrong : ChangeSpec := { name := "inqLists", fn := fun _ => fun
  | [d1, d2, d3] => { results := [.lit (.bool false)], args := [d1, d2, d3] }
  | _ => none }
def InqListsWrongFalsely : Prop := inqListsRow.holds Try.pinned (OpenSpec.ofChange inqListsWrong)

/-- 'palletlaw11.InqPages': WHATEVER THE INPUT: true; the input reads as it did. -/
def inqPagesSpec : ChangeSpec := { name := "inqPages", fn := fun _ => fun
  | [d1, d2] => { results := [.lit (.bool true)], args := [d1, d2] }
  | _ => none }
def inqPagesRow : OpenClaim := { program := "ytaboppkelafoaaa", sum := "7fe98335d3243ae8aff0544d464828908643cce1b00a86df1751bc757fcd2a4d", func := "pallet/palletlaw11.InqPages", spec := "inqPages", apart := false }
def InqPagesSaid : Prop := inqPagesRow.holds Try.pinned (OpenSpec.ofChange inqPagesSpec)

/-- ITS FALSE NEIGHBOUR: 'it returns false'. Refute it at one input. -/
def inqPagesWrong : ChangeSpec := { name := "inqPages", fn := fun _ => fun
  | [d1, d2] => { results := [.lit (.bool false)], args := [d1, d2] }
  | _ => none }
def InqPagesWrongFalsely : Prop := inqPagesRow.holds Try.pinned (OpenSpec.ofChange inqPagesWrong)

/-- 'palletlaw11.InqSupports': WHATEVER THE INPUT: true; the input reads as it did. -/
def inqSupportsSpec : ChangeSpec := { name := "inqSupports", fn := fun _ => fun
  | [d] => { results := [.lit (.bool true)], args := [d] }
  | _ => none }
def inqSupportsRow : OpenClaim := { program := "ytaboppkelafoaaa", sum := "7fe98335d3243ae8aff0544d464828908643cce1b00a86df1751bc757fcd2a4d", func := "pallet/palletlaw11.InqSupports", spec := "inqSupports", apart := false }
def InqSupportsSaid : Prop := inqSupportsRow.holds Try.pinned (OpenSpec.ofChange inqSupportsSpec)

/-- ITS FALSE NEIGHBOUR: 'it returns false'. Refute it at one input. -/
def inqSupportsWrong : ChangeSpec := { name := "inqSupports", fn := fun _ => fun
  | [d] => { results := [.lit (.bool false)], args := [d] }
  | _ => none }
def InqSupportsWrongFalsely : Prop := inqSupportsRow.holds Try.pinned (OpenSpec.ofChange inqSupportsWrong)

/- THE SECOND FORM. 'bulk': how many values and letters a reading holds, each counted each time it is reached (what is shared counts as often as it is met; a slice's spare places count too). A statement '..UptoSaid' is the law's where the arguments, and the package variables that the reading takes, are together of bulk at most 1048576: NARROWER than '..Said'. Prove '..Said' where nothing that the law and all that it calls make is longer than what came in: it says more and counts as full. Else prove '..UptoSaid'. A law counts once. -/
mutual
def uptoBulk {H : Type} : DataW H → Nat
  | .lit (.string bytes) => bytes.length + 1
  | .lit _ => 1
  | .nil => 1
  | .ptr d => uptoBulk d + 1
  | .slice elems spare => uptoBulkAll elems + uptoBulkAll spare + 1
  | .agg parts => uptoBulkAll parts + 1
  | .iface _ d => uptoBulk d + 1
  | .map entries => uptoBulkEntries entries + 1
  | .held _ => 1
def uptoBulkAll {H : Type} : List (DataW H) → Nat
  | [] => 0
  | d :: r => uptoBulk d + uptoBulkAll r
def uptoBulkEntries {H : Type} : List (Lit × DataW H) → Nat
  | [] => 0
  | x :: r => uptoBulkEntry x + uptoBulkEntries r
def uptoBulkEntry {H : Type} : Lit × DataW H → Nat
  | (.string bytes, d) => bytes.length + uptoBulk d + 1
  | (_, d) => uptoBulk d + 1
 end
def uptoSmall : (H : Type) → List (DataW H) → Bool := fun _ ds => decide (uptoBulkAll ds ≤ 1048576)
def OpenSpec.upto (s : _root_.Go.ChangeSpec) : _root_.Go.OpenSpec := { _root_.Go.OpenSpec.ofChange s with cond := some uptoSmall }

/-- 'palletlaw11.InqKeeps', WHERE WHAT IT READS IS OF BULK AT MOST 1048576: true; the input reads as it did. -/
def inqKeepsUptoRow : OpenClaim := { program := "ytaboppkelafoaaa", sum := "7fe98335d3243ae8aff0544d464828908643cce1b00a86df1751bc757fcd2a4d", func := "pallet/palletlaw11.InqKeeps", spec := "inqKeeps", apart := false, narrowed := true }
def InqKeepsUptoSaid : Prop := inqKeepsUptoRow.holds Try.pinned (OpenSpec.upto inqKeepsSpec)

/-- 'palletlaw11.InqLists', WHERE WHAT IT READS IS OF BULK AT MOST 1048576: true; the input reads as it did. -/
def inqListsUptoRow : OpenClaim := { program := "ytaboppkelafoaaa", sum := "7fe98335d3243ae8aff0544d464828908643cce1b00a86df1751bc757fcd2a4d", func := "pallet/palletlaw11.InqLists", spec := "inqLists", apart := false, narrowed := true }
def InqListsUptoSaid : Prop := inqListsUptoRow.holds Try.pinned (OpenSpec.upto inqListsSpec)

/-- 'palletlaw11.InqPages', WHERE WHAT IT READS IS OF BULK AT MOST 1048576: true; the input reads as it did. -/
def inqPagesUptoRow : OpenClaim := { program := "ytaboppkelafoaaa", sum := "7fe98335d3243ae8aff0544d464828908643cce1b00a86df1751bc757fcd2a4d", func := "pallet/palletlaw11.InqPages", spec := "inqPages", apart := false, narrowed := true }
def InqPagesUptoSaid : Prop := inqPagesUptoRow.holds Try.pinned (OpenSpec.upto inqPagesSpec)

/-- 'palletlaw11.InqSupports', WHERE WHAT IT READS IS OF BULK AT MOST 1048576: true; the input reads as it did. -/
def inqSupportsUptoRow : OpenClaim := { program := "ytaboppkelafoaaa", sum := "7fe98335d3243ae8aff0544d464828908643cce1b00a86df1751bc757fcd2a4d", func := "pallet/palletlaw11.InqSupports", spec := "inqSupports", apart := false, narrowed := true }
def InqSupportsUptoSaid : Prop := inqSupportsUptoRow.holds Try.pinned (OpenSpec.upto inqSupportsSpec)

end Rows
end Go.Proofs.Ytaboppkelafoaaa
