/-
  No cell of these rows narrows 'for every input' (looked for: loops, veiled, ifaces, maps, wideKeys, modest, calm, conditions, laid).
  DERIVED. THE GIVEN ROWS OF THIS SEAT. 4 by the template 'for every input the law returns true; each argument reads behind the call as it read before'; 0 by the template 'total and deterministic' (their statements: YtbbdggmnjkkjkaaTotals.lean).
  GIVEN WITH THE SEED: the statements are not yours to turn. If you find one false, say at which input.
  Laid BY PROGRAM, IN A SANDBOX (cutbox-rows.mjs): the forced cells as the released guide's own fill.sh prints them over the translation 66c150c6cce0a42e… (all of the seat's roots in one cut). By AI agents, Wed Nov 11 2026. No macro, syntax, notation, axiom, sorry.
-/
import Derived.Test.YtbbdggmnjkkjkaaChecked
import GoSem.Claim
import GoSem.ClaimJoined
import GoSem.ClaimMapViews
import Derived.JoinedTies
import Derived.KernelRfl
namespace Go.Proofs.Ytbbdggmnjkkjkaa
/- THE CELL 'sum', in the pinned program and in every row, IS THE sha256 OF THE DUMP (.gsa) THAT YtbbdggmnjkkjkaaProg.lean LOADS. Nothing in Lean hashes anything: it is a label: what it is worth is what the hold of that sum in a sandbox is worth. -/
noncomputable def Try.pinned : Pinned := { name := "ytbbdggmnjkkjkaa", sum := "66c150c6cce0a42e17485330e5eb2ae94c079fd7ae4f4bc5cb14f9e1e32c753a", checked := Try.checked }
namespace Rows
def none {H : Type} : Left H := { results := [], args := [] }

/-- 'palletlaw13.PiMakes': WHATEVER THE INPUT: true; the input reads as it did. -/
def piMakesSpec : ChangeSpec := { name := "piMakes", fn := fun _ => fun
  | [d1, d2, d3, d4] => { results := [.lit (.bool true)], args := [d1, d2, d3, d4] }
  | _ => none }
def piMakesRow : OpenClaim := { program := "ytbbdggmnjkkjkaa", sum := "66c150c6cce0a42e17485330e5eb2ae94c079fd7ae4f4bc5cb14f9e1e32c753a", func := "pallet/palletlaw13.PiMakes", spec := "piMakes", apart := false }
def PiMakesSaid : Prop := piMakesRow.holds Try.pinned (OpenSpec.ofChange piMakesSpec)

/-- ITS FALSE NEIGHBOUR: 'it returns false'. Refute it at one input. -/
def piMakesWrong : ChangeSpec := { name := "piMakes", fn := fun _ => fun
  | [d1, d2, d3, d4] => { results := [.lit (.bool false)], args := [d1, d2, d3, d4] }
  | _ => none }
def PiMakesWrongFalsely : Prop := piMakesRow.holds Try.pinned (OpenSpec.ofChange piMakesWrong)

/-- 'palletlaw13.PiHonest': WHATEVER THE INPUT: true; the input reads as it did. -/
def piHonestSpec : ChangeSpec := { name := "piHonest", fn := fun _ => fun
  | [d1, d2, d3, d4, d5, d6, d7] => { results := [.lit (.bool true)], args := [d1, d2, d3, d4, d5, d6, d7] }
  | _ => none }
def piHonestRow : OpenClaim := { program := "ytbbdggmnjkkjkaa", sum := "66c150c6cce0a42e17485330e5eb2ae94c079fd7ae4f4bc5cb14f9e1e32c753a", func := "pallet/palletlaw13.PiHonest", spec := "piHonest", apart := false }
def PiHonestSaid : Prop := piHonestRow.holds Try.pinned (OpenSpec.ofChange piHonestSpec)

/-- ITS FALSE NEIGHBOUR: 'it returns false'. Refute it at one input. -/
def piHonestWrong : ChangeSpec := { name := "piHonest", fn := fun _ => fun
  | [d1, d2, d3, d4, d5, d6, d7] => { results := [.lit (.bool false)], args := [d1, d2, d3, d4, d5, d6, d7] }
  | _ => none }
def PiHonestWrongFalsely : Prop := piHonestRow.holds Try.pinned (OpenSpec.ofChange piHonestWrong)

/-- 'palletlaw13.PiPacks': WHATEVER THE INPUT: true; the input reads as it did. -/
def piPacksSpec : ChangeSpec := { name := "piPacks", fn := fun _ => fun
  | [d1, d2, d3] => { results := [.lit (.bool true)], args := [d1, d2, d3] }
  | _ => none }
def piPacksRow : OpenClaim := { program := "ytbbdggmnjkkjkaa", sum := "66c150c6cce0a42e17485330e5eb2ae94c079fd7ae4f4bc5cb14f9e1e32c753a", func := "pallet/palletlaw13.PiPacks", spec := "piPacks", apart := false }
def PiPacksSaid : Prop := piPacksRow.holds Try.pinned (OpenSpec.ofChange piPacksSpec)

/-- ITS FALSE NEIGHBOUR: 'it returns false'. Refute it at one input. -/
def piPacksWrong : ChangeSpec := { name := "piPacks", fn := fun _ => fun
  | [d1, d2, d3] => { results := [.lit (.bool false)], args := [d1, d2, d3] }
  | _ => none }
def PiPacksWrongFalsely : Prop := piPacksRow.holds Try.pinned (OpenSpec.ofChange piPacksWrong)

/-- 'palletlaw13.PiBack': WHATEVER THE INPUT: true; the input reads as it did. -/
def piBackSpec : ChangeSpec := { name := "piBack", fn := fun _ => fun
  | [d1, d2] => { results := [.lit (.bool true)], args := [d1, d2] }
  | _ => none }
def piBackRow : OpenClaim := { program := "ytbbdggmnjkkjkaa", sum := "66c150c6cce0a42e17485330e5eb2ae94c079fd7ae4f4bc5cb14f9e1e32c753a", func := "pallet/palletlaw13.PiBack", spec := "piBack", apart := false }
def PiBackSaid : Prop := piBackRow.holds Try.pinned (OpenSpec.ofChange piBackSpec)

/-- ITS FALSE NEIGHBOUR: 'it returns false'. Refute it at one input. -/
def piBackWrong : ChangeSpec := { name := "piBack", fn := fun _ => fun
  | [d1, d2] => { results := [.lit (.bool false)], args := [d1, d2] }
  | _ => none }
def PiBackWrongFalsely : Prop := piBackRow.holds Try.pinned (OpenSpec.ofChange piBackWrong)

/- THE SECOND FORM. 'bulk': how many values and letters a reading holds, each counted each time it is reached (what is shared counts as often as it is met; a slice's spare places count too). A statement '..UptoSaid' is the law's where the arguments, and the package variables that the reading takes, are together of bulk at most 1048576: NARROWER than '..Said'. Prove '..Said' where nothing that the law and all that it calls make is longer than what came in: it says more and counts as full. Else prove '..UptoSaid'. A law counts once. -/
mutual
def uptoBulk {H : Type} : DataW H → Nat
  | .lit (.string bytes) => bytes.length + 1
  | .lit _ => 1
  | .nil => 1
  | .ptr d => uptoBulk d + 1
  | .slice elems spare => uptoBulkAll elems + uptoBulkAll spare + 1
  | .agg parts => uptoBulkAll parts + 1
  | .iface _ d => uptoBulk d + 1
  | .map entries => uptoBulkEntries entries + 1
  | .held _ => 1
def uptoBulkAll {H : Type} : List (DataW H) → Nat
  | [] => 0
  | d :: r => uptoBulk d + uptoBulkAll r
def uptoBulkEntries {H : Type} : List (Lit × DataW H) → Nat
  | [] => 0
  | x :: r => uptoBulkEntry x + uptoBulkEntries r
def uptoBulkEntry {H : Type} : Lit × DataW H → Nat
  | (.string bytes, d) => bytes.length + uptoBulk d + 1
  | (_, d) => uptoBulk d + 1
 end
def uptoSmall : (H : Type) → List (DataW H) → Bool := fun _ ds => decide (uptoBulkAll ds ≤ 1048576)
def OpenSpec.upto (s : _root_.Go.ChangeSpec) : _root_.Go.OpenSpec := { _root_.Go.OpenSpec.ofChange s with cond := some uptoSmall }

/-- 'palletlaw13.PiMakes', WHERE WHAT IT READS IS OF BULK AT MOST 1048576: true; the input reads as it did. -/
def piMakesUptoRow : OpenClaim := { program := "ytbbdggmnjkkjkaa", sum := "66c150c6cce0a42e17485330e5eb2ae94c079fd7ae4f4bc5cb14f9e1e32c753a", func := "pallet/palletlaw13.PiMakes", spec := "piMakes", apart := false, narrowed := true }
def PiMakesUptoSaid : Prop := piMakesUptoRow.holds Try.pinned (OpenSpec.upto piMakesSpec)

/-- 'palletlaw13.PiHonest', WHERE WHAT IT READS IS OF BULK AT MOST 1048576: true; the input reads as it did. -/
def piHonestUptoRow : OpenClaim := { program := "ytbbdggmnjkkjkaa", sum := "66c150c6cce0a42e17485330e5eb2ae94c079fd7ae4f4bc5cb14f9e1e32c753a", func := "pallet/palletlaw13.PiHonest", spec := "piHonest", apart := false, narrowed := true }
def PiHonestUptoSaid : Prop := piHonestUptoRow.holds Try.pinned (OpenSpec.upto piHonestSpec)

/-- 'palletlaw13.PiPacks', WHERE WHAT IT READS IS OF BULK AT MOST 1048576: true; the input reads as it did. -/
def piPacksUptoRow : OpenClaim := { program := "ytbbdggmnjkkjkaa", sum := "66c150c6cce0a42e17485330e5eb2ae94c079fd7ae4f4bc5cb14f9e1e32c753a", func := "pallet/palletlaw13.PiPacks", spec := "piPacks", apart := false, narrowed := true }
def PiPacksUptoSaid : Prop := piPacksUptoRow.holds Try.pinned (OpenSpec.upto piPacksSpec)

/-- 'palletlaw13.PiBack', WHERE WHAT IT READS IS OF BULK AT MOST 1048576: true; the input reads as it did. -/
def piBackUptoRow : OpenClaim := { program := "ytbbdggmnjkkjkaa", sum := "66c150c6cce0a42e17485330e5eb2ae94c079fd7ae4f4bc5cb14f9e1e32c753a", func := "pallet/palletlaw13.PiBack", spec := "piBack", apart := false, narrowed := true }
def PiBackUptoSaid : Prop := piBackUptoRow.holds Try.pinned (OpenSpec.upto piBackSpec)

end Rows
end Go.Proofs.Ytbbdggmnjkkjkaa
