/-
  No cell of these rows narrows 'for every input' (looked for: loops, veiled, ifaces, maps, wideKeys, modest, calm, conditions, laid).
  DERIVED. THE GIVEN ROWS OF THIS SEAT. 8 by the template 'for every input the law returns true; each argument reads behind the call as it read before'; 0 by the template 'total and deterministic' (their statements: YtihkghfmihdicaaTotals.lean).
  GIVEN WITH THE SEED: the statements are not yours to turn. If you find one false, say at which input.
  Laid BY PROGRAM, IN A SANDBOX (cutbox-rows.mjs): the forced cells as the released guide's own fill.sh prints them over the translation f9448b754704d04e… (all of the seat's roots in one cut). By AI agents, Wed Nov 11 2026. No macro, syntax, notation, axiom, sorry.
-/
import Derived.Test.YtihkghfmihdicaaChecked
import GoSem.Claim
import GoSem.ClaimJoined
import GoSem.ClaimMapViews
import Derived.JoinedTies
import Derived.KernelRfl
namespace Go.Proofs.Ytihkghfmihdicaa
/- THE CELL 'sum', in the pinned program and in every row, IS THE sha256 OF THE DUMP (.gsa) THAT YtihkghfmihdicaaProg.lean LOADS. Nothing in Lean hashes anything: it is a label: what it is worth is what the hold of that sum in a sandbox is worth. -/
noncomputable def Try.pinned : Pinned := { name := "ytihkghfmihdicaa", sum := "f9448b754704d04ed98e40e855eea6fcb436da051dc1d527b9346cc0386c745b", checked := Try.checked }
namespace Rows
def none {H : Type} : Left H := { results := [], args := [] }

/-- 'palletlaw10.PrClears': WHATEVER THE INPUT: true; the input reads as it did. -/
def prClearsSpec : ChangeSpec := { name := "prClears", fn := fun _ => fun
  | [d1, d2] => { results := [.lit (.bool true)], args := [d1, d2] }
  | _ => none }
def prClearsRow : OpenClaim := { program := "ytihkghfmihdicaa", sum := "f9448b754704d04ed98e40e855eea6fcb436da051dc1d527b9346cc0386c745b", func := "pallet/palletlaw10.PrClears", spec := "prClears", apart := false }
def PrClearsSaid : Prop := prClearsRow.holds Try.pinned (OpenSpec.ofChange prClearsSpec)

/-- ITS FALSE NEIGHBOUR: 'it returns false'. Refute it at one input. -/
def prClearsWrong : ChangeSpec := { name := "prClears", fn := fun _ => fun
  | [d1, d2] => { results := [.lit (.bool false)], args := [d1, d2] }
  | _ => none }
def PrClearsWrongFalsely : Prop := prClearsRow.holds Try.pinned (OpenSpec.ofChange prClearsWrong)

/-- 'palletlaw10.PrHolders': WHATEVER THE INPUT: true; the input reads as it did. -/
def prHoldersSpec : ChangeSpec := { name := "prHolders", fn := fun _ => fun
  | [d] => { results := [.lit (.bool true)], args := [d] }
  | _ => none }
def prHoldersRow : OpenClaim := { program := "ytihkghfmihdicaa", sum := "f9448b754704d04ed98e40e855eea6fcb436da051dc1d527b9346cc0386c745b", func := "pallet/palletlaw10.PrHolders", spec := "prHolders", apart := false }
def PrHoldersSaid : Prop := prHoldersRow.holds Try.pinned (OpenSpec.ofChange prHoldersSpec)

/-- ITS FALSE NEIGHBOUR: 'it returns false'. Refute it at one input. -/
def prHoldersWrong : ChangeSpec := { name := "prHolders", fn := fun _ => fun
  | [d] => { results := [.lit (.bool false)], args := [d] }
  | _ => none }
def PrHoldersWrongFalsely : Prop := prHoldersRow.holds Try.pinned (OpenSpec.ofChange prHoldersWrong)

/-- 'palletlaw10.PrReserves': WHATEVER THE INPUT: true; the input reads as it did. -/
def prReservesSpec : ChangeSpec := { name := "prReserves", fn := fun _ => fun
  | [d1, d2, d3] => { results := [.lit (.bool true)], args := [d1, d2, d3] }
  | _ => none }
def prReservesRow : OpenClaim := { program := "ytihkghfmihdicaa", sum := "f9448b754704d04ed98e40e855eea6fcb436da051dc1d527b9346cc0386c745b", func := "pallet/palletlaw10.PrReserves", spec := "prReserves", apart := false }
def PrReservesSaid : Prop := prReservesRow.holds Try.pinned (OpenSpec.ofChange prReservesSpec)

/-- ITS FALSE NEIGHBOUR: 'it returns false'. Refute it at one input. -/
def prReservesWrong : ChangeSpec := { name := "prReserves", fn := fun _ => fun
  | [d1, d2, d3] => { results := [.lit (.bool false)], args := [d1, d2, d3] }
  | _ => none }
def PrReservesWrongFalsely : Prop := prReservesRow.holds Try.pinned (OpenSpec.ofChange prReservesWrong)

/-- 'palletlaw10.PrPreempts': WHATEVER THE INPUT: true; the input reads as it did. -/
def prPreemptsSpec : ChangeSpec := { name := "prPreempts", fn := fun _ => fun
  | [d1, d2, d3, d4, d5] => { results := [.lit (.bool true)], args := [d1, d2, d3, d4, d5] }
  | _ => none }
def prPreemptsRow : OpenClaim := { program := "ytihkghfmihdicaa", sum := "f9448b754704d04ed98e40e855eea6fcb436da051dc1d527b9346cc0386c745b", func := "pallet/palletlaw10.PrPreempts", spec := "prPreempts", apart := false }
def PrPreemptsSaid : Prop := prPreemptsRow.holds Try.pinned (OpenSpec.ofChange prPreemptsSpec)

/-- ITS FALSE NEIGHBOUR: 'it returns false'. Refute it at one input. -/
def prPreemptsWrong : ChangeSpec := { name := "prPreempts", fn := fun _ => fun
  | [d1, d2, d3, d4, d5] => { results := [.lit (.bool false)], args := [d1, d2, d3, d4, d5] }
  | _ => none }
def PrPreemptsWrongFalsely : Prop := prPreemptsRow.holds Try.pinned (OpenSpec.ofChange prPreemptsWrong)

/-- 'palletlaw10.PrKeeps': WHATEVER THE INPUT: true; the input reads as it did. -/
def prKeepsSpec : ChangeSpec := { name := "prKeeps", fn := fun _ => fun
  | [d1, d2] => { results := [.lit (.bool true)], args := [d1, d2] }
  | _ => none }
def prKeepsRow : OpenClaim := { program := "ytihkghfmihdicaa", sum := "f9448b754704d04ed98e40e855eea6fcb436da051dc1d527b9346cc0386c745b", func := "pallet/palletlaw10.PrKeeps", spec := "prKeeps", apart := false }
def PrKeepsSaid : Prop := prKeepsRow.holds Try.pinned (OpenSpec.ofChange prKeepsSpec)

/-- ITS FALSE NEIGHBOUR: 'it returns false'. Refute it at one input. -/
def prKeepsWrong : ChangeSpec := { name := "prKeeps", fn := fun _ => fun
  | [d1, d2] => { results := [.lit (.bool false)], args := [d1, d2] }
  | _ => none }
def PrKeepsWrongFalsely : Prop := prKeepsRow.holds Try.pinned (OpenSpec.ofChange prKeepsWrong)

/-- 'palletlaw10.PrSaves': WHATEVER THE INPUT: true; the input reads as it did. -/
def prSavesSpec : ChangeSpec := { name := "prSaves", fn := fun _ => fun
  | [d1, d2] => { results := [.lit (.bool true)], args := [d1, d2] }
  | _ => none }
def prSavesRow : OpenClaim := { program := "ytihkghfmihdicaa", sum := "f9448b754704d04ed98e40e855eea6fcb436da051dc1d527b9346cc0386c745b", func := "pallet/palletlaw10.PrSaves", spec := "prSaves", apart := false }
def PrSavesSaid : Prop := prSavesRow.holds Try.pinned (OpenSpec.ofChange prSavesSpec)

/-- ITS FALSE NEIGHBOUR: 'it returns false'. Refute it at one input. -/
def prSavesWrong : ChangeSpec := { name := "prSaves", fn := fun _ => fun
  | [d1, d2] => { results := [.lit (.bool false)], args := [d1, d2] }
  | _ => none }
def PrSavesWrongFalsely : Prop := prSavesRow.holds Try.pinned (OpenSpec.ofChange prSavesWrong)

/-- 'palletlaw10.PrPlays': WHATEVER THE INPUT: true; the input reads as it did. -/
def prPlaysSpec : ChangeSpec := { name := "prPlays", fn := fun _ => fun
  | [d] => { results := [.lit (.bool true)], args := [d] }
  | _ => none }
def prPlaysRow : OpenClaim := { program := "ytihkghfmihdicaa", sum := "f9448b754704d04ed98e40e855eea6fcb436da051dc1d527b9346cc0386c745b", func := "pallet/palletlaw10.PrPlays", spec := "prPlays", apart := false }
def PrPlaysSaid : Prop := prPlaysRow.holds Try.pinned (OpenSpec.ofChange prPlaysSpec)

/-- ITS FALSE NEIGHBOUR: 'it returns false'. Refute it at one input. -/
def prPlaysWrong : ChangeSpec := { name := "prPlays", fn := fun _ => fun
  | [d] => { results := [.lit (.bool false)], args := [d] }
  | _ => none }
def PrPlaysWrongFalsely : Prop := prPlaysRow.holds Try.pinned (OpenSpec.ofChange prPlaysWrong)

/-- 'palletlaw10.PrLoads': WHATEVER THE INPUT: true; the input reads as it did. -/
def prLoadsSpec : ChangeSpec := { name := "prLoads", fn := fun _ => fun
  | [d] => { results := [.lit (.bool true)], args := [d] }
  | _ => none }
def prLoadsRow : OpenClaim := { program := "ytihkghfmihdicaa", sum := "f9448b754704d04ed98e40e855eea6fcb436da051dc1d527b9346cc0386c745b", func := "pallet/palletlaw10.PrLoads", spec := "prLoads", apart := false }
def PrLoadsSaid : Prop := prLoadsRow.holds Try.pinned (OpenSpec.ofChange prLoadsSpec)

/-- ITS FALSE NEIGHBOUR: 'it returns false'. Refute it at one input. -/
def prLoadsWrong : ChangeSpec := { name := "prLoads", fn := fun _ => fun
  | [d] => { results := [.lit (.bool false)], args := [d] }
  | _ => none }
def PrLoadsWrongFalsely : Prop := prLoadsRow.holds Try.pinned (OpenSpec.ofChange prLoadsWrong)

/- THE SECOND FORM. 'bulk': how many values and letters a reading holds, each counted each time it is reached (what is shared counts as often as it is met; a slice's spare places count too). A statement '..UptoSaid' is the law's where the arguments, and the package variables that the reading takes, are together of bulk at most 1048576: NARROWER than '..Said'. Prove '..Said' where nothing that the law and all that it calls make is longer than what came in: it says more and counts as full. Else prove '..UptoSaid'. A law counts once. -/
mutual
def uptoBulk {H : Type} : DataW H → Nat
  | .lit (.string bytes) => bytes.length + 1
  | .lit _ => 1
  | .nil => 1
  | .ptr d => uptoBulk d + 1
  | .slice elems spare => uptoBulkAll elems + uptoBulkAll spare + 1
  | .agg parts => uptoBulkAll parts + 1
  | .iface _ d => uptoBulk d + 1
  | .map entries => uptoBulkEntries entries + 1
  | .held _ => 1
def uptoBulkAll {H : Type} : List (DataW H) → Nat
  | [] => 0
  | d :: r => uptoBulk d + uptoBulkAll r
def uptoBulkEntries {H : Type} : List (Lit × DataW H) → Nat
  | [] => 0
  | x :: r => uptoBulkEntry x + uptoBulkEntries r
def uptoBulkEntry {H : Type} : Lit × DataW H → Nat
  | (.string bytes, d) => bytes.length + uptoBulk d + 1
  | (_, d) => uptoBulk d + 1
 end
def uptoSmall : (H : Type) → List (DataW H) → Bool := fun _ ds => decide (uptoBulkAll ds ≤ 1048576)
def OpenSpec.upto (s : _root_.Go.ChangeSpec) : _root_.Go.OpenSpec := { _root_.Go.OpenSpec.ofChange s with cond := some uptoSmall }

/-- 'palletlaw10.PrClears', WHERE WHAT IT READS IS OF BULK AT MOST 1048576: true; the input reads as it did. -/
def prClearsUptoRow : OpenClaim := { program := "ytihkghfmihdicaa", sum := "f9448b754704d04ed98e40e855eea6fcb436da051dc1d527b9346cc0386c745b", func := "pallet/palletlaw10.PrClears", spec := "prClears", apart := false, narrowed := true }
def PrClearsUptoSaid : Prop := prClearsUptoRow.holds Try.pinned (OpenSpec.upto prClearsSpec)

/-- 'palletlaw10.PrHolders', WHERE WHAT IT READS IS OF BULK AT MOST 1048576: true; the input reads as it did. -/
def prHoldersUptoRow : OpenClaim := { program := "ytihkghfmihdicaa", sum := "f9448b754704d04ed98e40e855eea6fcb436da051dc1d527b9346cc0386c745b", func := "pallet/palletlaw10.PrHolders", spec := "prHolders", apart := false, narrowed := true }
def PrHoldersUptoSaid : Prop := prHoldersUptoRow.holds Try.pinned (OpenSpec.upto prHoldersSpec)

/-- 'palletlaw10.PrReserves', WHERE WHAT IT READS IS OF BULK AT MOST 1048576: true; the input reads as it did. -/
def prReservesUptoRow : OpenClaim := { program := "ytihkghfmihdicaa", sum := "f9448b754704d04ed98e40e855eea6fcb436da051dc1d527b9346cc0386c745b", func := "pallet/palletlaw10.PrReserves", spec := "prReserves", apart := false, narrowed := true }
def PrReservesUptoSaid : Prop := prReservesUptoRow.holds Try.pinned (OpenSpec.upto prReservesSpec)

/-- 'palletlaw10.PrPreempts', WHERE WHAT IT READS IS OF BULK AT MOST 1048576: true; the input reads as it did. -/
def prPreemptsUptoRow : OpenClaim := { program := "ytihkghfmihdicaa", sum := "f9448b754704d04ed98e40e855eea6fcb436da051dc1d527b9346cc0386c745b", func := "pallet/palletlaw10.PrPreempts", spec := "prPreempts", apart := false, narrowed := true }
def PrPreemptsUptoSaid : Prop := prPreemptsUptoRow.holds Try.pinned (OpenSpec.upto prPreemptsSpec)

/-- 'palletlaw10.PrKeeps', WHERE WHAT IT READS IS OF BULK AT MOST 1048576: true; the input reads as it did. -/
def prKeepsUptoRow : OpenClaim := { program := "ytihkghfmihdicaa", sum := "f9448b754704d04ed98e40e855eea6fcb436da051dc1d527b9346cc0386c745b", func := "pallet/palletlaw10.PrKeeps", spec := "prKeeps", apart := false, narrowed := true }
def PrKeepsUptoSaid : Prop := prKeepsUptoRow.holds Try.pinned (OpenSpec.upto prKeepsSpec)

/-- 'palletlaw10.PrSaves', WHERE WHAT IT READS IS OF BULK AT MOST 1048576: true; the input reads as it did. -/
def prSavesUptoRow : OpenClaim := { program := "ytihkghfmihdicaa", sum := "f9448b754704d04ed98e40e855eea6fcb436da051dc1d527b9346cc0386c745b", func := "pallet/palletlaw10.PrSaves", spec := "prSaves", apart := false, narrowed := true }
def PrSavesUptoSaid : Prop := prSavesUptoRow.holds Try.pinned (OpenSpec.upto prSavesSpec)

/-- 'palletlaw10.PrPlays', WHERE WHAT IT READS IS OF BULK AT MOST 1048576: true; the input reads as it did. -/
def prPlaysUptoRow : OpenClaim := { program := "ytihkghfmihdicaa", sum := "f9448b754704d04ed98e40e855eea6fcb436da051dc1d527b9346cc0386c745b", func := "pallet/palletlaw10.PrPlays", spec := "prPlays", apart := false, narrowed := true }
def PrPlaysUptoSaid : Prop := prPlaysUptoRow.holds Try.pinned (OpenSpec.upto prPlaysSpec)

/-- 'palletlaw10.PrLoads', WHERE WHAT IT READS IS OF BULK AT MOST 1048576: true; the input reads as it did. -/
def prLoadsUptoRow : OpenClaim := { program := "ytihkghfmihdicaa", sum := "f9448b754704d04ed98e40e855eea6fcb436da051dc1d527b9346cc0386c745b", func := "pallet/palletlaw10.PrLoads", spec := "prLoads", apart := false, narrowed := true }
def PrLoadsUptoSaid : Prop := prLoadsUptoRow.holds Try.pinned (OpenSpec.upto prLoadsSpec)

end Rows
end Go.Proofs.Ytihkghfmihdicaa
