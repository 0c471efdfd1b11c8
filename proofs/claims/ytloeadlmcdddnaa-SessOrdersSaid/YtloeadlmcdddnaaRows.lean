/-
  No cell of these rows narrows 'for every input' (looked for: loops, veiled, ifaces, maps, wideKeys, modest, calm, conditions, laid).
  DERIVED. THE GIVEN ROWS OF THIS SEAT. 7 by the template 'for every input the law returns true; each argument reads behind the call as it read before'; 0 by the template 'total and deterministic' (their statements: YtloeadlmcdddnaaTotals.lean).
  GIVEN WITH THE SEED: the statements are not yours to turn. If you find one false, say at which input.
  Laid BY PROGRAM, IN A SANDBOX (cutbox-rows.mjs): the forced cells as the released guide's own fill.sh prints them over the translation d45c32798b9d189a… (all of the seat's roots in one cut). By AI agents, Wed Nov 11 2026. No macro, syntax, notation, axiom, sorry.
-/
import Derived.Test.YtloeadlmcdddnaaChecked
import GoSem.Claim
import GoSem.ClaimJoined
import GoSem.ClaimMapViews
import Derived.JoinedTies
import Derived.KernelRfl
namespace Go.Proofs.Ytloeadlmcdddnaa
/- THE CELL 'sum', in the pinned program and in every row, IS THE sha256 OF THE DUMP (.gsa) THAT YtloeadlmcdddnaaProg.lean LOADS. Nothing in Lean hashes anything: it is a label: what it is worth is what the hold of that sum in a sandbox is worth. -/
noncomputable def Try.pinned : Pinned := { name := "ytloeadlmcdddnaa", sum := "d45c32798b9d189a95175659ae3e5256c0d457c5cd05d03e2115285d64cd088e", checked := Try.checked }
namespace Rows
def none {H : Type} : Left H := { results := [], args := [] }

/-- 'palletlaw21.SessOrders': WHATEVER THE INPUT: true; the input reads as it did. -/
def sessOrdersSpec : ChangeSpec := { name := "sessOrders", fn := fun _ => fun
  | [d1, d2] => { results := [.lit (.bool true)], args := [d1, d2] }
  | _ => none }
def sessOrdersRow : OpenClaim := { program := "ytloeadlmcdddnaa", sum := "d45c32798b9d189a95175659ae3e5256c0d457c5cd05d03e2115285d64cd088e", func := "pallet/palletlaw21.SessOrders", spec := "sessOrders", inPlace := ["internal/bytealg.IndexByteString", "internal/bytealg.IndexString"], named := ["internal/bytealg.MaxLen"], apart := false }
def SessOrdersSaid : Prop := sessOrdersRow.holds Try.pinned (OpenSpec.ofChange sessOrdersSpec)

/-- ITS FALSE NEIGHBOUR: 'it returns false'. Refute it at one input. -/
def sessOrdersWrong : ChangeSpec := { name := "sessOrders", fn := fun _ => fun
  | [d1, d2] => { results := [.lit (.bool false)], args := [d1, d2] }
  | _ => none }
def SessOrdersWrongFalsely : Prop := sessOrdersRow.holds Try.pinned (OpenSpec.ofChange sessOrdersWrong)

/-- 'palletlaw21.SessPings': WHATEVER THE INPUT: true; the input reads as it did. -/
def sessPingsSpec : ChangeSpec := { name := "sessPings", fn := fun _ => fun
  | [d1, d2, d3, d4] => { results := [.lit (.bool true)], args := [d1, d2, d3, d4] }
  | _ => none }
def sessPingsRow : OpenClaim := { program := "ytloeadlmcdddnaa", sum := "d45c32798b9d189a95175659ae3e5256c0d457c5cd05d03e2115285d64cd088e", func := "pallet/palletlaw21.SessPings", spec := "sessPings", inPlace := ["internal/bytealg.IndexByteString", "internal/bytealg.IndexString"], named := ["internal/bytealg.MaxLen"], apart := false }
def SessPingsSaid : Prop := sessPingsRow.holds Try.pinned (OpenSpec.ofChange sessPingsSpec)

/-- ITS FALSE NEIGHBOUR: 'it returns false'. Refute it at one input. -/
def sessPingsWrong : ChangeSpec := { name := "sessPings", fn := fun _ => fun
  | [d1, d2, d3, d4] => { results := [.lit (.bool false)], args := [d1, d2, d3, d4] }
  | _ => none }
def SessPingsWrongFalsely : Prop := sessPingsRow.holds Try.pinned (OpenSpec.ofChange sessPingsWrong)

/-- 'palletlaw21.SessWrites': WHATEVER THE INPUT: true; the input reads as it did. -/
def sessWritesSpec : ChangeSpec := { name := "sessWrites", fn := fun _ => fun
  | [d1, d2, d3, d4] => { results := [.lit (.bool true)], args := [d1, d2, d3, d4] }
  | _ => none }
def sessWritesRow : OpenClaim := { program := "ytloeadlmcdddnaa", sum := "d45c32798b9d189a95175659ae3e5256c0d457c5cd05d03e2115285d64cd088e", func := "pallet/palletlaw21.SessWrites", spec := "sessWrites", inPlace := ["internal/bytealg.IndexByteString", "internal/bytealg.IndexString"], named := ["internal/bytealg.MaxLen"], apart := false }
def SessWritesSaid : Prop := sessWritesRow.holds Try.pinned (OpenSpec.ofChange sessWritesSpec)

/-- ITS FALSE NEIGHBOUR: 'it returns false'. Refute it at one input. -/
def sessWritesWrong : ChangeSpec := { name := "sessWrites", fn := fun _ => fun
  | [d1, d2, d3, d4] => { results := [.lit (.bool false)], args := [d1, d2, d3, d4] }
  | _ => none }
def SessWritesWrongFalsely : Prop := sessWritesRow.holds Try.pinned (OpenSpec.ofChange sessWritesWrong)

/-- 'palletlaw21.SessWindow': WHATEVER THE INPUT: true; the input reads as it did. -/
def sessWindowSpec : ChangeSpec := { name := "sessWindow", fn := fun _ => fun
  | [d1, d2, d3] => { results := [.lit (.bool true)], args := [d1, d2, d3] }
  | _ => none }
def sessWindowRow : OpenClaim := { program := "ytloeadlmcdddnaa", sum := "d45c32798b9d189a95175659ae3e5256c0d457c5cd05d03e2115285d64cd088e", func := "pallet/palletlaw21.SessWindow", spec := "sessWindow", inPlace := ["internal/bytealg.IndexByteString", "internal/bytealg.IndexString"], named := ["internal/bytealg.MaxLen"], apart := false }
def SessWindowSaid : Prop := sessWindowRow.holds Try.pinned (OpenSpec.ofChange sessWindowSpec)

/-- ITS FALSE NEIGHBOUR: 'it returns false'. Refute it at one input. -/
def sessWindowWrong : ChangeSpec := { name := "sessWindow", fn := fun _ => fun
  | [d1, d2, d3] => { results := [.lit (.bool false)], args := [d1, d2, d3] }
  | _ => none }
def SessWindowWrongFalsely : Prop := sessWindowRow.holds Try.pinned (OpenSpec.ofChange sessWindowWrong)

/-- 'palletlaw21.SessReads': WHATEVER THE INPUT: true; the input reads as it did. -/
def sessReadsSpec : ChangeSpec := { name := "sessReads", fn := fun _ => fun
  | [d1, d2, d3] => { results := [.lit (.bool true)], args := [d1, d2, d3] }
  | _ => none }
def sessReadsRow : OpenClaim := { program := "ytloeadlmcdddnaa", sum := "d45c32798b9d189a95175659ae3e5256c0d457c5cd05d03e2115285d64cd088e", func := "pallet/palletlaw21.SessReads", spec := "sessReads", inPlace := ["internal/bytealg.IndexByteString", "internal/bytealg.IndexString"], named := ["internal/bytealg.MaxLen"], apart := false }
def SessReadsSaid : Prop := sessReadsRow.holds Try.pinned (OpenSpec.ofChange sessReadsSpec)

/-- ITS FALSE NEIGHBOUR: 'it returns false'. Refute it at one input. -/
def sessReadsWrong : ChangeSpec := { name := "sessReads", fn := fun _ => fun
  | [d1, d2, d3] => { results := [.lit (.bool false)], args := [d1, d2, d3] }
  | _ => none }
def SessReadsWrongFalsely : Prop := sessReadsRow.holds Try.pinned (OpenSpec.ofChange sessReadsWrong)

/-- 'palletlaw21.SessForgets': WHATEVER THE INPUT: true; the input reads as it did. -/
def sessForgetsSpec : ChangeSpec := { name := "sessForgets", fn := fun _ => fun
  | [d1, d2] => { results := [.lit (.bool true)], args := [d1, d2] }
  | _ => none }
def sessForgetsRow : OpenClaim := { program := "ytloeadlmcdddnaa", sum := "d45c32798b9d189a95175659ae3e5256c0d457c5cd05d03e2115285d64cd088e", func := "pallet/palletlaw21.SessForgets", spec := "sessForgets", inPlace := ["internal/bytealg.IndexByteString", "internal/bytealg.IndexString"], named := ["internal/bytealg.MaxLen"], apart := false }
def SessForgetsSaid : Prop := sessForgetsRow.holds Try.pinned (OpenSpec.ofChange sessForgetsSpec)

/-- ITS FALSE NEIGHBOUR: 'it returns false'. Refute it at one input. -/
def sessForgetsWrong : ChangeSpec := { name := "sessForgets", fn := fun _ => fun
  | [d1, d2] => { results := [.lit (.bool false)], args := [d1, d2] }
  | _ => none }
def SessForgetsWrongFalsely : Prop := sessForgetsRow.holds Try.pinned (OpenSpec.ofChange sessForgetsWrong)

/-- 'palletlaw21.SessNumbers': WHATEVER THE INPUT: true; the input reads as it did. -/
def sessNumbersSpec : ChangeSpec := { name := "sessNumbers", fn := fun _ => fun
  | [d1, d2] => { results := [.lit (.bool true)], args := [d1, d2] }
  | _ => none }
def sessNumbersRow : OpenClaim := { program := "ytloeadlmcdddnaa", sum := "d45c32798b9d189a95175659ae3e5256c0d457c5cd05d03e2115285d64cd088e", func := "pallet/palletlaw21.SessNumbers", spec := "sessNumbers", inPlace := ["internal/bytealg.IndexByteString", "internal/bytealg.IndexString"], named := ["internal/bytealg.MaxLen"], apart := false }
def SessNumbersSaid : Prop := sessNumbersRow.holds Try.pinned (OpenSpec.ofChange sessNumbersSpec)

/-- ITS FALSE NEIGHBOUR: 'it returns false'. Refute it at one input. -/
def sessNumbersWrong : ChangeSpec := { name := "sessNumbers", fn := fun _ => fun
  | [d1, d2] => { results := [.lit (.bool false)], args := [d1, d2] }
  | _ => none }
def SessNumbersWrongFalsely : Prop := sessNumbersRow.holds Try.pinned (OpenSpec.ofChange sessNumbersWrong)

/- THE SECOND FORM. 'bulk': how many values and letters a reading holds, each counted each time it is reached (what is shared counts as often as it is met; a slice's spare places count too). A statement '..UptoSaid' is the law's where the arguments, and the package variables that the reading takes, are together of bulk at most 1048576: NARROWER than '..Said'. Prove '..Said' where nothing that the law and all that it calls make is longer than what came in: it says more and counts as full. Else prove '..UptoSaid'. A law counts once. -/
mutual
def uptoBulk {H : Type} : DataW H → Nat
  | .lit (.string bytes) => bytes.length + 1
  | .lit _ => 1
  | .nil => 1
  | .ptr d => uptoBulk d + 1
  | .slice elems spare => uptoBulkAll elems + uptoBulkAll spare + 1
  | .agg parts => uptoBulkAll parts + 1
  | .iface _ d => uptoBulk d + 1
  | .map entries => uptoBulkEntries entries + 1
  | .held _ => 1
def uptoBulkAll {H : Type} : List (DataW H) → Nat
  | [] => 0
  | d :: r => uptoBulk d + uptoBulkAll r
def uptoBulkEntries {H : Type} : List (Lit × DataW H) → Nat
  | [] => 0
  | x :: r => uptoBulkEntry x + uptoBulkEntries r
def uptoBulkEntry {H : Type} : Lit × DataW H → Nat
  | (.string bytes, d) => bytes.length + uptoBulk d + 1
  | (_, d) => uptoBulk d + 1
 end
def uptoSmall : (H : Type) → List (DataW H) → Bool := fun _ ds => decide (uptoBulkAll ds ≤ 1048576)
def OpenSpec.upto (s : _root_.Go.ChangeSpec) : _root_.Go.OpenSpec := { _root_.Go.OpenSpec.ofChange s with cond := some uptoSmall }

/-- 'palletlaw21.SessOrders', WHERE WHAT IT READS IS OF BULK AT MOST 1048576: true; the input reads as it did. -/
def sessOrdersUptoRow : OpenClaim := { program := "ytloeadlmcdddnaa", sum := "d45c32798b9d189a95175659ae3e5256c0d457c5cd05d03e2115285d64cd088e", func := "pallet/palletlaw21.SessOrders", spec := "sessOrders", inPlace := ["internal/bytealg.IndexByteString", "internal/bytealg.IndexString"], named := ["internal/bytealg.MaxLen"], apart := false, narrowed := true }
def SessOrdersUptoSaid : Prop := sessOrdersUptoRow.holds Try.pinned (OpenSpec.upto sessOrdersSpec)

/-- 'palletlaw21.SessPings', WHERE WHAT IT READS IS OF BULK AT MOST 1048576: true; the input reads as it did. -/
def sessPingsUptoRow : OpenClaim := { program := "ytloeadlmcdddnaa", sum := "d45c32798b9d189a95175659ae3e5256c0d457c5cd05d03e2115285d64cd088e", func := "pallet/palletlaw21.SessPings", spec := "sessPings", inPlace := ["internal/bytealg.IndexByteString", "internal/bytealg.IndexString"], named := ["internal/bytealg.MaxLen"], apart := false, narrowed := true }
def SessPingsUptoSaid : Prop := sessPingsUptoRow.holds Try.pinned (OpenSpec.upto sessPingsSpec)

/-- 'palletlaw21.SessWrites', WHERE WHAT IT READS IS OF BULK AT MOST 1048576: true; the input reads as it did. -/
def sessWritesUptoRow : OpenClaim := { program := "ytloeadlmcdddnaa", sum := "d45c32798b9d189a95175659ae3e5256c0d457c5cd05d03e2115285d64cd088e", func := "pallet/palletlaw21.SessWrites", spec := "sessWrites", inPlace := ["internal/bytealg.IndexByteString", "internal/bytealg.IndexString"], named := ["internal/bytealg.MaxLen"], apart := false, narrowed := true }
def SessWritesUptoSaid : Prop := sessWritesUptoRow.holds Try.pinned (OpenSpec.upto sessWritesSpec)

/-- 'palletlaw21.SessWindow', WHERE WHAT IT READS IS OF BULK AT MOST 1048576: true; the input reads as it did. -/
def sessWindowUptoRow : OpenClaim := { program := "ytloeadlmcdddnaa", sum := "d45c32798b9d189a95175659ae3e5256c0d457c5cd05d03e2115285d64cd088e", func := "pallet/palletlaw21.SessWindow", spec := "sessWindow", inPlace := ["internal/bytealg.IndexByteString", "internal/bytealg.IndexString"], named := ["internal/bytealg.MaxLen"], apart := false, narrowed := true }
def SessWindowUptoSaid : Prop := sessWindowUptoRow.holds Try.pinned (OpenSpec.upto sessWindowSpec)

/-- 'palletlaw21.SessReads', WHERE WHAT IT READS IS OF BULK AT MOST 1048576: true; the input reads as it did. -/
def sessReadsUptoRow : OpenClaim := { program := "ytloeadlmcdddnaa", sum := "d45c32798b9d189a95175659ae3e5256c0d457c5cd05d03e2115285d64cd088e", func := "pallet/palletlaw21.SessReads", spec := "sessReads", inPlace := ["internal/bytealg.IndexByteString", "internal/bytealg.IndexString"], named := ["internal/bytealg.MaxLen"], apart := false, narrowed := true }
def SessReadsUptoSaid : Prop := sessReadsUptoRow.holds Try.pinned (OpenSpec.upto sessReadsSpec)

/-- 'palletlaw21.SessForgets', WHERE WHAT IT READS IS OF BULK AT MOST 1048576: true; the input reads as it did. -/
def sessForgetsUptoRow : OpenClaim := { program := "ytloeadlmcdddnaa", sum := "d45c32798b9d189a95175659ae3e5256c0d457c5cd05d03e2115285d64cd088e", func := "pallet/palletlaw21.SessForgets", spec := "sessForgets", inPlace := ["internal/bytealg.IndexByteString", "internal/bytealg.IndexString"], named := ["internal/bytealg.MaxLen"], apart := false, narrowed := true }
def SessForgetsUptoSaid : Prop := sessForgetsUptoRow.holds Try.pinned (OpenSpec.upto sessForgetsSpec)

/-- 'palletlaw21.SessNumbers', WHERE WHAT IT READS IS OF BULK AT MOST 1048576: true; the input reads as it did. -/
def sessNumbersUptoRow : OpenClaim := { program := "ytloeadlmcdddnaa", sum := "d45c32798b9d189a95175659ae3e5256c0d457c5cd05d03e2115285d64cd088e", func := "pallet/palletlaw21.SessNumbers", spec := "sessNumbers", inPlace := ["internal/bytealg.IndexByteString", "internal/bytealg.IndexString"], named := ["internal/bytealg.MaxLen"], apart := false, narrowed := true }
def SessNumbersUptoSaid : Prop := sessNumbersUptoRow.holds Try.pinned (OpenSpec.upto sessNumbersSpec)

end Rows
end Go.Proofs.Ytloeadlmcdddnaa
