/- An abstract machine for the program's text, part 2: its instructions, and what each does. -/
import Derived.Test.YtloeadlmcdddnaaA1
set_option linter.unusedVariables false
set_option linter.unusedSimpArgs false
namespace Go.Proofs.Ytloeadlmcdddnaa.Abs
open Go Go.RowKit

inductive Opd where
  | s (i : Nat)
  | c (v : Value)
/-- Instructions: types are told by what of them is wanted (cells of an element: sz; its zero cells: z; its number: e). -/
inductive AI where
  | mov (x : Opd)
  | pick (c a b : Opd)
  | box (e : TypeId) (n : Nat) (x : Opd)
  | alloc (e : TypeId) (zs : List Value)
  | build (z : List Value) (parts : List (Nat × Nat × Opd))
  | lit (e : TypeId) (sz n : Nat) (z : List Value) (parts : List (Nat × Nat × Opd))
  | load (x : Opd)
  | loadA (n : Nat) (x : Opd)
  | store (n : Nat) (x v : Opd)
  | nilck (x : Opd)
  | bin (tk : Nat) (op : BinOp) (x y : Opd)
  | eqA (neg : Bool) (ks : List Nat) (x y : Opd)
  | un (op : UnOp) (x : Opd)
  | conv (k : IntKind) (x : Opd)
  | str (x : Opd)
  | same (x : Opd)
  | make (e : TypeId) (z : List Value) (bytes : Nat) (n c : Opd)
  | cut (sz : Nat) (x : Opd) (lo hi : Option Opd)
  | cutS (x : Opd) (lo hi : Option Opd)
  | cutA (n sz : Nat) (x : Opd) (lo hi : Option Opd)
  | fadr (off : Nat) (x : Opd)
  | iadr (sz : Nat) (x i : Opd)
  | iadrA (n sz : Nat) (x i : Opd)
  | idxS (x i : Opd)
  | idxA (n sz : Nat) (agg : Bool) (x i : Opd)
  | ext (j : Nat) (x : Opd)
  | len (tk : Nat) (x : Opd)
  | lenK (n : Nat)
  | append (e : TypeId) (sz bytes : Nat) (x y : Opd)
  | appendZ (e : TypeId) (sz bytes : Nat) (z : List Value) (x y : Opd)
  | bytesS (e : TypeId) (x : Opd)
  | copy (sz : Nat) (x y : Opd)
  | minmax (isMax : Bool) (x y : Opd)
  | call (f : FuncId) (xs : List Opd)

/-- Instructions that neither make nor turn a block. -/
def quiet : AI → Bool
  | .box .. | .alloc .. | .lit .. | .store .. | .same .. | .make .. | .append .. | .appendZ .. | .bytesS .. | .copy .. | .call .. => false
  | _ => true
/-- Quiet ones whose value hangs on the blocks. -/
def looks : AI → Bool
  | .load .. | .loadA .. | .str .. => true
  | _ => false
/-- Cells of a block, from an offset on. -/
def Hp.get (H : Hp) (b o n : Nat) : Option (List Value) :=
  match H.m b with
  | some k => if o + n ≤ k.cells.length then some ((k.cells.drop o).take n) else none
  | none => none
/-- Cells of a block of one's own are written. -/
def Hp.put (H : Hp) (b o : Nat) (xs : List Value) : Option Hp :=
  match H.m b with
  | some k => if k.rw = true then if o + xs.length ≤ k.cells.length then some (H.set b { k with cells := k.cells.take o ++ xs ++ k.cells.drop (o + xs.length) }) else none else none
  | none => none
def cellsOf : Value → List Value
  | .agg xs => xs.toList
  | v => [v]
def notTup : Value → Bool
  | .tuple _ => false
  | _ => true
/-- What a slice holds. -/
def Hp.sl (H : Hp) (sz : Nat) : Value → Option (List Value)
  | .slice none 0 0 => some []
  | .slice (some ⟨b, o, none⟩) n _ => if n = 0 then some [] else H.get b o (n * sz)
  | _ => none
/-- A slice that was made: its zero cells. -/
def mkCells (z : List Value) (m : Nat) : List Value := (List.range (m * z.length)).map fun i => z.getD (i % z.length) undef
/-- The cells of a string's bytes. -/
def strCells (s : ByteArray) : List Value := s.data.toList.map fun b => .int .u8 b.toNat
/-- What an append or a copy takes: how many elements, their cells. -/
def Hp.src (H : Hp) (sz : Nat) : Value → Option (Nat × List Value)
  | .string s => if sz = 1 then some (s.size, strCells s) else none
  | .slice p m c => (H.sl sz (.slice p m c)).map fun ys => (m, ys)
  | _ => none
def intsOf : List Value → Option (List Int)
  | [] => some []
  | .int .u8 n :: r => (intsOf r).map (n :: ·)
  | _ => none
def ofInts (ns : List Int) : ByteArray := ns.foldl (fun r n => r.push (UInt8.ofNat n.toNat)) ByteArray.empty

def aInt (op : BinOp) (k : IntKind) (a b : Int) : Option Value :=
  match op with
  | .add => some (.int k (k.wrap (a + b)))
  | .sub => some (.int k (k.wrap (a - b)))
  | .mul => some (.int k (k.wrap (a * b)))
  | .quo => if b = 0 then none else some (.int k (k.wrap (a.tdiv b)))
  | .rem => if b = 0 then none else some (.int k (a.tmod b))
  | .and => some (.int k (bits .and k a b))
  | .or => some (.int k (bits .or k a b))
  | .xor => some (.int k (bits .xor k a b))
  | .andNot => some (.int k (bits .andNot k a b))
  | .eql => some (.bool (a == b))
  | .neq => some (.bool (a != b))
  | .lss => some (.bool (decide (a < b)))
  | .leq => some (.bool (decide (a ≤ b)))
  | .gtr => some (.bool (decide (a > b)))
  | .geq => some (.bool (decide (a ≥ b)))
  | _ => none
def aShift (op : BinOp) (k : IntKind) (a b : Int) : Option Value :=
  if b < 0 then none else
  match op with
  | .shl => some (.int k (k.wrap (a * 2 ^ min b.toNat k.bits)))
  | .shr => some (.int k (a.fdiv (2 ^ min b.toNat k.bits)))
  | _ => none
def aStr (op : BinOp) (x y : ByteArray) : Option Value :=
  match op with
  | .add => if x.size + y.size ≤ 9223372036854775807 then some (.string (x ++ y)) else none
  | .eql => some (.bool (x.toList == y.toList))
  | .neq => some (.bool (!(x.toList == y.toList)))
  | .lss => some (.bool (Op.bytesLess x.toList y.toList))
  | .gtr => some (.bool (!(Op.bytesLess x.toList y.toList || x.toList == y.toList)))
  | .leq => some (.bool (Op.bytesLess x.toList y.toList || x.toList == y.toList))
  | .geq => some (.bool (!Op.bytesLess x.toList y.toList))
  | _ => none
def isShift : BinOp → Bool
  | .shl | .shr => true
  | _ => false
/-- A type's kind: 1: bool, 2: string, 3: pointer, 4: slice, 5: int, 0: else. -/
def tkOf : Option TypeDesc → Nat
  | some .bool => 1
  | some .string => 2
  | some (.pointer _) => 3
  | some (.slice _) => 4
  | some (.int _) => 5
  | _ => 0
def aEq (op : BinOp) (b : Bool) : Option Value :=
  match op with
  | .eql => some (.bool b)
  | .neq => some (.bool (!b))
  | _ => none
def aBin (tk : Nat) (op : BinOp) : Value → Value → Option Value
  | .int k a, .int k' b => if isShift op = true then aShift op k a b else if k = k' then aInt op k a b else none
  | .bool a, .bool b => if tk = 1 then aEq op (a == b) else none
  | .string x, .string y => aStr op x y
  | .pointer none, .pointer q => if tk = 3 then aEq op q.isNone else none
  | .pointer (some p), .pointer none => if tk = 3 then aEq op false else none
  | .slice a n c, .slice none 0 0 => if tk = 4 then aEq op a.isNone else none
  | _, _ => none
def eqV (tk : Nat) : Value → Value → Option Bool
  | .int k a, .int k' b => if tk = 5 ∧ k = k' then some (a == b) else none
  | .bool a, .bool b => if tk = 1 then some (a == b) else none
  | .string a, .string b => if tk = 2 then some (a == b) else none
  | _, _ => none
def eqL : List Nat → List Value → List Value → Option Bool
  | [], [], [] => some true
  | k :: ks, x :: xs, y :: ys => match eqV k x y, eqL ks xs ys with
    | some b, some c => some (b && c)
    | _, _ => none
  | _, _, _ => none
def aUn (op : UnOp) : Value → Option Value
  | .int k n => match op with
    | .neg => some (.int k (k.wrap (0 - n)))
    | .xor => some (.int k (bits .xor k (if k.signed then -1 else k.max) n))
    | _ => none
  | .bool b => match op with
    | .not => some (.bool (!b))
    | _ => none
  | _ => none
def bound (lo hi : Option Value) (n : Nat) : Option (Nat × Nat) :=
  match hi with
  | some (.int _ h) => if 0 ≤ h ∧ h ≤ n then
      match lo with
      | some (.int _ l) => if 0 ≤ l ∧ l ≤ h then some (l.toNat, h.toNat) else none
      | none => some (0, h.toNat)
      | _ => none
    else none
  | none =>
    match lo with
    | some (.int _ l) => if 0 ≤ l ∧ l ≤ n then some (l.toNat, n) else none
    | none => some (0, n)
    | _ => none
  | _ => none
def fillA (z : List Value) : List (Nat × Nat × Value) → Option (List Value)
  | [] => some z
  | (off, n, v) :: rest => if notTup v = true ∧ (cellsOf v).length = n ∧ off + n ≤ z.length then fillA (z.take off ++ cellsOf v ++ z.drop (off + n)) rest else none
/-- Elements are laid behind a slice. -/
def appendTo (H : Hp) (e : TypeId) (sz bytes m : Nat) (ys : List Value) : Value → Option (Value × Hp)
  | .slice none 0 0 =>
    if m = 0 then some (.slice none 0 0, H) else
    if m * bytes ≤ 140737488355328 ∧ m ≤ 9223372036854775807 then some (.slice (some ⟨H.nx, 0, none⟩) m sz, H.push ⟨true, e, ys⟩) else none
  | .slice (some ⟨b, 0, none⟩) n c => match H.m b with
    | some k => if k.rw = true ∧ k.e = e ∧ c = sz ∧ k.cells.length = n * sz ∧ (n + m) * bytes ≤ 140737488355328 ∧ n + m ≤ 9223372036854775807 then
        some (.slice (some ⟨H.nx, 0, none⟩) (n + m) sz, (H.cut b).push ⟨true, e, k.cells ++ ys⟩) else none
    | none => none
  | _ => none
/-- An instruction that calls nobody: its value, the blocks behind it. -/
def aI (i : AI) (g : Opd → Value) (H : Hp) : Option (Value × Hp) :=
  match i with
  | .mov x => some (g x, H)
  | .pick c a b => match g c with
    | .bool t => some (if t = true then g a else g b, H)
    | _ => none
  | .box e n x => if notTup (g x) = true ∧ (cellsOf (g x)).length = n then some (.pointer (some ⟨H.nx, 0, none⟩), H.push ⟨true, e, cellsOf (g x)⟩) else none
  | .alloc e zs => some (.pointer (some ⟨H.nx, 0, none⟩), H.push ⟨true, e, zs⟩)
  | .build z parts => (fillA z (parts.map fun p => (p.1, p.2.1, g p.2.2))).map fun xs => (.agg xs.toArray, H)
  | .lit e sz n z parts => (fillA z (parts.map fun p => (p.1, p.2.1, g p.2.2))).map fun xs => (.slice (some ⟨H.nx, 0, none⟩) n sz, H.push ⟨true, e, xs⟩)
  | .load x => match g x with
    | .pointer (some ⟨b, o, none⟩) => match H.get b o 1 with
      | some [v] => some (v, H)
      | _ => none
    | _ => none
  | .loadA n x => match g x with
    | .pointer (some ⟨b, o, none⟩) => (H.get b o n).map fun xs => (.agg xs.toArray, H)
    | _ => none
  | .store n x v => match g x with
    | .pointer (some ⟨b, o, none⟩) => if notTup (g v) = true ∧ (cellsOf (g v)).length = n then (H.put b o (cellsOf (g v))).map fun H' => (undef, H') else none
    | _ => none
  | .nilck x => match g x with
    | .pointer (some a) => some (.pointer (some a), H)
    | _ => none
  | .bin tk op x y => (aBin tk op (g x) (g y)).map fun v => (v, H)
  | .eqA neg ks x y => match g x, g y with
    | .agg xs, .agg ys => (eqL ks xs.toList ys.toList).map fun b => (.bool (if neg = true then !b else b), H)
    | _, _ => none
  | .un op x => (aUn op (g x)).map fun v => (v, H)
  | .conv k x => match g x with
    | .int _ n => some (.int k (k.wrap n), H)
    | _ => none
  | .str x => match g x with
    | .slice p n c => match H.sl 1 (.slice p n c) with
      | some xs => (intsOf xs).map fun ns => (.string (ofInts ns), H)
      | none => none
    | _ => none
  | .same x => match g x with
    | .slice (some ⟨b, o, none⟩) n c => match H.m b with
      | some k => if k.rw = true ∧ (0 < n ∨ c ≠ 0) then some (.slice (some ⟨b, o, none⟩) n c, H) else none
      | none => none
    | _ => none
  | .make e z bytes n c => match g n, g c with
    | .int _ m, .int _ r => if 0 ≤ m ∧ m ≤ r ∧ bytes * r ≤ 281474976710656 ∧ r ≤ 9223372036854775807 then some (.slice (some ⟨H.nx, 0, none⟩) m.toNat z.length, H.push ⟨true, e, mkCells z m.toNat⟩) else none
    | _, _ => none
  | .cut sz x lo hi => match g x with
    | .slice none 0 0 => match bound (lo.map g) (hi.map g) 0 with
      | some (0, 0) => some (.slice none 0 0, H)
      | _ => none
    | .slice (some ⟨b, o, none⟩) n c => match bound (lo.map g) (hi.map g) n with
      | some (l, h) => some (.slice (some ⟨b, o + l * sz, none⟩) (h - l) (if c = sz ∧ (l < h ∨ l = 0) then sz else 0), H)
      | none => none
    | _ => none
  | .cutS x lo hi => match g x with
    | .string s => match bound (lo.map g) (hi.map g) s.size with
      | some (l, h) => some (.string (s.extract l h), H)
      | none => none
    | _ => none
  | .cutA n sz x lo hi => match g x with
    | .pointer (some ⟨b, o, none⟩) => match bound (lo.map g) (hi.map g) n with
      | some (l, h) => some (.slice (some ⟨b, o + l * sz, none⟩) (h - l) 0, H)
      | none => none
    | _ => none
  | .fadr off x => match g x with
    | .pointer (some ⟨b, o, none⟩) => some (.pointer (some ⟨b, o + off, none⟩), H)
    | _ => none
  | .iadr sz x i => match g x, g i with
    | .slice (some ⟨b, o, none⟩) n _, .int _ j => if 0 ≤ j ∧ j < n then some (.pointer (some ⟨b, o + j.toNat * sz, none⟩), H) else none
    | _, _ => none
  | .iadrA n sz x i => match g x, g i with
    | .pointer (some ⟨b, o, none⟩), .int _ j => if 0 ≤ j ∧ j < n then some (.pointer (some ⟨b, o + j.toNat * sz, none⟩), H) else none
    | _, _ => none
  | .idxS x i => match g x, g i with
    | .string s, .int _ j => if 0 ≤ j then match s[j.toNat]? with
      | some c => some (.int .u8 c.toNat, H)
      | none => none
      else none
    | _, _ => none
  | .idxA n sz agg x i => match g x, g i with
    | .agg xs, .int _ j => if 0 ≤ j ∧ j < n ∧ (j.toNat + 1) * sz ≤ xs.size then
        if agg = true then some (.agg ((xs.toList.drop (j.toNat * sz)).take sz).toArray, H)
        else match xs.toList[j.toNat * sz]? with
          | some v => some (v, H)
          | none => none
      else none
    | _, _ => none
  | .ext j x => match g x with
    | .tuple vs => match vs.toList[j]? with
      | some v => some (v, H)
      | none => none
    | _ => none
  | .len tk x => match g x with
    | .slice _ n _ => if tk = 4 then some (.int .i64 n, H) else none
    | .string s => if tk = 2 then some (.int .i64 s.size, H) else none
    | _ => none
  | .lenK n => some (.int .i64 n, H)
  | .append e sz bytes x y => match H.src sz (g y) with
    | some (m, ys) => appendTo H e sz bytes m ys (g x)
    | none => none
  | .appendZ e sz bytes z x y => match g y with
    | .int _ n => if 0 ≤ n ∧ n ≤ 9223372036854775807 then appendTo H e sz bytes n.toNat (mkCells z n.toNat) (g x) else none
    | _ => none
  | .bytesS e x => match g x with
    | .string s => if s.size ≤ 9223372036854775807 then some (.slice (some ⟨H.nx, 0, none⟩) s.size 1, H.push ⟨true, e, strCells s⟩) else none
    | _ => none
  | .copy sz x y => match g x, H.src sz (g y) with
    | .slice none 0 0, some _ => some (.int .i64 0, H)
    | .slice (some ⟨b, o, none⟩) n _, some (m, ys) => if n = 0 ∨ m = 0 then some (.int .i64 0, H) else (H.put b o (ys.take (min m n * sz))).map fun H' => (.int .i64 ((min m n : Nat) : Int), H')
    | _, _ => none
  | .minmax isMax x y => match g x, g y with
    | .int k a, .int k' b => if k = k' then some (.int k (if isMax = true then (if a < b then b else a) else (if b < a then b else a)), H) else none
    | _, _ => none
  | .call _ _ => none
end Go.Proofs.Ytloeadlmcdddnaa.Abs
