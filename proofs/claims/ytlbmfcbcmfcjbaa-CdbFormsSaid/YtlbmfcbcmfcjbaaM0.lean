/- Commands, in plain words. -/
import Derived.Test.YtlbmfcbcmfcjbaaO3
set_option linter.unusedVariables false
set_option linter.unusedSimpArgs false
set_option maxRecDepth 100000
namespace Go.Proofs.Ytlbmfcbcmfcjbaa.Abs
open Go Go.RowKit

structure Cmd where
  kind : Int
  long : Bool
  lba : Int
  blocks : Int
  alloc : Int
  fua : Bool
  prot : Int
  unmap : Bool
  evpd : Bool
  page : Int
  control : Int
  save : Bool
  service : Int
  type : Int
  bytes : Bool
def Cmd.cells (c : Cmd) : List Value := [.int .u8 c.kind, .bool c.long, .int .u64 c.lba, .int .u64 c.blocks, .int .i64 c.alloc, .bool c.fua, .int .u8 c.prot, .bool c.unmap, .bool c.evpd, .int .u8 c.page, .int .u8 c.control, .bool c.save, .int .u8 c.service, .int .u8 c.type, .bool c.bytes]
def cmd0 (k : Int) : Cmd := ⟨k, false, 0, 0, 0, false, 0, false, false, 0, 0, false, 0, 0, false⟩
/-- The blocks of a command: the first, how many, where their number stands. -/
def spanM (n : Nat) (xs : List Int) : Int × Int × Int :=
  if n = 6 then (rgetV xs 1 3 % 2097152, if xs.getD 4 0 = 0 then 256 else xs.getD 4 0, 4)
  else if n = 10 then (rgetV xs 2 4, rgetV xs 7 2, 7)
  else (rgetV xs 2 8, rgetV xs 10 4, 10)
def blocksC (k : Int) (n : Nat) (xs : List Int) : Cmd :=
  { cmd0 k with lba := (spanM n xs).1, blocks := (spanM n xs).2.1, prot := if n = 6 ∨ k = 11 then 0 else xs.getD 1 0 / 32, fua := decide (n ≠ 6 ∧ (k = 7 ∨ k = 8)) && (xs.getD 1 0 / 8 % 2 == 1), bytes := decide (k = 10) && (xs.getD 1 0 / 2 % 2 == 1), unmap := decide (k = 12) && (xs.getD 1 0 / 8 % 2 == 1) }
def blocksF (k : Int) (n : Nat) (xs : List Int) : Int × Int := if k ≤ 10 ∧ (spanM n xs).2.1 > 256 then ((spanM n xs).2.2, 7) else (-1, 0)
def fillC (k : Int) (n : Nat) (xs : List Int) (sv : Int) : Cmd :=
  if k = 2 then { cmd0 k with alloc := xs.getD 4 0, long := xs.getD 1 0 % 2 == 1 }
  else if k = 3 then { cmd0 k with evpd := xs.getD 1 0 % 2 == 1, page := xs.getD 2 0, alloc := IntKind.i64.wrap (rgetV xs 3 2) }
  else if k = 4 then { cmd0 k with long := n == 10, alloc := if n = 10 then IntKind.i64.wrap (rgetV xs 7 2) else xs.getD 4 0, save := xs.getD 1 0 % 2 == 1 }
  else if k = 5 then { cmd0 k with long := n == 10, alloc := if n = 10 then IntKind.i64.wrap (rgetV xs 7 2) else xs.getD 4 0, control := xs.getD 2 0 / 64, page := xs.getD 2 0 % 64 }
  else if k = 6 then { cmd0 k with long := n == 16, alloc := if n = 16 then IntKind.i64.wrap (rgetV xs 10 4) else 0 }
  else if 7 ≤ k ∧ k ≤ 12 then blocksC k n xs
  else if k = 13 then { cmd0 k with alloc := IntKind.i64.wrap (rgetV xs 7 2) }
  else if k = 14 then { cmd0 k with lba := rgetV xs 2 8, blocks := xs.getD 13 0, prot := xs.getD 1 0 / 32, fua := xs.getD 1 0 / 8 % 2 == 1 }
  else if k = 15 then { cmd0 k with service := sv, alloc := IntKind.i64.wrap (rgetV xs 7 2) }
  else if k = 16 then { cmd0 k with service := sv, type := xs.getD 2 0 % 16, alloc := IntKind.i64.wrap (rgetV xs 5 4) }
  else if k = 17 then { cmd0 k with page := xs.getD 2 0, alloc := IntKind.i64.wrap (rgetV xs 6 4) }
  else if k = 18 then { cmd0 k with alloc := IntKind.i64.wrap (rgetV xs 10 4) }
  else cmd0 k
def fillF (k : Int) (n : Nat) (xs : List Int) : Int × Int :=
  if k = 3 then (if (xs.getD 1 0 % 2 == 1) = false ∧ xs.getD 2 0 ≠ 0 then (2, 7) else (-1, 0))
  else if k = 4 then (if xs.getD 1 0 / 16 % 2 = 0 then (1, 4) else (-1, 0))
  else if 7 ≤ k ∧ k ≤ 12 then blocksF k n xs
  else if k = 17 then (if xs.getD 2 0 = 3 then (2, 1) else (-1, 0))
  else (-1, 0)
def kindL (op : Int) : Int := if op = 0 then 1 else if op = 3 then 2 else if op = 18 then 3 else if op = 21 ∨ op = 85 then 4 else if op = 26 ∨ op = 90 then 5 else if op = 37 ∨ op = 158 then 6 else if op = 8 ∨ op = 40 ∨ op = 136 then 7 else if op = 10 ∨ op = 42 ∨ op = 138 then 8 else if op = 46 then 9 else if op = 47 then 10 else if op = 53 ∨ op = 145 then 11 else if op = 65 ∨ op = 147 then 12 else if op = 66 then 13 else if op = 137 then 14 else if op = 94 then 15 else if op = 95 then 16 else if op = 160 then 17 else if op = 131 then 18 else 0
/-- Why bytes are no command, or where they are at fault. -/
structure Sns where
  key : Int
  code : Int
  info : Int
  hasInfo : Bool
  field : Int
  bit : Int
  hasField : Bool
  inCmd : Bool
def Sns.cells (s : Sns) : List Value := [.int .u8 s.key, .int .u16 s.code, .int .u64 s.info, .bool s.hasInfo, .int .i64 s.field, .int .i64 s.bit, .bool s.hasField, .bool s.inCmd]
def flt (f b : Int) : Sns := ⟨5, 9216, 0, false, f, b, true, true⟩
def sns0 : Sns := ⟨0, 0, 0, false, 0, 0, false, false⟩
def svOf (xs : List Int) : Int := if tellsB (xs.getD 0 0) = true then xs.getD 1 0 % 32 else 0
/-- What bytes are, if f and b are where the first bit is that isn't allowed. -/
def parseM (xs : List Int) (f b : Int) : Cmd × Sns × Bool :=
  let op := xs.getD 0 0
  let n := (useL op).length
  if xs.length = 0 then (cmd0 0, flt 0 (-1), false)
  else if tellsB op = true ∧ xs.length = 1 then (cmd0 0, flt 1 (-1), false)
  else if useL op = [] then (cmd0 0, ⟨5, 8192, 0, false, 0, 7, true, true⟩, false)
  else if xs.length < n then (cmd0 0, flt xs.length (-1), false)
  else if f ≥ 0 then (cmd0 0, flt f b, false)
  else if serveB op (svOf xs) = false then (cmd0 0, flt 1 4, false)
  else if (fillF (kindL op) n (xs.take n)).1 ≥ 0 then (cmd0 0, flt (fillF (kindL op) n (xs.take n)).1 (fillF (kindL op) n (xs.take n)).2, false)
  else (fillC (kindL op) n (xs.take n) (svOf xs), sns0, true)
theorem byte256 {p : Int → Prop} {a : Int} (h : 0 ≤ a ∧ a ≤ 255) (hp : ∀ n : Nat, n < 256 → p (n : Int)) : p a := by
  obtain ⟨n, rfl⟩ := Int.eq_ofNat_of_zero_le h.1
  exact hp n (by omega)
section
variable {a : Int}
theorem b_and1 (h : 0 ≤ a ∧ a ≤ 255) : bits .and .u8 a 1 = a % 2 := byte256 (p := fun a => bits .and .u8 a 1 = a % 2) h (by decide +kernel)
theorem b_and8 (h : 0 ≤ a ∧ a ≤ 255) : (bits .and .u8 a 8 != 0) = (a / 8 % 2 == 1) := byte256 (p := fun a => (bits .and .u8 a 8 != 0) = (a / 8 % 2 == 1)) h (by decide +kernel)
theorem b_and2 (h : 0 ≤ a ∧ a ≤ 255) : (bits .and .u8 a 2 != 0) = (a / 2 % 2 == 1) := byte256 (p := fun a => (bits .and .u8 a 2 != 0) = (a / 2 % 2 == 1)) h (by decide +kernel)
theorem b_and16 (h : 0 ≤ a ∧ a ≤ 255) : (bits .and .u8 a 16 == 0) = (a / 16 % 2 == 0) := byte256 (p := fun a => (bits .and .u8 a 16 == 0) = (a / 16 % 2 == 0)) h (by decide +kernel)
theorem b_and63 (h : 0 ≤ a ∧ a ≤ 255) : bits .and .u8 a 63 = a % 64 := byte256 (p := fun a => bits .and .u8 a 63 = a % 64) h (by decide +kernel)
theorem b_and15 (h : 0 ≤ a ∧ a ≤ 255) : bits .and .u8 a 15 = a % 16 := byte256 (p := fun a => bits .and .u8 a 15 = a % 16) h (by decide +kernel)
theorem b_and31 (h : 0 ≤ a ∧ a ≤ 255) : bits .and .u8 a 31 = a % 32 := byte256 (p := fun a => bits .and .u8 a 31 = a % 32) h (by decide +kernel)
theorem b_shr5 (h : 0 ≤ a ∧ a ≤ 255) : a.fdiv (2 ^ min (5 : Int).toNat IntKind.u8.bits) = a / 32 := by rw [shr_eq]; rfl
theorem b_shr6 (h : 0 ≤ a ∧ a ≤ 255) : a.fdiv (2 ^ min (6 : Int).toNat IntKind.u8.bits) = a / 64 := by rw [shr_eq]; rfl
theorem b_quo {c : Int} (h : 0 ≤ a ∧ a ≤ 255) (hc : 0 < c) : IntKind.u8.wrap (a.tdiv c) = a / c := by
  rw [Int.tdiv_eq_ediv_of_nonneg h.1, w8]
  have h1 : 0 ≤ a / c := Int.ediv_nonneg h.1 (by omega)
  have h2 : a / c ≤ a := Int.ediv_le_self _ h.1
  omega
theorem b_rem (c : Int) (h : 0 ≤ a ∧ a ≤ 255) : a.tmod c = a % c := Int.tmod_eq_emod_of_nonneg h.1
theorem b_quorem {c : Int} (d : Int) (h : 0 ≤ a ∧ a ≤ 255) (hc : 0 < c) : (IntKind.u8.wrap (a.tdiv c)).tmod d = a / c % d := by
  rw [b_quo h hc]
  exact Int.tmod_eq_emod_of_nonneg (Int.ediv_nonneg h.1 (by omega))
end
theorem St_cells {X : List Nat} {H0 H : Hp} {b : Nat} {e : TypeId} {cs cs' : List Value} (st : Stt X H0 H [⟨some b, true, ⟨true, e, cs⟩⟩]) (h : cs = cs') : Stt X H0 H [⟨some b, true, ⟨true, e, cs'⟩⟩] := h ▸ st
theorem oddMask {xs ms : List Int} (h : ∀ i, i < xs.length → ∀ k, k < 8 → oddB xs ms i k = false) {i : Nat} (hi : i < xs.length) (m : Nat) (hm : (ms.getD i 0).toNat = m) : ∀ k, k < 8 → ((xs.getD i 0).toNat.testBit k && !m.testBit k) = false := fun k hk => by
  have := h i hi k hk
  unfold oddB at this
  rwa [hm] at this
theorem mask_lt (m q : Nat) (hq : ∀ n : Nat, n < 256 → (∀ k, k < 8 → (n.testBit k && !m.testBit k) = false) → n < q) {a : Int} (ha : 0 ≤ a ∧ a ≤ 255) (h : ∀ k, k < 8 → (a.toNat.testBit k && !m.testBit k) = false) : a < q := by
  have := hq a.toNat (by omega) h
  omega
/-- What is allowed of a byte, by its mask. -/
theorem mask1 {a : Int} (ha : 0 ≤ a ∧ a ≤ 255) (h : ∀ k, k < 8 → (a.toNat.testBit k && !(1 : Nat).testBit k) = false) : a < 2 := mask_lt 1 2 (by decide +kernel) ha h
theorem mask31 {a : Int} (ha : 0 ≤ a ∧ a ≤ 255) (h : ∀ k, k < 8 → (a.toNat.testBit k && !(31 : Nat).testBit k) = false) : a < 32 := mask_lt 31 32 (by decide +kernel) ha h
theorem mask17 {a : Int} (ha : 0 ≤ a ∧ a ≤ 255) (h : ∀ k, k < 8 → (a.toNat.testBit k && !(17 : Nat).testBit k) = false) : a < 32 := mask_lt 17 32 (by decide +kernel) ha h
theorem mask15 {a : Int} (ha : 0 ≤ a ∧ a ≤ 255) (h : ∀ k, k < 8 → (a.toNat.testBit k && !(15 : Nat).testBit k) = false) : a < 16 := mask_lt 15 16 (by decide +kernel) ha h

end Go.Proofs.Ytlbmfcbcmfcjbaa.Abs
