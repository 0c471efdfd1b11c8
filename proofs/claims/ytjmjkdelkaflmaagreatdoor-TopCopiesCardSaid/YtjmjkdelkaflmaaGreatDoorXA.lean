/- An abstract machine for the program's text, part 1: values whose addresses are those of abstract blocks, and what ties them to the machine's memory. -/
import Derived.Below
import Derived.OwnWalk
import Derived.Maps.AppendAt
import Derived.Lib.AppendStr
import Derived.Laws.BytesArg
import Derived.Laws.MakeOwn
import Derived.Deep.MidRow
import Derived.Deep.WholeRow
import Derived.Laws.IdiomCopy
import Derived.Lib.ConvBytes
import Derived.Lib.SliceRun
import Derived.WalkKit
import Derived.Laws.StructEq
import Derived.Laws.Cover3
import Derived.Laws.Small
set_option linter.unusedVariables false
set_option linter.unusedSimpArgs false
namespace Go.Proofs.YtjmjkdelkaflmaaGreatDoor.Abs
open Go Go.RowKit

structure Loc where
 a : Addr
 sz : Nat
 cap : Nat
abbrev Rho := Nat → Option Loc

inductive PtrL (ρ : Rho) : List Value → List Value → Prop
 | nil : PtrL ρ [] []
 | cons (b o : Nat) (l : Loc) {cs cs' : List Value} (h : ρ b = some l) (t : PtrL ρ cs cs') : PtrL ρ (.pointer (some ⟨b, o, none⟩) :: cs) (.pointer (some (l.a.add o)) :: cs')
inductive RC (ρ : Rho) : Value → Value → Prop
 | bool (b : Bool) : RC ρ (.bool b) (.bool b)
 | int (k : IntKind) (n : Int) : RC ρ (.int k n) (.int k n)
 | string (s : ByteArray) : RC ρ (.string s) (.string s)
 | nilIface : RC ρ .nilIface .nilIface
 | nilFunc : RC ρ .nilFunc .nilFunc
 | iface (t : TypeId) (k : IntKind) (n : Int) : RC ρ (.iface t (.int k n)) (.iface t (.int k n))
 | ptrNil : RC ρ (.pointer none) (.pointer none)
 | ptr (b o : Nat) (l : Loc) (h : ρ b = some l) : RC ρ (.pointer (some ⟨b, o, none⟩)) (.pointer (some (l.a.add o)))
 | sliceNil : RC ρ (.slice none 0 0) (.slice none 0 0)
 | slice (b o n c c' : Nat) (l : Loc) (h : ρ b = some l) (hn : n ≤ c') (ht : c ≠ 0 → l.sz = c ∧ c' * c + o = l.cap * c) : RC ρ (.slice (some ⟨b, o, none⟩) n c) (.slice (some (l.a.add o)) n c')
 | slice0 (b o c' : Nat) (a : Addr) : RC ρ (.slice (some ⟨b, o, none⟩) 0 0) (.slice (some a) 0 c')
 | mapNil : RC ρ (.map none) (.map none)
 | func (f : FuncId) {cs cs' : List Value} (h : PtrL ρ cs cs') : RC ρ (.func (.func f) #[] cs.toArray) (.func (.func f) #[] cs'.toArray)
 | map (b g : Nat) (l : Loc) (h : ρ b = some l) (hg : l.a = ⟨g, 0, none⟩) : RC ρ (.map (some b)) (.map (some g))

inductive All2 (R : Value → Value → Prop) : List Value → List Value → Prop
 | nil : All2 R [] []
 | cons {x y : Value} {xs ys : List Value} : R x y → All2 R xs ys → All2 R (x :: xs) (y :: ys)
inductive RT (ρ : Rho) : Value → Value → Prop
 | one {u v : Value} : RC ρ u v → RT ρ u v
 | agg {xs ys : List Value} : All2 (RC ρ) xs ys → RT ρ (.agg xs.toArray) (.agg ys.toArray)
inductive RV (ρ : Rho) : Value → Value → Prop
 | one {u v : Value} : RT ρ u v → RV ρ u v
 | tuple {xs ys : List Value} : All2 (RT ρ) xs ys → RV ρ (.tuple xs.toArray) (.tuple ys.toArray)

def Ext (ρ ρ' : Rho) : Prop := ∀ b l, ρ b = some l → ρ' b = some l
theorem Ext.refl (ρ : Rho) : Ext ρ ρ := fun _ _ h => h
theorem Ext.trans {a b c : Rho} (h : Ext a b) (h' : Ext b c) : Ext a c := fun b l e => h' b l (h b l e)
theorem PtrL.ext {ρ ρ' : Rho} (he : Ext ρ ρ') {cs cs' : List Value} (h : PtrL ρ cs cs') : PtrL ρ' cs cs' := by
 induction h with
 | nil => exact .nil
 | cons b o l h _ ih => exact .cons b o l (he b l h) ih
theorem RC.ext {ρ ρ' : Rho} (he : Ext ρ ρ') {u v : Value} (h : RC ρ u v) : RC ρ' u v := by
 cases h with
 | bool b => exact .bool b
 | int k n => exact .int k n
 | string s => exact .string s
 | nilIface => exact .nilIface
 | nilFunc => exact .nilFunc
 | iface t k n => exact .iface t k n
 | ptrNil => exact .ptrNil
 | ptr b o l h => exact .ptr b o l (he b l h)
 | sliceNil => exact .sliceNil
 | slice b o n c c' l h hn ht => exact .slice b o n c c' l (he b l h) hn ht
 | slice0 b o c' a => exact .slice0 b o c' a
 | mapNil => exact .mapNil
 | func f h => exact .func f (h.ext he)
 | map b g l h hg => exact .map b g l (he b l h) hg
theorem All2.imp {R S : Value → Value → Prop} (h : ∀ u v, R u v → S u v) : ∀ {xs ys : List Value}, All2 R xs ys → All2 S xs ys
 | _, _, .nil => .nil
 | _, _, .cons a b => .cons (h _ _ a) (All2.imp h b)
theorem RT.ext {ρ ρ' : Rho} (he : Ext ρ ρ') {u v : Value} (h : RT ρ u v) : RT ρ' u v := by
 cases h with
 | one h => exact .one (h.ext he)
 | agg h => exact .agg (h.imp fun _ _ h => h.ext he)
theorem RV.ext {ρ ρ' : Rho} (he : Ext ρ ρ') {u v : Value} (h : RV ρ u v) : RV ρ' u v := by
 cases h with
 | one h => exact .one (h.ext he)
 | tuple h => exact .tuple (h.imp fun _ _ h => h.ext he)
theorem All2.length {R : Value → Value → Prop} : ∀ {xs ys : List Value}, All2 R xs ys → xs.length = ys.length
 | _, _, .nil => rfl
 | _, _, .cons _ b => by simp [b.length]
theorem All2.get {R : Value → Value → Prop} : ∀ {xs ys : List Value}, All2 R xs ys → ∀ (i : Nat) (x : Value), xs[i]? = some x → ∃ y, ys[i]? = some y ∧ R x y
 | _, _, .nil, i, x, h => by simp at h
 | _, _, .cons (x := a) (y := b) r s, 0, x, h => by
  simp at h
  subst h
  exact ⟨b, rfl, r⟩
 | _, _, .cons (xs := xs) (ys := ys) r s, i + 1, x, h => by
  obtain ⟨y, hy, hr⟩ := s.get i x (by simpa using h)
  exact ⟨y, by simpa using hy, hr⟩
theorem All2.of_get {R : Value → Value → Prop} : ∀ {xs ys : List Value}, xs.length = ys.length → (∀ (i : Nat) (x y : Value), xs[i]? = some x → ys[i]? = some y → R x y) → All2 R xs ys
 | [], [], _, _ => .nil
 | x :: xs, y :: ys, hl, h => .cons (h 0 x y rfl rfl) (All2.of_get (by simpa using hl) fun i a b ha hb => h (i + 1) a b (by simpa using ha) (by simpa using hb))
 | [], _ :: _, hl, _ => by simp at hl
 | _ :: _, [], hl, _ => by simp at hl
theorem All2.append {R : Value → Value → Prop} : ∀ {xs ys xs' ys' : List Value}, All2 R xs ys → All2 R xs' ys' → All2 R (xs ++ xs') (ys ++ ys')
 | _, _, _, _, .nil, h => h
 | _, _, _, _, .cons a b, h => .cons a (b.append h)
theorem All2.take {R : Value → Value → Prop} : ∀ {xs ys : List Value} (n : Nat), All2 R xs ys → All2 R (xs.take n) (ys.take n)
 | _, _, 0, _ => by simp; exact .nil
 | _, _, n + 1, .nil => .nil
 | _, _, n + 1, .cons a b => .cons a (b.take n)
theorem All2.drop {R : Value → Value → Prop} : ∀ {xs ys : List Value} (n : Nat), All2 R xs ys → All2 R (xs.drop n) (ys.drop n)
 | _, _, 0, h => h
 | _, _, n + 1, .nil => .nil
 | _, _, n + 1, .cons a b => b.drop n

inductive ET where
 | ty (t : TypeId)
 | mp (c : List (Value × Value))
instance (n : Nat) : OfNat ET n := ⟨.ty n⟩
instance : Coe Nat ET := ⟨.ty⟩
def ET.isTy : ET → Bool
 | .ty _ => true
 | .mp _ => false
def ET.is : ET → TypeId → Bool
 | .ty t, e => t == e
 | .mp _, _ => false
theorem ET.is_eq {a : ET} {e : TypeId} (h : a.is e = true) : a = .ty e := by
 cases a with
 | ty t => exact congrArg ET.ty (by simpa [ET.is] using h)
 | mp c => cases h
theorem ET.ty_of {a : ET} (h : a.isTy = true) : ∃ e, a = .ty e := by
 cases a with
 | ty t => exact ⟨t, rfl⟩
 | mp c => cases h
theorem ET.is_self {e : TypeId} : (ET.ty e).is e = true := by simp [ET.is]
structure Blk where
 rw : Bool
 e : ET
 cells : List Value
structure Hp where
 m : Nat → Option Blk
 nx : Nat
def Hp.set (H : Hp) (b : Nat) (x : Blk) : Hp := { H with m := fun i => if i = b then some x else H.m i }
def Hp.push (H : Hp) (x : Blk) : Hp := { m := fun i => if i = H.nx then some x else H.m i, nx := H.nx + 1 }
def Hp.cut (H : Hp) (b : Nat) : Hp := { H with m := fun i => if i = b then none else H.m i }

def Soft (t : TypeId) (fr : Nat × Nat) (n : Nat) : Prop := fr.1 = fr.2 ∨ (n ≤ fr.1 ∧ t = 5)
inductive Ent2 (ρ : Rho) : List (Value × Value) → List MapEntry → Prop
 | nil : Ent2 ρ [] []
 | cons {k v v' : Value} {born : Nat} {c : List (Value × Value)} {es : List MapEntry} (h : RC ρ v v') (t : Ent2 ρ c es) : Ent2 ρ ((k, v) :: c) (⟨k, v', born⟩ :: es)
theorem Ent2.ext {ρ ρ' : Rho} (he : Ext ρ ρ') {c : List (Value × Value)} {es : List MapEntry} (h : Ent2 ρ c es) : Ent2 ρ' c es := by
 induction h with
 | nil => exact .nil
 | cons h _ ih => exact .cons (h.ext he) ih
def Own (ρ : Rho) (w0 w : World) (k : Blk) (l : Loc) : Prop :=
 match k.e with
 | .ty t => ∃ g cur fr, l.a = ⟨g, 0, none⟩ ∧ w0.heap.size ≤ g ∧ w.heap[g]? = some (.cells cur t fr) ∧ Soft t fr cur.size ∧ k.cells.length ≤ cur.size ∧ cur.size = l.cap * l.sz ∧ l.cap ≤ maxLen
 | .mp c => k.cells = [] ∧ ∃ g es clock, l.a = ⟨g, 0, none⟩ ∧ w0.heap.size ≤ g ∧ w.heap[g]? = some (.map es clock) ∧ Ent2 ρ c es.toList
theorem Own.ty {ρ : Rho} {w0 w : World} {k : Blk} {l : Loc} {t : TypeId} (h : Own ρ w0 w k l) (he : k.e = .ty t) : ∃ g cur fr, l.a = ⟨g, 0, none⟩ ∧ w0.heap.size ≤ g ∧ w.heap[g]? = some (.cells cur t fr) ∧ Soft t fr cur.size ∧ k.cells.length ≤ cur.size ∧ cur.size = l.cap * l.sz ∧ l.cap ≤ maxLen := by
 unfold Own at h
 rw [he] at h
 exact h
theorem Own.of_ty {ρ : Rho} {w0 w : World} {k : Blk} {l : Loc} {t : TypeId} (he : k.e = .ty t) (h : ∃ g cur fr, l.a = ⟨g, 0, none⟩ ∧ w0.heap.size ≤ g ∧ w.heap[g]? = some (.cells cur t fr) ∧ Soft t fr cur.size ∧ k.cells.length ≤ cur.size ∧ cur.size = l.cap * l.sz ∧ l.cap ≤ maxLen) : Own ρ w0 w k l := by
 unfold Own
 rw [he]
 exact h
theorem Own.mp {ρ : Rho} {w0 w : World} {k : Blk} {l : Loc} {c : List (Value × Value)} (h : Own ρ w0 w k l) (he : k.e = .mp c) : k.cells = [] ∧ ∃ g es clock, l.a = ⟨g, 0, none⟩ ∧ w0.heap.size ≤ g ∧ w.heap[g]? = some (.map es clock) ∧ Ent2 ρ c es.toList := by
 unfold Own at h
 rw [he] at h
 exact h
theorem Own.of_mp {ρ : Rho} {w0 w : World} {k : Blk} {l : Loc} {c : List (Value × Value)} (he : k.e = .mp c) (h : k.cells = [] ∧ ∃ g es clock, l.a = ⟨g, 0, none⟩ ∧ w0.heap.size ≤ g ∧ w.heap[g]? = some (.map es clock) ∧ Ent2 ρ c es.toList) : Own ρ w0 w k l := by
 unfold Own
 rw [he]
 exact h
theorem Own.ext {ρ ρ' : Rho} (hx : Ext ρ ρ') {w0 w : World} {k : Blk} {l : Loc} (h : Own ρ w0 w k l) : Own ρ' w0 w k l := by
 cases he : k.e with
 | ty t => exact Own.of_ty he (h.ty he)
 | mp c =>
  obtain ⟨h0, g, es, clock, h1, h2, h3, h4⟩ := h.mp he
  exact Own.of_mp he ⟨h0, g, es, clock, h1, h2, h3, h4.ext hx⟩
theorem Own.world {ρ : Rho} {w0 w w' : World} {k : Blk} {l : Loc} (h : Own ρ w0 w k l) (hw : ∀ g o, l.a = ⟨g, 0, none⟩ → w.heap[g]? = some o → w'.heap[g]? = some o) : Own ρ w0 w' k l := by
 cases he : k.e with
 | ty t =>
  obtain ⟨g, cur, fr, h1, h2, h3, h4⟩ := h.ty he
  exact Own.of_ty he ⟨g, cur, fr, h1, h2, hw g _ h1 h3, h4⟩
 | mp c =>
  obtain ⟨h0, g, es, clock, h1, h2, h3, h4⟩ := h.mp he
  exact Own.of_mp he ⟨h0, g, es, clock, h1, h2, hw g _ h1 h3, h4⟩
structure RH (ρ : Rho) (H : Hp) (w0 w : World) : Prop where
 below : Below w0.heap.size w0 w
 cells : ∀ b k, H.m b = some k → ∃ l, ρ b = some l ∧ (∀ i u, k.cells[i]? = some u → ∃ u', w.cell? (l.a.add i) = some u' ∧ RC ρ u u') ∧ (k.rw = true → Own ρ w0 w k l)
 apart : ∀ b b' k k' l l', H.m b = some k → H.m b' = some k' → k.rw = true → b ≠ b' → ρ b = some l → ρ b' = some l' → l.a.block ≠ l'.a.block
 fresh : ∀ b, H.nx ≤ b → ρ b = none
 inw : ∀ b l, ρ b = some l → l.a.block < w.heap.size
theorem RH.size {ρ : Rho} {H : Hp} {w0 w : World} (h : RH ρ H w0 w) : w0.heap.size ≤ w.heap.size := h.below.size
theorem RH.lt {ρ : Rho} {H : Hp} {w0 w : World} (h : RH ρ H w0 w) {b : Nat} {l : Loc} (hb : ρ b = some l) : b < H.nx := by
 rcases Nat.lt_or_ge b H.nx with h1 | h1
 ·exact h1
 ·rw [h.fresh b h1] at hb
  cases hb
theorem RH.live {ρ : Rho} {H : Hp} {w0 w : World} (h : RH ρ H w0 w) {b : Nat} {k : Blk} (hb : H.m b = some k) : b < H.nx := by
 obtain ⟨l, hl, _⟩ := h.cells b k hb
 exact h.lt hl
theorem add_plain (g j : Nat) : (⟨g, 0, none⟩ : Addr).add j = ⟨g, j, none⟩ := by unfold Addr.add; split <;> simp_all
theorem add_add (a : Addr) (i j : Nat) : (a.add i).add j = a.add (i + j) := by
 unfold Addr.add
 by_cases hi : i = 0
 ·subst hi
  simp
 ·by_cases hj : j = 0
  ·subst hj
   simp [hi]
  ·have : i + j ≠ 0 := by omega
   simp [hi, hj, this, Nat.add_assoc]
theorem add_block (a : Addr) (i : Nat) : (a.add i).block = a.block := by unfold Addr.add; split <;> rfl
theorem RH.world {ρ : Rho} {H : Hp} {w0 w w' : World} (h : RH ρ H w0 w) (hb : Below w.heap.size w w') : RH ρ H w0 w' := by
 have hlt : ∀ {a : Addr} {v : Value}, w.cell? a = some v → w'.cell? a = some v := fun {a v} hc => (hb.cell (World.block_lt_of_cell? w a hc)).trans hc
 refine ⟨h.below.trans ⟨hb.os, hb.tape, hb.output, hb.size, fun i hi => hb.block i (Nat.lt_of_lt_of_le hi h.size)⟩, fun b k hk => ?_, h.apart, h.fresh, fun b l hl => Nat.lt_of_lt_of_le (h.inw b l hl) hb.size⟩
 obtain ⟨l, hl, hc, ho⟩ := h.cells b k hk
 refine ⟨l, hl, fun i u hu => ?_, fun hrw => ?_⟩
 ·obtain ⟨u', h1, h2⟩ := hc i u hu
  exact ⟨u', hlt h1, h2⟩
 ·exact (ho hrw).world fun g o h1 h3 => (hb.block g (Array.getElem?_eq_some_iff.1 h3).1).trans h3
theorem RH.push {ρ : Rho} {H : Hp} {w0 w : World} (h : RH ρ H w0 w) (e : TypeId) (xs : List Value) (cur : List Value) (sz cap : Nat) (hx : All2 (RC ρ) xs (cur.take xs.length)) (hl : xs.length ≤ cur.length) (hc : cur.length = cap * sz) (hm : cap ≤ maxLen) :
  ∃ ρ', Ext ρ ρ' ∧ ρ' H.nx = some ⟨⟨w.heap.size, 0, none⟩, sz, cap⟩ ∧ RH ρ' (H.push ⟨true, e, xs⟩) w0 (w.alloc (.cells cur.toArray e)) := by
 have he : Ext ρ (fun b => if b = H.nx then some ⟨⟨w.heap.size, 0, none⟩, sz, cap⟩ else ρ b) := fun b l hb => by
  have := h.lt hb
  show (if b = H.nx then _ else _) = _
  rw [if_neg (by omega)]
  exact hb
 have hb0 : Below w.heap.size w (w.alloc (.cells cur.toArray e)) := (Below.refl _ _).alloc (Nat.le_refl _) _
 have h1 := h.world hb0
 have hnew : (w.alloc (.cells cur.toArray e)).heap[w.heap.size]? = some (.cells cur.toArray e (0, 0)) := heap_alloc_new w _
 refine ⟨_, he, by simp, h1.below, fun b k hk => ?_, fun b b' k k' l l' hk hk' hrw hne hl hl' => ?_, fun b hb => ?_, fun b l hl => ?_⟩
 ·simp only [Hp.push] at hk
  by_cases hbn : b = H.nx
  ·rw [if_pos hbn] at hk
   injection hk with hk
   subst hk
   refine ⟨⟨⟨w.heap.size, 0, none⟩, sz, cap⟩, by simp only [if_pos hbn], fun i u hu => ?_, fun _ => Own.of_ty rfl ⟨w.heap.size, cur.toArray, (0, 0), rfl, h.size, hnew, Or.inl rfl, by simpa using hl, by simpa using hc, hm⟩⟩
   obtain ⟨y, hy, hr⟩ := hx.get i u hu
   refine ⟨y, ?_, hr.ext he⟩
   rw [List.getElem?_take] at hy
   split at hy
   ·rw [add_plain]
    simp only [World.cell?, hnew]
    simpa using hy
   ·cases hy
  ·rw [if_neg hbn] at hk
   obtain ⟨l, hl, hc, ho⟩ := h1.cells b k hk
   exact ⟨l, by simp only [if_neg hbn]; exact hl, fun i u hu => let ⟨u', a, r⟩ := hc i u hu; ⟨u', a, r.ext he⟩, fun hr => (ho hr).ext he⟩
 ·simp only [Hp.push] at hk hk'
  by_cases hb : b = H.nx
  ·simp only [if_pos hb] at hl
   injection hl with hl
   have hb' : b' ≠ H.nx := fun e => hne (hb.trans e.symm)
   simp only [if_neg hb'] at hl'
   have := h.inw b' l' hl'
   subst hl
   show w.heap.size ≠ _
   omega
  ·rw [if_neg hb] at hk
   simp only [if_neg hb] at hl
   by_cases hb' : b' = H.nx
   ·simp only [if_pos hb'] at hl'
    injection hl' with hl'
    have := h.inw b l hl
    subst hl'
    show _ ≠ w.heap.size
    omega
   ·rw [if_neg hb'] at hk'
    simp only [if_neg hb'] at hl'
    exact h.apart b b' k k' l l' hk hk' hrw hne hl hl'
 ·simp only [Hp.push] at hb
  rw [if_neg (by omega)]
  exact h.fresh b (by omega)
 ·by_cases hbn : b = H.nx
  ·simp only [if_pos hbn] at hl
   injection hl with hl
   subst hl
   simp
  ·simp only [if_neg hbn] at hl
   have := h.inw b l hl
   simp
   omega
theorem RH.put {ρ : Rho} {H : Hp} {w0 w : World} (h : RH ρ H w0 w) {b : Nat} {k : Blk} {l : Loc} (hk : H.m b = some k) (hl : ρ b = some l) (hrw : k.rw = true) (cur cur' : Array Value) (fr fr' : Nat × Nat) (g : Nat) (hla : l.a = ⟨g, 0, none⟩) {et : TypeId} (het : k.e = .ty et)
  (hcur : w.heap[g]? = some (.cells cur et fr)) (hso : Soft et fr' cur'.size) (hs : cur'.size = cur.size) (xs : List Value) (hxl : xs.length ≤ cur.size) (hx : All2 (RC ρ) xs (cur'.toList.take xs.length)) :
  RH ρ (H.set b { k with cells := xs }) w0 { w with heap := w.heap.setIfInBounds g (.cells cur' et fr') } := by
 obtain ⟨l1, hl1, hc, ho⟩ := h.cells b k hk
 rw [hl] at hl1
 injection hl1 with hl1
 subst hl1
 obtain ⟨g', cur1, fr1, e1, hg0, e2, e2', e3, e4, e5⟩ := (ho hrw).ty het
 rw [hla] at e1
 injection e1 with e1
 subst e1
 rw [hcur] at e2
 injection e2 with e2
 injection e2 with e2 e2a e2b
 subst e2
 have hgl : g < w.heap.size := (Array.getElem?_eq_some_iff.1 hcur).1
 have hfar : ∀ i, i ≠ g → (w.heap.setIfInBounds g (Obj.cells cur' et fr'))[i]? = w.heap[i]? := fun i hi => by simp [Ne.symm hi]
 have hnew : (w.heap.setIfInBounds g (Obj.cells cur' et fr'))[g]? = some (.cells cur' et fr') := by simp [hgl]
 have hcell : ∀ a : Addr, a.block ≠ g → World.cell? { w with heap := w.heap.setIfInBounds g (.cells cur' et fr') } a = w.cell? a := fun a ha => by
  simp only [World.cell?]
  rw [hfar _ ha]
 refine ⟨⟨h.below.os, h.below.tape, h.below.output, by simpa using h.below.size, fun i hi => (hfar i (by omega)).trans (h.below.block i hi)⟩, fun b' k' hk' => ?_, fun b1 b2 k1 k2 l1 l2 hk1 hk2 hr1 hne hl1 hl2 => ?_, h.fresh, fun b' l' hl' => by simpa using h.inw b' l' hl'⟩
 ·simp only [Hp.set] at hk'
  by_cases hb : b' = b
  ·rw [if_pos hb] at hk'
   injection hk' with hk'
   subst hk' hb
   refine ⟨l, hl, fun i u hu => ?_, fun _ => Own.of_ty het ⟨g, cur', fr', hla, hg0, hnew, hso, by rw [hs]; exact hxl, by rw [hs]; exact e4, e5⟩⟩
   obtain ⟨y, hy, hr⟩ := hx.get i u hu
   rw [List.getElem?_take] at hy
   split at hy
   ·refine ⟨y, ?_, hr⟩
    rw [hla, add_plain]
    simp only [World.cell?, hnew]
    simpa using hy
   ·cases hy
  ·rw [if_neg hb] at hk'
   obtain ⟨l', hl', hc', ho'⟩ := h.cells b' k' hk'
   have hne := h.apart b b' k k' l l' hk hk' hrw (Ne.symm hb) hl hl'
   rw [hla] at hne
   refine ⟨l', hl', fun i u hu => ?_, fun hr => ?_⟩
   ·obtain ⟨u', a, r⟩ := hc' i u hu
    exact ⟨u', (hcell _ (by rw [add_block]; exact Ne.symm hne)).trans a, r⟩
   ·exact (ho' hr).world fun g2 o2 a1 a3 => (hfar g2 (fun e => hne (by rw [a1, e]))).trans a3
 ·simp only [Hp.set] at hk1 hk2
  have f1 : ∃ q, H.m b1 = some q ∧ q.rw = true := by
   by_cases e : b1 = b
   ·exact ⟨k, by rw [e]; exact hk, hrw⟩
   ·rw [if_neg e] at hk1
    exact ⟨k1, hk1, hr1⟩
  have f2 : ∃ q, H.m b2 = some q := by
   by_cases e : b2 = b
   ·exact ⟨k, by rw [e]; exact hk⟩
   ·rw [if_neg e] at hk2
    exact ⟨k2, hk2⟩
  obtain ⟨q1, hq1, hr⟩ := f1
  obtain ⟨q2, hq2⟩ := f2
  exact h.apart b1 b2 q1 q2 l1 l2 hq1 hq2 hr hne hl1 hl2
theorem RH.cut {ρ : Rho} {H : Hp} {w0 w : World} (h : RH ρ H w0 w) (b : Nat) : RH ρ (H.cut b) w0 w := by
 have f : ∀ {b' k}, (H.cut b).m b' = some k → H.m b' = some k := fun {b' k} hk => by
  simp only [Hp.cut] at hk
  split at hk
  ·cases hk
  ·exact hk
 exact ⟨h.below, fun b' k hk => h.cells b' k (f hk), fun b1 b2 k1 k2 l1 l2 hk1 hk2 => h.apart b1 b2 k1 k2 l1 l2 (f hk1) (f hk2), h.fresh, h.inw⟩
theorem RH.renew {ρ : Rho} {H : Hp} {w0 w : World} (h : RH ρ H w0 w) {b : Nat} {k : Blk} {l : Loc} (hk : H.m b = some k) (hl : ρ b = some l) :
  ∃ ρ', Ext ρ ρ' ∧ ρ' H.nx = some l ∧ RH ρ' ((H.cut b).push k) w0 w := by
 have he : Ext ρ (fun i => if i = H.nx then some l else ρ i) := fun i q hq => by
  have := h.lt hq
  show (if i = H.nx then _ else _) = _
  rw [if_neg (by omega)]
  exact hq
 have f : ∀ {b' k'}, ((H.cut b).push k).m b' = some k' → (b' = H.nx ∧ k' = k) ∨ (b' ≠ H.nx ∧ b' ≠ b ∧ H.m b' = some k') := fun {b' k'} hk' => by
  replace hk' : (if b' = H.nx then some k else if b' = b then none else H.m b') = some k' := hk'
  by_cases e1 : b' = H.nx
  ·rw [if_pos e1] at hk'
   injection hk' with e
   exact .inl ⟨e1, e.symm⟩
  ·rw [if_neg e1] at hk'
   by_cases e2 : b' = b
   ·rw [if_pos e2] at hk'
    cases hk'
   ·rw [if_neg e2] at hk'
    exact .inr ⟨e1, e2, hk'⟩
 refine ⟨_, he, by simp, h.below, fun b' k' hk' => ?_, fun b1 b2 k1 k2 l1 l2 hk1 hk2 hr hne hl1 hl2 => ?_, fun i hi => ?_, fun i q hq => ?_⟩
 ·rcases f hk' with ⟨rfl, rfl⟩ | ⟨h1, h2, h3⟩
  ·obtain ⟨l', hl', hc, ho⟩ := h.cells b k' hk
   rw [hl] at hl'
   injection hl' with hl'
   subst hl'
   exact ⟨l, by simp, fun i u hu => let ⟨u', x, r⟩ := hc i u hu; ⟨u', x, r.ext he⟩, fun hr => (ho hr).ext he⟩
  ·obtain ⟨l', hl', hc, ho⟩ := h.cells b' k' h3
   exact ⟨l', he _ _ hl', fun i u hu => let ⟨u', x, r⟩ := hc i u hu; ⟨u', x, r.ext he⟩, fun hr => (ho hr).ext he⟩
 ·rcases f hk1 with ⟨rfl, rfl⟩ | ⟨a1, a2, a3⟩ <;> rcases f hk2 with ⟨rfl, rfl⟩ | ⟨c1, c2, c3⟩
  ·exact absurd rfl hne
  ·simp only [if_true] at hl1
   injection hl1 with hl1
   subst hl1
   simp only [if_neg c1] at hl2
   exact h.apart b b2 _ _ _ _ hk c3 hr (Ne.symm c2) hl hl2
  ·simp only [if_true] at hl2
   injection hl2 with hl2
   subst hl2
   simp only [if_neg a1] at hl1
   exact h.apart b1 b _ _ _ _ a3 hk hr a2 hl1 hl
  ·simp only [if_neg a1] at hl1
   simp only [if_neg c1] at hl2
   exact h.apart b1 b2 _ _ _ _ a3 c3 hr hne hl1 hl2
 ·simp only [Hp.push, Hp.cut] at hi
  rw [if_neg (by omega)]
  exact h.fresh i (by omega)
 ·by_cases e : i = H.nx
  ·simp only [if_pos e] at hq
   injection hq with hq
   subst hq
   exact h.inw b _ hl
  ·simp only [if_neg e] at hq
   exact h.inw i q hq
theorem RH.pushM {ρ : Rho} {H : Hp} {w0 w : World} (h : RH ρ H w0 w) (c : List (Value × Value)) (es : Array MapEntry) (clock : Nat) (hc : Ent2 ρ c es.toList) :
  ∃ ρ', Ext ρ ρ' ∧ ρ' H.nx = some ⟨⟨w.heap.size, 0, none⟩, 1, 0⟩ ∧ RH ρ' (H.push ⟨true, .mp c, []⟩) w0 (w.alloc (.map es clock)) := by
 have he : Ext ρ (fun b => if b = H.nx then some ⟨⟨w.heap.size, 0, none⟩, 1, 0⟩ else ρ b) := fun b l hb => by
  have := h.lt hb
  show (if b = H.nx then _ else _) = _
  rw [if_neg (by omega)]
  exact hb
 have hb0 : Below w.heap.size w (w.alloc (.map es clock)) := (Below.refl _ _).alloc (Nat.le_refl _) _
 have h1 := h.world hb0
 have hnew : (w.alloc (.map es clock)).heap[w.heap.size]? = some (.map es clock) := heap_alloc_new w _
 refine ⟨_, he, by simp, h1.below, fun b k hk => ?_, fun b b' k k' l l' hk hk' hrw hne hl hl' => ?_, fun b hb => ?_, fun b l hl => ?_⟩
 ·simp only [Hp.push] at hk
  by_cases hbn : b = H.nx
  ·rw [if_pos hbn] at hk
   injection hk with hk
   subst hk
   exact ⟨⟨⟨w.heap.size, 0, none⟩, 1, 0⟩, by simp only [if_pos hbn], (fun i u hu => by simp at hu), fun _ => Own.of_mp rfl ⟨rfl, w.heap.size, es, clock, rfl, h.size, hnew, hc.ext he⟩⟩
  ·rw [if_neg hbn] at hk
   obtain ⟨l, hl, hc, ho⟩ := h1.cells b k hk
   exact ⟨l, by simp only [if_neg hbn]; exact hl, fun i u hu => let ⟨u', a, r⟩ := hc i u hu; ⟨u', a, r.ext he⟩, fun hr => (ho hr).ext he⟩
 ·simp only [Hp.push] at hk hk'
  by_cases hb : b = H.nx
  ·simp only [if_pos hb] at hl
   injection hl with hl
   have hb' : b' ≠ H.nx := fun e => hne (hb.trans e.symm)
   simp only [if_neg hb'] at hl'
   have := h.inw b' l' hl'
   subst hl
   show w.heap.size ≠ _
   omega
  ·rw [if_neg hb] at hk
   simp only [if_neg hb] at hl
   by_cases hb' : b' = H.nx
   ·simp only [if_pos hb'] at hl'
    injection hl' with hl'
    have := h.inw b l hl
    subst hl'
    show _ ≠ w.heap.size
    omega
   ·rw [if_neg hb'] at hk'
    simp only [if_neg hb'] at hl'
    exact h.apart b b' k k' l l' hk hk' hrw hne hl hl'
 ·simp only [Hp.push] at hb
  rw [if_neg (by omega)]
  exact h.fresh b (by omega)
 ·by_cases hbn : b = H.nx
  ·simp only [if_pos hbn] at hl
   injection hl with hl
   subst hl
   simp
  ·simp only [if_neg hbn] at hl
   have := h.inw b l hl
   simp
   omega
theorem RH.putM {ρ : Rho} {H : Hp} {w0 w : World} (h : RH ρ H w0 w) {b g : Nat} {c0 c : List (Value × Value)} {l : Loc} (hk : H.m b = some ⟨true, .mp c0, []⟩) (hl : ρ b = some l) (hla : l.a = ⟨g, 0, none⟩) (es : Array MapEntry) (clock : Nat) (hc : Ent2 ρ c es.toList) :
  RH ρ (H.set b ⟨true, .mp c, []⟩) w0 { w with heap := w.heap.setIfInBounds g (.map es clock) } := by
 obtain ⟨l1, hl1, _, ho⟩ := h.cells b _ hk
 rw [hl] at hl1
 injection hl1 with hl1
 subst hl1
 obtain ⟨_, g', es0, clock0, e1, hg0, e2, _⟩ := (ho rfl).mp rfl
 rw [hla] at e1
 injection e1 with e1
 subst e1
 have hgl : g < w.heap.size := (Array.getElem?_eq_some_iff.1 e2).1
 have hfar : ∀ i, i ≠ g → (w.heap.setIfInBounds g (Obj.map es clock))[i]? = w.heap[i]? := fun i hi => by simp [Ne.symm hi]
 have hnew : (w.heap.setIfInBounds g (Obj.map es clock))[g]? = some (.map es clock) := by simp [hgl]
 have hcell : ∀ a : Addr, a.block ≠ g → World.cell? { w with heap := w.heap.setIfInBounds g (.map es clock) } a = w.cell? a := fun a ha => by
  simp only [World.cell?]
  rw [hfar _ ha]
 refine ⟨⟨h.below.os, h.below.tape, h.below.output, by simpa using h.below.size, fun i hi => (hfar i (by omega)).trans (h.below.block i hi)⟩, fun b' k' hk' => ?_, fun b1 b2 k1 k2 l1 l2 hk1 hk2 hr1 hne hl1 hl2 => ?_, h.fresh, fun b' l' hl' => by simpa using h.inw b' l' hl'⟩
 ·simp only [Hp.set] at hk'
  by_cases hb : b' = b
  ·rw [if_pos hb] at hk'
   injection hk' with hk'
   subst hk' hb
   exact ⟨l, hl, (fun i u hu => by simp at hu), fun _ => Own.of_mp rfl ⟨rfl, g, es, clock, hla, hg0, hnew, hc⟩⟩
  ·rw [if_neg hb] at hk'
   obtain ⟨l', hl', hc', ho'⟩ := h.cells b' k' hk'
   have hne := h.apart b b' _ k' l l' hk hk' rfl (Ne.symm hb) hl hl'
   rw [hla] at hne
   refine ⟨l', hl', fun i u hu => ?_, fun hr => ?_⟩
   ·obtain ⟨u', a, r⟩ := hc' i u hu
    exact ⟨u', (hcell _ (by rw [add_block]; exact Ne.symm hne)).trans a, r⟩
   ·exact (ho' hr).world fun g2 o2 a1 a3 => (hfar g2 (fun e => hne (by rw [a1, e]))).trans a3
 ·simp only [Hp.set] at hk1 hk2
  have f1 : ∃ q, H.m b1 = some q ∧ q.rw = true := by
   by_cases e : b1 = b
   ·exact ⟨_, by rw [e]; exact hk, rfl⟩
   ·rw [if_neg e] at hk1
    exact ⟨k1, hk1, hr1⟩
  have f2 : ∃ q, H.m b2 = some q := by
   by_cases e : b2 = b
   ·exact ⟨_, by rw [e]; exact hk⟩
   ·rw [if_neg e] at hk2
    exact ⟨k2, hk2⟩
  obtain ⟨q1, hq1, hr⟩ := f1
  obtain ⟨q2, hq2⟩ := f2
  exact h.apart b1 b2 q1 q2 l1 l2 hq1 hq2 hr hne hl1 hl2

inductive Opd where
 | s (i : Nat)
 | c (v : Value)
inductive AI where
 | mov (x : Opd)
 | pick (c a b : Opd)
 | box (e : TypeId) (n : Nat) (x : Opd)
 | alloc (e : TypeId) (zs : List Value)
 | build (z : List Value) (parts : List (Nat × Nat × Opd))
 | lit (e : TypeId) (sz n : Nat) (z : List Value) (parts : List (Nat × Nat × Opd))
 | load (x : Opd)
 | loadA (n : Nat) (x : Opd)
 | store (n : Nat) (x v : Opd)
 | nilck (x : Opd)
 | bin (tk : Nat) (op : BinOp) (x y : Opd)
 | eqA (neg : Bool) (ks : List Nat) (x y : Opd)
 | un (op : UnOp) (x : Opd)
 | conv (k : IntKind) (x : Opd)
 | str (x : Opd)
 | same (x : Opd)
 | make (e : TypeId) (z : List Value) (bytes : Nat) (n c : Opd)
 | cut (sz : Nat) (x : Opd) (lo hi : Option Opd)
 | cutS (x : Opd) (lo hi : Option Opd)
 | cutA (n sz : Nat) (x : Opd) (lo hi : Option Opd)
 | fadr (off : Nat) (x : Opd)
 | iadr (sz : Nat) (x i : Opd)
 | iadrA (n sz : Nat) (x i : Opd)
 | idxS (x i : Opd)
 | idxA (n sz : Nat) (agg : Bool) (x i : Opd)
 | ext (j : Nat) (x : Opd)
 | len (tk : Nat) (x : Opd)
 | lenK (n : Nat)
 | append (e : TypeId) (sz bytes : Nat) (x y : Opd)
 | appendZ (e : TypeId) (sz bytes : Nat) (z : List Value) (x y : Opd)
 | bytesS (e : TypeId) (x : Opd)
 | copy (sz : Nat) (x y : Opd)
 | minmax (isMax : Bool) (x y : Opd)
 | call (f : FuncId) (xs : List Opd)
 | mkMap
 | mapGet (kd : Option IntKind) (z : Value) (ok : Bool) (x k : Opd)
 | mapSet (kd : Option IntKind) (x k v : Opd)
 | mapDel (kd : Option IntKind) (x k : Opd)
 | mkFunc (f : FuncId) (xs : List Opd)
 | callV (x : Opd) (xs : List Opd)
 | xcall (f : FuncId) (xs : List Opd)

def quiet : AI → Bool
 | .box .. | .alloc .. | .lit .. | .store .. | .same .. | .make .. | .append .. | .appendZ .. | .bytesS .. | .copy .. | .call .. | .mkMap | .mapGet .. | .mapSet .. | .mapDel .. | .mkFunc .. | .callV .. | .xcall .. => false
 | _ => true
def looks : AI → Bool
 | .load .. | .loadA .. | .str .. => true
 | _ => false
def Hp.get (H : Hp) (b o n : Nat) : Option (List Value) :=
 match H.m b with
 | some k => if o + n ≤ k.cells.length then some ((k.cells.drop o).take n) else none
 | none => none
def Hp.put (H : Hp) (b o : Nat) (xs : List Value) : Option Hp :=
 match H.m b with
 | some k => if k.rw = true ∧ k.e.isTy = true then if o + xs.length ≤ k.cells.length then some (H.set b { k with cells := k.cells.take o ++ xs ++ k.cells.drop (o + xs.length) }) else none else none
 | none => none
def cellsOf : Value → List Value
 | .agg xs => xs.toList
 | v => [v]
def notTup : Value → Bool
 | .tuple _ => false
 | _ => true
def Hp.sl (H : Hp) (sz : Nat) : Value → Option (List Value)
 | .slice none 0 0 => some []
 | .slice (some ⟨b, o, none⟩) n _ => if n = 0 then some [] else H.get b o (n * sz)
 | _ => none
def mkCells (z : List Value) (m : Nat) : List Value := (List.range (m * z.length)).map fun i => z.getD (i % z.length) undef
def strCells (s : ByteArray) : List Value := s.data.toList.map fun b => .int .u8 b.toNat
def Hp.src (H : Hp) (sz : Nat) : Value → Option (Nat × List Value)
 | .string s => if sz = 1 then some (s.size, strCells s) else none
 | .slice p m c => (H.sl sz (.slice p m c)).map fun ys => (m, ys)
 | _ => none
def intsOf : List Value → Option (List Int)
 | [] => some []
 | .int .u8 n :: r => (intsOf r).map (n :: ·)
 | _ => none
def ofInts (ns : List Int) : ByteArray := ns.foldl (fun r n => r.push (UInt8.ofNat n.toNat)) ByteArray.empty

def aInt (op : BinOp) (k : IntKind) (a b : Int) : Option Value :=
 match op with
 | .add => some (.int k (k.wrap (a + b)))
 | .sub => some (.int k (k.wrap (a - b)))
 | .mul => some (.int k (k.wrap (a * b)))
 | .quo => if b = 0 then none else some (.int k (k.wrap (a.tdiv b)))
 | .rem => if b = 0 then none else some (.int k (a.tmod b))
 | .and => some (.int k (bits .and k a b))
 | .or => some (.int k (bits .or k a b))
 | .xor => some (.int k (bits .xor k a b))
 | .andNot => some (.int k (bits .andNot k a b))
 | .eql => some (.bool (a == b))
 | .neq => some (.bool (a != b))
 | .lss => some (.bool (decide (a < b)))
 | .leq => some (.bool (decide (a ≤ b)))
 | .gtr => some (.bool (decide (a > b)))
 | .geq => some (.bool (decide (a ≥ b)))
 | _ => none
def aShift (op : BinOp) (k : IntKind) (a b : Int) : Option Value :=
 if b < 0 then none else
 match op with
 | .shl => some (.int k (k.wrap (a * 2 ^ min b.toNat k.bits)))
 | .shr => some (.int k (a.fdiv (2 ^ min b.toNat k.bits)))
 | _ => none
def aStr (op : BinOp) (x y : ByteArray) : Option Value :=
 match op with
 | .add => if x.size + y.size ≤ 9223372036854775807 then some (.string (x ++ y)) else none
 | .eql => some (.bool (x.toList == y.toList))
 | .neq => some (.bool (!(x.toList == y.toList)))
 | .lss => some (.bool (Op.bytesLess x.toList y.toList))
 | .gtr => some (.bool (!(Op.bytesLess x.toList y.toList || x.toList == y.toList)))
 | .leq => some (.bool (Op.bytesLess x.toList y.toList || x.toList == y.toList))
 | .geq => some (.bool (!Op.bytesLess x.toList y.toList))
 | _ => none
def isShift : BinOp → Bool
 | .shl | .shr => true
 | _ => false
def tkOf : Option TypeDesc → Nat
 | some .bool => 1
 | some .string => 2
 | some (.pointer _) => 3
 | some (.slice _) => 4
 | some (.int _) => 5
 | _ => 0
def aEq (op : BinOp) (b : Bool) : Option Value :=
 match op with
 | .eql => some (.bool b)
 | .neq => some (.bool (!b))
 | _ => none
def aBin (tk : Nat) (op : BinOp) : Value → Value → Option Value
 | .int k a, .int k' b => if isShift op = true then aShift op k a b else if k = k' then aInt op k a b else none
 | .bool a, .bool b => if tk = 1 then aEq op (a == b) else none
 | .string x, .string y => aStr op x y
 | .pointer none, .pointer q => if tk = 3 then aEq op q.isNone else none
 | .pointer (some p), .pointer none => if tk = 3 then aEq op false else none
 | .slice a n c, .slice none 0 0 => if tk = 4 then aEq op a.isNone else none
 | _, _ => none
def eqV (tk : Nat) : Value → Value → Option Bool
 | .int k a, .int k' b => if tk = 5 ∧ k = k' then some (a == b) else none
 | .bool a, .bool b => if tk = 1 then some (a == b) else none
 | .string a, .string b => if tk = 2 then some (a == b) else none
 | _, _ => none
def eqL : List Nat → List Value → List Value → Option Bool
 | [], [], [] => some true
 | k :: ks, x :: xs, y :: ys => match eqV k x y, eqL ks xs ys with
  | some b, some c => some (b && c)
  | _, _ => none
 | _, _, _ => none
def aUn (op : UnOp) : Value → Option Value
 | .int k n => match op with
  | .neg => some (.int k (k.wrap (0 - n)))
  | .xor => some (.int k (bits .xor k (if k.signed then -1 else k.max) n))
  | _ => none
 | .bool b => match op with
  | .not => some (.bool (!b))
  | _ => none
 | _ => none
def bound (lo hi : Option Value) (n : Nat) : Option (Nat × Nat) :=
 match hi with
 | some (.int _ h) => if 0 ≤ h ∧ h ≤ n then
   match lo with
   | some (.int _ l) => if 0 ≤ l ∧ l ≤ h then some (l.toNat, h.toNat) else none
   | none => some (0, h.toNat)
   | _ => none
  else none
 | none =>
  match lo with
  | some (.int _ l) => if 0 ≤ l ∧ l ≤ n then some (l.toNat, n) else none
  | none => some (0, n)
  | _ => none
 | _ => none
def fillA (z : List Value) : List (Nat × Nat × Value) → Option (List Value)
 | [] => some z
 | (off, n, v) :: rest => if notTup v = true ∧ (cellsOf v).length = n ∧ off + n ≤ z.length then fillA (z.take off ++ cellsOf v ++ z.drop (off + n)) rest else none
def appendTo (H : Hp) (e : TypeId) (sz bytes m : Nat) (ys : List Value) : Value → Option (Value × Hp)
 | .slice none 0 0 =>
  if m = 0 then some (.slice none 0 0, H) else
  if m * bytes ≤ 140737488355328 ∧ m ≤ 9223372036854775807 then some (.slice (some ⟨H.nx, 0, none⟩) m sz, H.push ⟨true, e, ys⟩) else none
 | .slice (some ⟨b, 0, none⟩) n c => match H.m b with
  | some k => if k.rw = true ∧ k.e.is e = true ∧ c = sz ∧ k.cells.length = n * sz ∧ (n + m) * bytes ≤ 140737488355328 ∧ n + m ≤ 9223372036854775807 then
    some (.slice (some ⟨H.nx, 0, none⟩) (n + m) sz, (H.cut b).push ⟨true, e, k.cells ++ ys⟩) else none
  | none => none
 | _ => none
def keyEq : Option IntKind → Value → Value → Option Bool
 | none, .string a, .string b => some (a == b)
 | some q, .int k a, .int k' b => if k = q ∧ k' = q then some (a == b) else none
 | _, _, _ => none
def mpFind (kd : Option IntKind) (k : Value) : List (Value × Value) → Nat → Option (Option (Nat × Value))
 | [], _ => some none
 | e :: c, i => match keyEq kd k e.1 with
  | some true => some (some (i, e.2))
  | some false => mpFind kd k c (i + 1)
  | none => none
def Hp.mp (H : Hp) : Value → Option (List (Value × Value))
 | .map none => some []
 | .map (some b) => match H.m b with
  | some ⟨true, .mp c, []⟩ => some c
  | _ => none
 | _ => none
def isPtr : Value → Bool
 | .pointer (some ⟨_, _, none⟩) => true
 | _ => false
def oneV : Value → Bool
 | .agg _ | .tuple _ => false
 | _ => true
def isKey : Option IntKind → Value → Bool
 | none, .string _ => true
 | some q, .int k _ => decide (k = q)
 | _, _ => false
def isTup : Value → Bool
 | .tuple _ => true
 | _ => false
def ptrEq (H : Hp) : Option Addr → Option Addr → Option Bool
 | none, q => some q.isNone
 | some _, none => some false
 | some ⟨b, o, none⟩, some ⟨b', o', none⟩ => if b = b' then (if o = o' then some true else none) else match H.m b, H.m b' with
  | some k, some k' => if k.rw = true ∧ k'.rw = true ∧ k.e.isTy = true ∧ k'.e.isTy = true ∧ k.e.is 5 = false ∧ k'.e.is 5 = false then some false else none
  | _, _ => none
 | _, _ => none
def aI (i : AI) (g : Opd → Value) (H : Hp) : Option (Value × Hp) :=
 match i with
 | .mov x => some (g x, H)
 | .pick c a b => match g c with
  | .bool t => some (if t = true then g a else g b, H)
  | _ => none
 | .box e n x => if notTup (g x) = true ∧ (cellsOf (g x)).length = n then some (.pointer (some ⟨H.nx, 0, none⟩), H.push ⟨true, e, cellsOf (g x)⟩) else none
 | .alloc e zs => some (.pointer (some ⟨H.nx, 0, none⟩), H.push ⟨true, e, zs⟩)
 | .build z parts => (fillA z (parts.map fun p => (p.1, p.2.1, g p.2.2))).map fun xs => (.agg xs.toArray, H)
 | .lit e sz n z parts => (fillA z (parts.map fun p => (p.1, p.2.1, g p.2.2))).map fun xs => (.slice (some ⟨H.nx, 0, none⟩) n sz, H.push ⟨true, e, xs⟩)
 | .load x => match g x with
  | .pointer (some ⟨b, o, none⟩) => match H.get b o 1 with
   | some [v] => some (v, H)
   | _ => none
  | _ => none
 | .loadA n x => match g x with
  | .pointer (some ⟨b, o, none⟩) => (H.get b o n).map fun xs => (.agg xs.toArray, H)
  | _ => none
 | .store n x v => match g x with
  | .pointer (some ⟨b, o, none⟩) => if notTup (g v) = true ∧ (cellsOf (g v)).length = n then (H.put b o (cellsOf (g v))).map fun H' => (undef, H') else none
  | _ => none
 | .nilck x => match g x with
  | .pointer (some a) => some (.pointer (some a), H)
  | _ => none
 | .bin tk op x y => (aBin tk op (g x) (g y)).map fun v => (v, H)
 | .eqA neg ks x y => match g x, g y with
  | .agg xs, .agg ys => (eqL ks xs.toList ys.toList).map fun b => (.bool (if neg = true then !b else b), H)
  | _, _ => none
 | .un op x => (aUn op (g x)).map fun v => (v, H)
 | .conv k x => match g x with
  | .int _ n => some (.int k (k.wrap n), H)
  | _ => none
 | .str x => match g x with
  | .slice p n c => match H.sl 1 (.slice p n c) with
   | some xs => (intsOf xs).map fun ns => (.string (ofInts ns), H)
   | none => none
  | _ => none
 | .same x => match g x with
  | .slice (some ⟨b, o, none⟩) n c => match H.m b with
   | some k => if k.rw = true ∧ k.e.is 5 = true ∧ (0 < n ∨ c ≠ 0) then some (.slice (some ⟨b, o, none⟩) n c, H) else none
   | none => none
  | _ => none
 | .make e z bytes n c => match g n, g c with
  | .int _ m, .int _ r => if 0 ≤ m ∧ m ≤ r ∧ bytes * r ≤ 281474976710656 ∧ r ≤ 9223372036854775807 then some (.slice (some ⟨H.nx, 0, none⟩) m.toNat z.length, H.push ⟨true, e, mkCells z m.toNat⟩) else none
  | _, _ => none
 | .cut sz x lo hi => match g x with
  | .slice none 0 0 => match bound (lo.map g) (hi.map g) 0 with
   | some (0, 0) => some (.slice none 0 0, H)
   | _ => none
  | .slice (some ⟨b, o, none⟩) n c => match bound (lo.map g) (hi.map g) n with
   | some (l, h) => some (.slice (some ⟨b, o + l * sz, none⟩) (h - l) (if c = sz ∧ (l < h ∨ l = 0) then sz else 0), H)
   | none => none
  | _ => none
 | .cutS x lo hi => match g x with
  | .string s => match bound (lo.map g) (hi.map g) s.size with
   | some (l, h) => some (.string (s.extract l h), H)
   | none => none
  | _ => none
 | .cutA n sz x lo hi => match g x with
  | .pointer (some ⟨b, o, none⟩) => match bound (lo.map g) (hi.map g) n with
   | some (l, h) => some (.slice (some ⟨b, o + l * sz, none⟩) (h - l) 0, H)
   | none => none
  | _ => none
 | .fadr off x => match g x with
  | .pointer (some ⟨b, o, none⟩) => some (.pointer (some ⟨b, o + off, none⟩), H)
  | _ => none
 | .iadr sz x i => match g x, g i with
  | .slice (some ⟨b, o, none⟩) n _, .int _ j => if 0 ≤ j ∧ j < n then some (.pointer (some ⟨b, o + j.toNat * sz, none⟩), H) else none
  | _, _ => none
 | .iadrA n sz x i => match g x, g i with
  | .pointer (some ⟨b, o, none⟩), .int _ j => if 0 ≤ j ∧ j < n then some (.pointer (some ⟨b, o + j.toNat * sz, none⟩), H) else none
  | _, _ => none
 | .idxS x i => match g x, g i with
  | .string s, .int _ j => if 0 ≤ j then match s[j.toNat]? with
   | some c => some (.int .u8 c.toNat, H)
   | none => none
   else none
  | _, _ => none
 | .idxA n sz agg x i => match g x, g i with
  | .agg xs, .int _ j => if 0 ≤ j ∧ j < n ∧ (j.toNat + 1) * sz ≤ xs.size then
    if agg = true then some (.agg ((xs.toList.drop (j.toNat * sz)).take sz).toArray, H)
    else match xs.toList[j.toNat * sz]? with
     | some v => some (v, H)
     | none => none
   else none
  | _, _ => none
 | .ext j x => match g x with
  | .tuple vs => match vs.toList[j]? with
   | some v => some (v, H)
   | none => none
  | _ => none
 | .len tk x => match g x with
  | .slice _ n _ => if tk = 4 then some (.int .i64 n, H) else none
  | .string s => if tk = 2 then some (.int .i64 s.size, H) else none
  | _ => none
 | .lenK n => some (.int .i64 n, H)
 | .append e sz bytes x y => match H.src sz (g y) with
  | some (m, ys) => appendTo H e sz bytes m ys (g x)
  | none => none
 | .appendZ e sz bytes z x y => match g y with
  | .int _ n => if 0 ≤ n ∧ n ≤ 9223372036854775807 then appendTo H e sz bytes n.toNat (mkCells z n.toNat) (g x) else none
  | _ => none
 | .bytesS e x => match g x with
  | .string s => if s.size ≤ 9223372036854775807 then some (.slice (some ⟨H.nx, 0, none⟩) s.size 1, H.push ⟨true, e, strCells s⟩) else none
  | _ => none
 | .copy sz x y => match g x, H.src sz (g y) with
  | .slice none 0 0, some _ => some (.int .i64 0, H)
  | .slice (some ⟨b, o, none⟩) n _, some (m, ys) => if n = 0 ∨ m = 0 then some (.int .i64 0, H) else (H.put b o (ys.take (min m n * sz))).map fun H' => (.int .i64 ((min m n : Nat) : Int), H')
  | _, _ => none
 | .minmax isMax x y => match g x, g y with
  | .int k a, .int k' b => if k = k' then some (.int k (if isMax = true then (if a < b then b else a) else (if b < a then b else a)), H) else none
  | _, _ => none
 | .call _ _ => none
 | .mkMap => some (.map (some H.nx), H.push ⟨true, .mp [], []⟩)
 | .mapGet kd z ok x k => if isTup z = true then (match g x, g k with
  | .pointer p, .pointer q => (ptrEq H p q).map fun b => (.bool (if ok = true then !b else b), H)
  | _, _ => none) else match H.mp (g x) with
  | some c => if isKey kd (g k) = true then match mpFind kd (g k) c 0 with
   | some (some (_, v)) => some (if ok = true then .tuple #[v, .bool true] else v, H)
   | some none => some (if ok = true then .tuple #[z, .bool false] else z, H)
   | none => none
   else none
  | none => none
 | .mapSet kd x k v => match g x with
  | .map (some b) => match H.mp (.map (some b)) with
   | some c => if isKey kd (g k) = true ∧ oneV (g v) = true then match mpFind kd (g k) c 0 with
    | some (some (i, _)) => some (undef, H.set b ⟨true, .mp (c.modify i fun e => (g k, g v)), []⟩)
    | some none => some (undef, H.set b ⟨true, .mp (c ++ [(g k, g v)]), []⟩)
    | none => none
    else none
   | none => none
  | _ => none
 | .mapDel kd x k => match g x with
  | .map (some b) => match H.mp (.map (some b)) with
   | some c => if isKey kd (g k) = true then match mpFind kd (g k) c 0 with
    | some (some (i, _)) => some (.tuple #[], H.set b ⟨true, .mp (c.eraseIdx i), []⟩)
    | some none => some (.tuple #[], H)
    | none => none
    else none
   | none => none
  | _ => none
 | .mkFunc f xs => if (xs.map g).all isPtr = true then some (.func (.func f) #[] (xs.map g).toArray, H) else none
 | .callV _ _ => none
 | .xcall _ _ => none

def okC : Value → Bool
 | .bool _ | .int _ _ | .string _ | .nilIface | .nilFunc | .pointer none | .slice none 0 0 | .map none => true
 | _ => false
theorem okC_rel {v : Value} (h : okC v = true) (ρ : Rho) : RC ρ v v := by
 match v, h with
 | .bool b, _ => exact .bool b
 | .int k n, _ => exact .int k n
 | .string s, _ => exact .string s
 | .nilIface, _ => exact .nilIface
 | .nilFunc, _ => exact .nilFunc
 | .pointer none, _ => exact .ptrNil
 | .slice none 0 0, _ => exact .sliceNil
 | .map none, _ => exact .mapNil
def cO (n : Nat) : Operand → Option Opd
 | .tmp t => if t < n then some (.s t) else none
 | .const v => if okC v = true then some (.c v) else none
 | _ => none
def ev (t : Nat → Value) : Opd → Value
 | .s i => t i
 | .c v => v
structure RG (ρ : Rho) (n : Nat) (t : Nat → Value) (a : Act) : Prop where
 size : a.tmps.size = n
 val : ∀ i, i < n → RV ρ (t i) (a.tmps.getD i undef)
theorem ev_rel {ρ : Rho} {n : Nat} {t : Nat → Value} {a : Act} (h : RG ρ n t a) {x : Operand} {x' : Opd} (hc : cO n x = some x') : RV ρ (ev t x') (a.eval x) := by
 match x, hc with
 | .tmp i, hc =>
  simp only [cO] at hc
  split at hc
  ·injection hc with hc
   subst hc
   exact h.val i (by assumption)
  ·cases hc
 | .const v, hc =>
  simp only [cO] at hc
  split at hc
  ·injection hc with hc
   subst hc
   exact .one (.one (okC_rel (by assumption) ρ))
  ·cases hc
def Ok (P : Program) (o : Oper) (a : Act) (w : World) (ρ : Rho) (v : Value) (H' : Hp) (w0 : World) : Prop :=
 ∃ ρ' v' w', ((execOp a.eval o).run P w = .ok (.value v') w' ∨ ((execOp a.eval o).run P w = .ok .skip w' ∧ v' = undef)) ∧ Ext ρ ρ' ∧ RV ρ' v v' ∧ RH ρ' H' w0 w'
def Ok0 (P : Program) (o : Oper) (a : Act) (w : World) (ρ : Rho) (v : Value) : Prop := ∃ v', (execOp a.eval o).run P w = .ok (.value v') w ∧ RV ρ v v'
theorem Ok.still {P : Program} {o : Oper} {a : Act} {w w0 : World} {ρ : Rho} {v v' : Value} {H : Hp} (h : RH ρ H w0 w) (hr : (execOp a.eval o).run P w = .ok (.value v') w) (hv : RV ρ v v') : Ok0 P o a w ρ v := ⟨v', hr, hv⟩
theorem Ok0.ok {P : Program} {o : Oper} {a : Act} {w w0 : World} {ρ : Rho} {v : Value} {H : Hp} (h0 : Ok0 P o a w ρ v) (h : RH ρ H w0 w) : Ok P o a w ρ v H w0 :=
 let ⟨v', hr, hv⟩ := h0
 ⟨ρ, v', w, .inl hr, Ext.refl _, hv, h⟩

theorem rv_bool {ρ : Rho} {b : Bool} {v : Value} (h : RV ρ (.bool b) v) : v = .bool b := by
 cases h with | one h => cases h with | one h => cases h; rfl
theorem rv_int {ρ : Rho} {k : IntKind} {n : Int} {v : Value} (h : RV ρ (.int k n) v) : v = .int k n := by
 cases h with | one h => cases h with | one h => cases h; rfl
theorem rv_string {ρ : Rho} {s : ByteArray} {v : Value} (h : RV ρ (.string s) v) : v = .string s := by
 cases h with | one h => cases h with | one h => cases h; rfl
theorem rv_ptr {ρ : Rho} {b o : Nat} {v : Value} (h : RV ρ (.pointer (some ⟨b, o, none⟩)) v) : ∃ l, ρ b = some l ∧ v = .pointer (some (l.a.add o)) := by
 cases h with | one h => cases h with | one h => cases h with | ptr b o l h => exact ⟨l, h, rfl⟩
theorem rv_ptr_some {ρ : Rho} {p : Addr} {v : Value} (h : RV ρ (.pointer (some p)) v) : ∃ q, v = .pointer (some q) := by
 cases h with | one h => cases h with | one h => cases h with | ptr b o l h => exact ⟨_, rfl⟩
theorem rv_ptr_none {ρ : Rho} {v : Value} (h : RV ρ (.pointer none) v) : v = .pointer none := by
 cases h with | one h => cases h with | one h => cases h; rfl
theorem rv_nil {ρ : Rho} {n c : Nat} {v : Value} (h : RV ρ (.slice none n c) v) : v = .slice none 0 0 ∧ n = 0 ∧ c = 0 := by
 cases h with | one h => cases h with | one h => cases h; exact ⟨rfl, rfl, rfl⟩
theorem rv_slice {ρ : Rho} {b o n c : Nat} {v : Value} (h : RV ρ (.slice (some ⟨b, o, none⟩) n c) v) :
  ∃ a c', v = .slice (some a) n c' ∧ n ≤ c' ∧ (0 < n ∨ c ≠ 0 → ∃ l, ρ b = some l ∧ a = l.a.add o ∧ (c ≠ 0 → l.sz = c ∧ c' * c + o = l.cap * c)) := by
 cases h with | one h => cases h with | one h => cases h with
  | slice b o n c c' l h hn ht => exact ⟨_, _, rfl, hn, fun _ => ⟨l, h, rfl, ht⟩⟩
  | slice0 b o c' a => exact ⟨_, _, rfl, Nat.zero_le _, fun hh => by omega⟩
theorem rv_slice_some {ρ : Rho} {p : Addr} {n c : Nat} {v : Value} (h : RV ρ (.slice (some p) n c) v) : ∃ a c', v = .slice (some a) n c' := by
 cases h with | one h => cases h with | one h => cases h with
  | slice b o n c c' l h hn ht => exact ⟨_, _, rfl⟩
  | slice0 b o c' a => exact ⟨_, _, rfl⟩
theorem rv_agg {ρ : Rho} {xs : Array Value} {v : Value} (h : RV ρ (.agg xs) v) : ∃ ys : List Value, v = .agg ys.toArray ∧ All2 (RC ρ) xs.toList ys := by
 generalize hu : Value.agg xs = u at h
 cases h with
 | one h =>
  cases h with
  | one h => subst hu; cases h
  | agg h =>
   injection hu with hu
   subst hu
   exact ⟨_, rfl, by simpa using h⟩
 | tuple h => cases hu
theorem rv_tuple {ρ : Rho} {xs : Array Value} {v : Value} (h : RV ρ (.tuple xs) v) : ∃ ys : List Value, v = .tuple ys.toArray ∧ All2 (RT ρ) xs.toList ys := by
 generalize hu : Value.tuple xs = u at h
 cases h with
 | one h =>
  cases h with
  | one h => subst hu; cases h
  | agg h => cases hu
 | tuple h =>
  injection hu with hu
  subst hu
  exact ⟨_, rfl, by simpa using h⟩
theorem rv_undef (ρ : Rho) : RV ρ undef undef := .tuple .nil
theorem RC.cell {ρ : Rho} {u v : Value} (h : RC ρ u v) : cellsOf u = [u] ∧ v.cells = #[v] := by cases h <;> exact ⟨rfl, rfl⟩
theorem RC.oneCell {ρ : Rho} {u v : Value} (h : RC ρ u v) : v.oneCell' = true := by cases h <;> rfl
theorem rt_cells {ρ : Rho} {u v : Value} (h : RT ρ u v) : All2 (RC ρ) (cellsOf u) v.cells.toList := by
 cases h with
 | one h => rw [h.cell.1, h.cell.2]; exact .cons h .nil
 | agg h => simpa [cellsOf, Value.cells] using h

section
variable {P : Program} {o : Oper} {a : Act} {n : Nat} {t : Nat → Value} {w w0 : World} {ρ : Rho} {H : Hp}
theorem ok_mov {x : Operand} {x' : Opd} (ho : o.op = .move x ∨ o.op = .assign x) (hc : cO n x = some x') (hg : RG ρ n t a) (h : RH ρ H w0 w) : Ok0 P o a w ρ (ev t x') :=
 Ok.still h (by rcases ho with ho | ho <;> simp [execOp, ho]) (ev_rel hg hc)
theorem ok_pick {c x y : Operand} {c' x' y' : Opd} {b : Bool} (ho : o.op = .pick c x y) (hc : cO n c = some c') (hx : cO n x = some x') (hy : cO n y = some y') (hb : ev t c' = .bool b) (hg : RG ρ n t a) (h : RH ρ H w0 w) :
  Ok0 P o a w ρ (if b = true then ev t x' else ev t y') := by
 have h1 := rv_bool (hb ▸ ev_rel hg hc)
 refine Ok.still h (v' := if b = true then a.eval x else a.eval y) ?_ ?_
 ·simp [execOp, ho, h1, asBool]
 ·cases b
  ·exact ev_rel hg hy
  ·exact ev_rel hg hx
theorem ok_ext {x : Operand} {x' : Opd} {j : Nat} {vs : Array Value} {v : Value} (ho : o.op = .extract x j) (hc : cO n x = some x') (hx : ev t x' = .tuple vs) (hv : vs.toList[j]? = some v) (hg : RG ρ n t a) (h : RH ρ H w0 w) : Ok0 P o a w ρ v := by
 obtain ⟨ys, hy, hr⟩ := rv_tuple (hx ▸ ev_rel hg hc)
 obtain ⟨u, hu, hR⟩ := hr.get j v hv
 refine Ok.still h (v' := u) ?_ (.one hR)
 simp [execOp, ho, hy, Instr.extract, hu]
theorem ok_un {op : UnOp} {T : TypeId} {x : Operand} {x' : Opd} {v : Value} (ho : o.op = .unOp op T x) (hc : cO n x = some x') (hv : aUn op (ev t x') = some v) (hg : RG ρ n t a) (h : RH ρ H w0 w) : Ok0 P o a w ρ v := by
 have hr := ev_rel hg hc
 generalize ev t x' = u at hv hr
 unfold aUn at hv
 split at hv
 ·rename_i k m
  have := rv_int hr
  split at hv
  ·injection hv with hv
   subst hv
   exact Ok.still h (by simp [execOp, ho, this, Op.unary, Op.intArith]) (.one (.one (.int _ _)))
  ·injection hv with hv
   subst hv
   exact Ok.still h (by simp [execOp, ho, this, Op.unary, Op.intBits, bits]) (.one (.one (.int _ _)))
  ·cases hv
 ·rename_i b
  have := rv_bool hr
  split at hv
  ·injection hv with hv
   subst hv
   exact Ok.still h (by simp [execOp, ho, this, Op.unary]) (.one (.one (.bool _)))
  ·cases hv
 ·cases hv
theorem ok_conv {s d : TypeId} {k : IntKind} {x : Operand} {x' : Opd} {j : IntKind} {m : Int} (ho : o.op = .convert s d x) (hs : (P.underlying s).isSome = true) (hd : P.underlying d = some (.int k)) (hc : cO n x = some x') (hx : ev t x' = .int j m) (hg : RG ρ n t a) (h : RH ρ H w0 w) :
  Ok0 P o a w ρ (.int k (k.wrap m)) := by
 have h1 := rv_int (hx ▸ ev_rel hg hc)
 obtain ⟨u, hu⟩ := Option.isSome_iff_exists.mp hs
 refine Ok.still h ?_ (.one (.one (.int _ _)))
 simp [execOp, ho, h1, convert, run_underlying hu, run_underlying hd, Conv.intToInt]
theorem run_aInt {op : BinOp} {T : TypeId} {k : IntKind} {x y : Int} {v : Value} (hs : op ≠ .shl ∧ op ≠ .shr) (hv : aInt op k x y = some v) (w : World) : (binOp op T (.int k x) (.int k y)).run P w = .ok v w := by
 cases op <;> simp [aInt] at hv <;> simp at hs <;> first
  | (subst hv; simp [binOp, Op.intArith, Op.intCmp, Op.intBits, bits]; done)
  | (obtain ⟨h0, hv⟩ := hv; subst hv; simp [binOp, Op.intDiv, h0]; done)
theorem run_aShift {op : BinOp} {T : TypeId} {k j : IntKind} {x y : Int} {v : Value} (hs : op = .shl ∨ op = .shr) (hv : aShift op k x y = some v) (w : World) : (binOp op T (.int k x) (.int j y)).run P w = .ok v w := by
 unfold aShift at hv
 split at hv
 ·cases hv
 ·rename_i h0
  rcases hs with rfl | rfl
  ·injection hv with hv
   subst hv
   simp [binOp, Op.shift, h0]
  ·injection hv with hv
   subst hv
   simp [binOp, Op.shift, h0]
theorem run_aStr {op : BinOp} {T : TypeId} {x y : ByteArray} {v : Value} (hv : aStr op x y = some v) (w : World) : (binOp op T (.string x) (.string y)).run P w = .ok v w := by
 cases op <;> simp [aStr] at hv
 case add =>
  obtain ⟨h0, hv⟩ := hv
  subst hv
  have : ¬ (IntKind.i64.max < (x.size : Int) + (y.size : Int)) := by simp [IntKind.max, IntKind.signed, IntKind.bits]; omega
  simp only [binOp, Op.stringOp, Int.natCast_add, gt_iff_lt, if_neg this]
  rfl
 all_goals
  subst hv
  simp [binOp, Op.stringOp]
end
section
variable {P : Program} {o : Oper} {a : Act} {n : Nat} {t : Nat → Value} {w w0 : World} {ρ : Rho} {H : Hp}
theorem underlying_of_tk {T : TypeId} : (tkOf (P.underlying T) = 1 → P.underlying T = some .bool) ∧ (tkOf (P.underlying T) = 2 → P.underlying T = some .string) ∧ (tkOf (P.underlying T) = 3 → ∃ e, P.underlying T = some (.pointer e)) ∧ (tkOf (P.underlying T) = 4 → ∃ e, P.underlying T = some (.slice e)) ∧ (tkOf (P.underlying T) = 5 → ∃ k, P.underlying T = some (.int k)) := by
 unfold tkOf
 split <;> simp_all
theorem eq_bool {T : TypeId} (h : P.underlying T = some .bool) (x y : Bool) (w : World) : (Op.equal T (.bool x) (.bool y)).run P w = .ok (x == y) w := run_equal_bool w T x y h
theorem eq_ptr_nil {T e : TypeId} (h : P.underlying T = some (.pointer e)) (q : Option Addr) (w : World) : (Op.equal T (.pointer none) (.pointer q)).run P w = .ok q.isNone w := by
 show (Op.equalIn (9999 + 1) T _ _).run P w = _
 generalize 9999 = d
 cases q <;> simp [Op.equalIn, run_underlying h]
theorem eq_nil_ptr {T e : TypeId} (h : P.underlying T = some (.pointer e)) (q : Addr) (w : World) : (Op.equal T (.pointer (some q)) (.pointer none)).run P w = .ok false w := by
 show (Op.equalIn (9999 + 1) T _ _).run P w = _
 generalize 9999 = d
 simp [Op.equalIn, run_underlying h]
theorem run_aEq {op : BinOp} {T : TypeId} {u v : Value} {b : Bool} {r : Value} (hr : aEq op b = some r) (hu : ∀ w, (Op.equal T u v).run P w = .ok b w)
  (he : op = .eql ∨ op = .neq → ∀ w, (binOp op T u v).run P w = if op = .eql then ((Op.equal T u v).run P w).andThen fun b w => .ok (.bool b) w else ((Op.equal T u v).run P w).andThen fun b w => .ok (.bool !b) w) (w : World) : (binOp op T u v).run P w = .ok r w := by
 cases op <;> simp [aEq] at hr
 ·subst hr
  rw [he (.inl rfl), hu]
  simp
 ·subst hr
  rw [he (.inr rfl), hu]
  simp
theorem run_aBin {tk : Nat} {op : BinOp} {T : TypeId} {u v u' v' r : Value} (hr : aBin tk op u v = some r) (ht : tkOf (P.underlying T) = tk) (hu : RV ρ u u') (hv : RV ρ v v') (w : World) :
  (binOp op T u' v').run P w = .ok r w ∧ ((∃ k n, u' = .int k n) ∨ (∃ b, u' = .bool b) ∨ (∃ s, u' = .string s) ∨ (∃ p, u' = .pointer p) ∨ (∃ p n c, u' = .slice p n c)) ∧ ∃ z, r = z ∧ RV ρ r z := by
 have fin : ∀ {r}, aBin tk op u v = some r → RV ρ r r := by
  intro r hr
  unfold aBin at hr
  split at hr
  ·split at hr
   ·unfold aShift at hr
    split at hr
    ·cases hr
    ·split at hr
     ·injection hr with hr; subst hr; exact .one (.one (.int _ _))
     ·injection hr with hr; subst hr; exact .one (.one (.int _ _))
     ·cases hr
   ·split at hr
    ·cases op <;> simp [aInt] at hr <;> first
      | (subst hr; first | exact .one (.one (.int _ _)) | exact .one (.one (.bool _)))
      | (obtain ⟨_, hr⟩ := hr; subst hr; exact .one (.one (.int _ _)))
    ·cases hr
  ·split at hr
   ·cases op <;> simp [aEq] at hr <;> (subst hr; exact .one (.one (.bool _)))
   ·cases hr
  ·cases op <;> simp [aStr] at hr <;> first
    | (subst hr; exact .one (.one (.bool _)))
    | (obtain ⟨_, hr⟩ := hr; subst hr; exact .one (.one (.string _)))
  ·split at hr
   ·cases op <;> simp [aEq] at hr <;> (subst hr; exact .one (.one (.bool _)))
   ·cases hr
  ·split at hr
   ·cases op <;> simp [aEq] at hr <;> (subst hr; exact .one (.one (.bool _)))
   ·cases hr
  ·split at hr
   ·cases op <;> simp [aEq] at hr <;> (subst hr; exact .one (.one (.bool _)))
   ·cases hr
  ·cases hr
 refine ⟨?_, ?_, r, rfl, fin hr⟩
 ·unfold aBin at hr
  split at hr
  ·have h1 := rv_int hu
   have h2 := rv_int hv
   subst h1 h2
   split at hr
   ·rename_i hs
    refine run_aShift (by cases op <;> simp_all [isShift]) hr w
   ·rename_i hs
    split at hr
    ·rename_i hk
     subst hk
     exact run_aInt (by cases op <;> simp_all [isShift]) hr w
    ·cases hr
  ·have h1 := rv_bool hu
   have h2 := rv_bool hv
   subst h1 h2
   split at hr
   ·rename_i hk
    subst ht
    have := (underlying_of_tk (P := P) (T := T)).1 hk
    exact run_aEq hr (eq_bool this _ _) (fun ho w => by rcases ho with rfl | rfl <;> simp [binOp]) w
   ·cases hr
  ·have h1 := rv_string hu
   have h2 := rv_string hv
   subst h1 h2
   exact run_aStr hr w
  ·have h1 := rv_ptr_none hu
   subst h1
   split at hr
   ·rename_i q hk
    subst ht
    obtain ⟨e, this⟩ := (underlying_of_tk (P := P) (T := T)).2.2.1 hk
    cases q with
    | none =>
     have h2 := rv_ptr_none hv
     subst h2
     exact run_aEq hr (eq_ptr_nil this _) (fun ho w => by rcases ho with rfl | rfl <;> simp [binOp]) w
    | some q =>
     obtain ⟨q', h2⟩ := rv_ptr_some hv
     subst h2
     exact run_aEq (b := false) hr (fun w => eq_ptr_nil this _ w) (fun ho w => by rcases ho with rfl | rfl <;> simp [binOp]) w
   ·cases hr
  ·obtain ⟨q', h1⟩ := rv_ptr_some hu
   have h2 := rv_ptr_none hv
   subst h1 h2
   split at hr
   ·rename_i hk
    subst ht
    obtain ⟨e, this⟩ := (underlying_of_tk (P := P) (T := T)).2.2.1 hk
    exact run_aEq hr (eq_nil_ptr this _) (fun ho w => by rcases ho with rfl | rfl <;> simp [binOp]) w
   ·cases hr
  ·rename_i a n c
   obtain ⟨h2, _, _⟩ := rv_nil hv
   subst h2
   split at hr
   ·rename_i hk
    subst ht
    obtain ⟨e, this⟩ := (underlying_of_tk (P := P) (T := T)).2.2.2.1 hk
    cases a with
    | none =>
     obtain ⟨h1, _, _⟩ := rv_nil hu
     subst h1
     exact run_aEq hr (fun w => run_equal_slice_nil w T e _ _ _ this) (fun ho w => by rcases ho with rfl | rfl <;> simp [binOp]) w
    | some a =>
     obtain ⟨a', c', h1⟩ := rv_slice_some hu
     subst h1
     exact run_aEq (b := false) hr (fun w => run_equal_slice_nil w T e (some a') _ _ this) (fun ho w => by rcases ho with rfl | rfl <;> simp [binOp]) w
   ·cases hr
  ·cases hr
 ·unfold aBin at hr
  split at hr
  ·exact .inl ⟨_, _, rv_int hu⟩
  ·exact .inr (.inl ⟨_, rv_bool hu⟩)
  ·exact .inr (.inr (.inl ⟨_, rv_string hu⟩))
  ·exact .inr (.inr (.inr (.inl ⟨_, rv_ptr_none hu⟩)))
  ·obtain ⟨q', h1⟩ := rv_ptr_some hu
   exact .inr (.inr (.inr (.inl ⟨_, h1⟩)))
  ·rename_i a n c
   cases a with
   | none => exact .inr (.inr (.inr (.inr ⟨_, _, _, (rv_nil hu).1⟩)))
   | some a =>
    obtain ⟨a', c', h1⟩ := rv_slice_some hu
    exact .inr (.inr (.inr (.inr ⟨_, _, _, h1⟩)))
  ·cases hr
theorem ok_bin {op : BinOp} {T yT : TypeId} {x y : Operand} {x' y' : Opd} {r : Value} (ho : o.op = .binOp op T x y yT) (hx : cO n x = some x') (hy : cO n y = some y') (hr : aBin (tkOf (P.underlying T)) op (ev t x') (ev t y') = some r) (hg : RG ρ n t a) (h : RH ρ H w0 w) : Ok0 P o a w ρ r := by
 have hu := ev_rel hg hx
 have hv := ev_rel hg hy
 obtain ⟨h1, h2, z, rfl, h3⟩ := run_aBin hr rfl hu hv w
 refine Ok.still h (v' := r) ?_ h3
 have hq : (eqGuard op T x y (a.eval x) (a.eval y)).run P w = .ok () w := by
  unfold eqGuard
  rcases h2 with ⟨_, _, h2⟩ | ⟨_, h2⟩ | ⟨_, h2⟩ | ⟨_, h2⟩ | ⟨_, _, _, h2⟩ <;> rw [h2] <;> cases op <;> simp
 simp only [execOp, ho, Sem.run_bind, hq, Result.andThen_ok, h1]
 rfl
end
end Go.Proofs.YtjmjkdelkaflmaaGreatDoor.Abs
