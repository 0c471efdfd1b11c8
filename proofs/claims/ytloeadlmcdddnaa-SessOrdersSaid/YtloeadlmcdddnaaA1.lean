/- An abstract machine for the program's text, part 1: values whose addresses are those of abstract blocks, and what ties them to the machine's memory. -/
import Derived.Below
import Derived.OwnWalk
import Derived.Maps.AppendAt
import Derived.Lib.AppendStr
import Derived.Laws.BytesArg
import Derived.Laws.MakeOwn
import Derived.Deep.MidRow
import Derived.Deep.WholeRow
import Derived.Laws.IdiomCopy
import Derived.Lib.ConvBytes
import Derived.Lib.SliceRun
import Derived.WalkKit
set_option linter.unusedVariables false
set_option linter.unusedSimpArgs false
namespace Go.Proofs.Ytloeadlmcdddnaa.Abs
open Go Go.RowKit

/-- Where an abstract block lies: its first cell, the cells of an element, the room for elements. -/
structure Loc where
  a : Addr
  sz : Nat
  cap : Nat
abbrev Rho := Nat → Option Loc

/-- One cell's value, told with abstract blocks, and the machine's. The cap of an abstract slice is a mark: no 0: it reaches to the end of its row's room, whose elements have so many cells. -/
inductive RC (ρ : Rho) : Value → Value → Prop
  | bool (b : Bool) : RC ρ (.bool b) (.bool b)
  | int (k : IntKind) (n : Int) : RC ρ (.int k n) (.int k n)
  | string (s : ByteArray) : RC ρ (.string s) (.string s)
  | nilIface : RC ρ .nilIface .nilIface
  | nilFunc : RC ρ .nilFunc .nilFunc
  | iface (t : TypeId) (k : IntKind) (n : Int) : RC ρ (.iface t (.int k n)) (.iface t (.int k n))
  | ptrNil : RC ρ (.pointer none) (.pointer none)
  | ptr (b o : Nat) (l : Loc) (h : ρ b = some l) : RC ρ (.pointer (some ⟨b, o, none⟩)) (.pointer (some (l.a.add o)))
  | sliceNil : RC ρ (.slice none 0 0) (.slice none 0 0)
  | slice (b o n c c' : Nat) (l : Loc) (h : ρ b = some l) (hn : n ≤ c') (ht : c ≠ 0 → l.sz = c ∧ c' * c + o = l.cap * c) : RC ρ (.slice (some ⟨b, o, none⟩) n c) (.slice (some (l.a.add o)) n c')
  | slice0 (b o c' : Nat) (a : Addr) : RC ρ (.slice (some ⟨b, o, none⟩) 0 0) (.slice (some a) 0 c')

inductive All2 (R : Value → Value → Prop) : List Value → List Value → Prop
  | nil : All2 R [] []
  | cons {x y : Value} {xs ys : List Value} : R x y → All2 R xs ys → All2 R (x :: xs) (y :: ys)
/-- A value of a variable: one cell, or the cells of a struct or an array. -/
inductive RT (ρ : Rho) : Value → Value → Prop
  | one {u v : Value} : RC ρ u v → RT ρ u v
  | agg {xs ys : List Value} : All2 (RC ρ) xs ys → RT ρ (.agg xs.toArray) (.agg ys.toArray)
inductive RV (ρ : Rho) : Value → Value → Prop
  | one {u v : Value} : RT ρ u v → RV ρ u v
  | tuple {xs ys : List Value} : All2 (RT ρ) xs ys → RV ρ (.tuple xs.toArray) (.tuple ys.toArray)

def Ext (ρ ρ' : Rho) : Prop := ∀ b l, ρ b = some l → ρ' b = some l
theorem Ext.refl (ρ : Rho) : Ext ρ ρ := fun _ _ h => h
theorem Ext.trans {a b c : Rho} (h : Ext a b) (h' : Ext b c) : Ext a c := fun b l e => h' b l (h b l e)
theorem RC.ext {ρ ρ' : Rho} (he : Ext ρ ρ') {u v : Value} (h : RC ρ u v) : RC ρ' u v := by
  cases h with
  | bool b => exact .bool b
  | int k n => exact .int k n
  | string s => exact .string s
  | nilIface => exact .nilIface
  | nilFunc => exact .nilFunc
  | iface t k n => exact .iface t k n
  | ptrNil => exact .ptrNil
  | ptr b o l h => exact .ptr b o l (he b l h)
  | sliceNil => exact .sliceNil
  | slice b o n c c' l h hn ht => exact .slice b o n c c' l (he b l h) hn ht
  | slice0 b o c' a => exact .slice0 b o c' a
theorem All2.imp {R S : Value → Value → Prop} (h : ∀ u v, R u v → S u v) : ∀ {xs ys : List Value}, All2 R xs ys → All2 S xs ys
  | _, _, .nil => .nil
  | _, _, .cons a b => .cons (h _ _ a) (All2.imp h b)
theorem RT.ext {ρ ρ' : Rho} (he : Ext ρ ρ') {u v : Value} (h : RT ρ u v) : RT ρ' u v := by
  cases h with
  | one h => exact .one (h.ext he)
  | agg h => exact .agg (h.imp fun _ _ h => h.ext he)
theorem RV.ext {ρ ρ' : Rho} (he : Ext ρ ρ') {u v : Value} (h : RV ρ u v) : RV ρ' u v := by
  cases h with
  | one h => exact .one (h.ext he)
  | tuple h => exact .tuple (h.imp fun _ _ h => h.ext he)
theorem All2.length {R : Value → Value → Prop} : ∀ {xs ys : List Value}, All2 R xs ys → xs.length = ys.length
  | _, _, .nil => rfl
  | _, _, .cons _ b => by simp [b.length]
theorem All2.get {R : Value → Value → Prop} : ∀ {xs ys : List Value}, All2 R xs ys → ∀ (i : Nat) (x : Value), xs[i]? = some x → ∃ y, ys[i]? = some y ∧ R x y
  | _, _, .nil, i, x, h => by simp at h
  | _, _, .cons (x := a) (y := b) r s, 0, x, h => by
    simp at h
    subst h
    exact ⟨b, rfl, r⟩
  | _, _, .cons (xs := xs) (ys := ys) r s, i + 1, x, h => by
    obtain ⟨y, hy, hr⟩ := s.get i x (by simpa using h)
    exact ⟨y, by simpa using hy, hr⟩
theorem All2.get' {R : Value → Value → Prop} : ∀ {xs ys : List Value}, All2 R xs ys → ∀ (i : Nat) (y : Value), ys[i]? = some y → ∃ x, xs[i]? = some x ∧ R x y
  | _, _, .nil, i, x, h => by simp at h
  | _, _, .cons (x := a) (y := b) r s, 0, x, h => by
    simp at h
    subst h
    exact ⟨a, rfl, r⟩
  | _, _, .cons (xs := xs) (ys := ys) r s, i + 1, x, h => by
    obtain ⟨y, hy, hr⟩ := s.get' i x (by simpa using h)
    exact ⟨y, by simpa using hy, hr⟩
theorem All2.of_get {R : Value → Value → Prop} : ∀ {xs ys : List Value}, xs.length = ys.length → (∀ (i : Nat) (x y : Value), xs[i]? = some x → ys[i]? = some y → R x y) → All2 R xs ys
  | [], [], _, _ => .nil
  | x :: xs, y :: ys, hl, h => .cons (h 0 x y rfl rfl) (All2.of_get (by simpa using hl) fun i a b ha hb => h (i + 1) a b (by simpa using ha) (by simpa using hb))
  | [], _ :: _, hl, _ => by simp at hl
  | _ :: _, [], hl, _ => by simp at hl
theorem All2.append {R : Value → Value → Prop} : ∀ {xs ys xs' ys' : List Value}, All2 R xs ys → All2 R xs' ys' → All2 R (xs ++ xs') (ys ++ ys')
  | _, _, _, _, .nil, h => h
  | _, _, _, _, .cons a b, h => .cons a (b.append h)
theorem All2.take {R : Value → Value → Prop} : ∀ {xs ys : List Value} (n : Nat), All2 R xs ys → All2 R (xs.take n) (ys.take n)
  | _, _, 0, _ => by simp; exact .nil
  | _, _, n + 1, .nil => .nil
  | _, _, n + 1, .cons a b => .cons a (b.take n)
theorem All2.drop {R : Value → Value → Prop} : ∀ {xs ys : List Value} (n : Nat), All2 R xs ys → All2 R (xs.drop n) (ys.drop n)
  | _, _, 0, h => h
  | _, _, n + 1, .nil => .nil
  | _, _, n + 1, .cons a b => b.drop n

/-- An abstract block: was it made here (and may it be written)? Its elements' type; its cells. -/
structure Blk where
  rw : Bool
  e : TypeId
  cells : List Value
structure Hp where
  m : Nat → Option Blk
  nx : Nat
def Hp.set (H : Hp) (b : Nat) (x : Blk) : Hp := { H with m := fun i => if i = b then some x else H.m i }
def Hp.push (H : Hp) (x : Blk) : Hp := { m := fun i => if i = H.nx then some x else H.m i, nx := H.nx + 1 }
def Hp.cut (H : Hp) (b : Nat) : Hp := { H with m := fun i => if i = b then none else H.m i }

/-- No cell of the row is frozen. -/
def Soft (fr : Nat × Nat) (n : Nat) : Prop := fr.1 = fr.2 ∨ n ≤ fr.1
/-- A block of one's own. -/
def Own (w0 w : World) (k : Blk) (l : Loc) : Prop :=
  ∃ g cur fr, l.a = ⟨g, 0, none⟩ ∧ w0.heap.size ≤ g ∧ w.heap[g]? = some (.cells cur k.e fr) ∧ Soft fr cur.size ∧ k.cells.length ≤ cur.size ∧ cur.size = l.cap * l.sz ∧ l.cap ≤ maxLen
structure RH (ρ : Rho) (H : Hp) (w0 w : World) : Prop where
  below : Below w0.heap.size w0 w
  cells : ∀ b k, H.m b = some k → ∃ l, ρ b = some l ∧ (∀ i u, k.cells[i]? = some u → ∃ u', w.cell? (l.a.add i) = some u' ∧ RC ρ u u') ∧ (k.rw = true → Own w0 w k l)
  apart : ∀ b b' k k' l l', H.m b = some k → H.m b' = some k' → k.rw = true → b ≠ b' → ρ b = some l → ρ b' = some l' → l.a.block ≠ l'.a.block
  fresh : ∀ b, H.nx ≤ b → ρ b = none
  inw : ∀ b l, ρ b = some l → l.a.block < w.heap.size
theorem RH.size {ρ : Rho} {H : Hp} {w0 w : World} (h : RH ρ H w0 w) : w0.heap.size ≤ w.heap.size := h.below.size
theorem RH.lt {ρ : Rho} {H : Hp} {w0 w : World} (h : RH ρ H w0 w) {b : Nat} {l : Loc} (hb : ρ b = some l) : b < H.nx := by
  rcases Nat.lt_or_ge b H.nx with h1 | h1
  · exact h1
  · rw [h.fresh b h1] at hb
    cases hb
theorem RH.live {ρ : Rho} {H : Hp} {w0 w : World} (h : RH ρ H w0 w) {b : Nat} {k : Blk} (hb : H.m b = some k) : b < H.nx := by
  obtain ⟨l, hl, _⟩ := h.cells b k hb
  exact h.lt hl
theorem add_plain (g j : Nat) : (⟨g, 0, none⟩ : Addr).add j = ⟨g, j, none⟩ := by unfold Addr.add; split <;> simp_all
theorem add_add (a : Addr) (i j : Nat) : (a.add i).add j = a.add (i + j) := by
  unfold Addr.add
  by_cases hi : i = 0
  · subst hi
    simp
  · by_cases hj : j = 0
    · subst hj
      simp [hi]
    · have : i + j ≠ 0 := by omega
      simp [hi, hj, this, Nat.add_assoc]
theorem add_block (a : Addr) (i : Nat) : (a.add i).block = a.block := by unfold Addr.add; split <;> rfl
/-- The world draws, or makes what is new and of no block of ours. -/
theorem RH.world {ρ : Rho} {H : Hp} {w0 w w' : World} (h : RH ρ H w0 w) (hb : Below w.heap.size w w') : RH ρ H w0 w' := by
  have hlt : ∀ {a : Addr} {v : Value}, w.cell? a = some v → w'.cell? a = some v := fun {a v} hc => (hb.cell (World.block_lt_of_cell? w a hc)).trans hc
  refine ⟨h.below.trans ⟨hb.os, hb.tape, hb.output, hb.size, fun i hi => hb.block i (Nat.lt_of_lt_of_le hi h.size)⟩, fun b k hk => ?_, h.apart, h.fresh, fun b l hl => Nat.lt_of_lt_of_le (h.inw b l hl) hb.size⟩
  obtain ⟨l, hl, hc, ho⟩ := h.cells b k hk
  refine ⟨l, hl, fun i u hu => ?_, fun hrw => ?_⟩
  · obtain ⟨u', h1, h2⟩ := hc i u hu
    exact ⟨u', hlt h1, h2⟩
  · obtain ⟨g, cur, fr, h1, h2, h3, h4⟩ := ho hrw
    exact ⟨g, cur, fr, h1, h2, (hb.block g (Array.getElem?_eq_some_iff.1 h3).1).trans h3, h4⟩
/-- A new block: what the machine has laid at the end of its memory. -/
theorem RH.push {ρ : Rho} {H : Hp} {w0 w : World} (h : RH ρ H w0 w) (e : TypeId) (xs : List Value) (cur : List Value) (sz cap : Nat) (hx : All2 (RC ρ) xs (cur.take xs.length)) (hl : xs.length ≤ cur.length) (hc : cur.length = cap * sz) (hm : cap ≤ maxLen) :
    ∃ ρ', Ext ρ ρ' ∧ ρ' H.nx = some ⟨⟨w.heap.size, 0, none⟩, sz, cap⟩ ∧ RH ρ' (H.push ⟨true, e, xs⟩) w0 (w.alloc (.cells cur.toArray e)) := by
  have he : Ext ρ (fun b => if b = H.nx then some ⟨⟨w.heap.size, 0, none⟩, sz, cap⟩ else ρ b) := fun b l hb => by
    have := h.lt hb
    show (if b = H.nx then _ else _) = _
    rw [if_neg (by omega)]
    exact hb
  have hb0 : Below w.heap.size w (w.alloc (.cells cur.toArray e)) := (Below.refl _ _).alloc (Nat.le_refl _) _
  have h1 := h.world hb0
  have hnew : (w.alloc (.cells cur.toArray e)).heap[w.heap.size]? = some (.cells cur.toArray e (0, 0)) := heap_alloc_new w _
  refine ⟨_, he, by simp, h1.below, fun b k hk => ?_, fun b b' k k' l l' hk hk' hrw hne hl hl' => ?_, fun b hb => ?_, fun b l hl => ?_⟩
  · simp only [Hp.push] at hk
    by_cases hbn : b = H.nx
    · rw [if_pos hbn] at hk
      injection hk with hk
      subst hk
      refine ⟨⟨⟨w.heap.size, 0, none⟩, sz, cap⟩, by simp only [if_pos hbn], fun i u hu => ?_, fun _ => ⟨w.heap.size, cur.toArray, (0, 0), rfl, h.size, hnew, Or.inl rfl, by simpa using hl, by simpa using hc, hm⟩⟩
      obtain ⟨y, hy, hr⟩ := hx.get i u hu
      refine ⟨y, ?_, hr.ext he⟩
      rw [List.getElem?_take] at hy
      split at hy
      · rw [add_plain]
        simp only [World.cell?, hnew]
        simpa using hy
      · cases hy
    · rw [if_neg hbn] at hk
      obtain ⟨l, hl, hc, ho⟩ := h1.cells b k hk
      exact ⟨l, by simp only [if_neg hbn]; exact hl, fun i u hu => let ⟨u', a, r⟩ := hc i u hu; ⟨u', a, r.ext he⟩, ho⟩
  · simp only [Hp.push] at hk hk'
    by_cases hb : b = H.nx
    · simp only [if_pos hb] at hl
      injection hl with hl
      have hb' : b' ≠ H.nx := fun e => hne (hb.trans e.symm)
      simp only [if_neg hb'] at hl'
      have := h.inw b' l' hl'
      subst hl
      show w.heap.size ≠ _
      omega
    · rw [if_neg hb] at hk
      simp only [if_neg hb] at hl
      by_cases hb' : b' = H.nx
      · simp only [if_pos hb'] at hl'
        injection hl' with hl'
        have := h.inw b l hl
        subst hl'
        show _ ≠ w.heap.size
        omega
      · rw [if_neg hb'] at hk'
        simp only [if_neg hb'] at hl'
        exact h.apart b b' k k' l l' hk hk' hrw hne hl hl'
  · simp only [Hp.push] at hb
    rw [if_neg (by omega)]
    exact h.fresh b (by omega)
  · by_cases hbn : b = H.nx
    · simp only [if_pos hbn] at hl
      injection hl with hl
      subst hl
      simp
    · simp only [if_neg hbn] at hl
      have := h.inw b l hl
      simp
      omega
/-- Cells of a block of one's own are written. -/
theorem RH.put {ρ : Rho} {H : Hp} {w0 w : World} (h : RH ρ H w0 w) {b : Nat} {k : Blk} {l : Loc} (hk : H.m b = some k) (hl : ρ b = some l) (hrw : k.rw = true) (cur cur' : Array Value) (fr fr' : Nat × Nat) (g : Nat) (hla : l.a = ⟨g, 0, none⟩)
    (hcur : w.heap[g]? = some (.cells cur k.e fr)) (hso : Soft fr' cur'.size) (hs : cur'.size = cur.size) (xs : List Value) (hxl : xs.length ≤ cur.size) (hx : All2 (RC ρ) xs (cur'.toList.take xs.length)) :
    RH ρ (H.set b { k with cells := xs }) w0 { w with heap := w.heap.setIfInBounds g (.cells cur' k.e fr') } := by
  obtain ⟨l1, hl1, hc, ho⟩ := h.cells b k hk
  rw [hl] at hl1
  injection hl1 with hl1
  subst hl1
  obtain ⟨g', cur1, fr1, e1, hg0, e2, e2', e3, e4, e5⟩ := ho hrw
  rw [hla] at e1
  injection e1 with e1
  subst e1
  rw [hcur] at e2
  injection e2 with e2
  injection e2 with e2 e2a e2b
  subst e2
  have hgl : g < w.heap.size := (Array.getElem?_eq_some_iff.1 hcur).1
  have hfar : ∀ i, i ≠ g → (w.heap.setIfInBounds g (Obj.cells cur' k.e fr'))[i]? = w.heap[i]? := fun i hi => by simp [Ne.symm hi]
  have hnew : (w.heap.setIfInBounds g (Obj.cells cur' k.e fr'))[g]? = some (.cells cur' k.e fr') := by simp [hgl]
  have hcell : ∀ a : Addr, a.block ≠ g → World.cell? { w with heap := w.heap.setIfInBounds g (.cells cur' k.e fr') } a = w.cell? a := fun a ha => by
    simp only [World.cell?]
    rw [hfar _ ha]
  refine ⟨⟨h.below.os, h.below.tape, h.below.output, by simpa using h.below.size, fun i hi => (hfar i (by omega)).trans (h.below.block i hi)⟩, fun b' k' hk' => ?_, fun b1 b2 k1 k2 l1 l2 hk1 hk2 hr1 hne hl1 hl2 => ?_, h.fresh, fun b' l' hl' => by simpa using h.inw b' l' hl'⟩
  · simp only [Hp.set] at hk'
    by_cases hb : b' = b
    · rw [if_pos hb] at hk'
      injection hk' with hk'
      subst hk' hb
      refine ⟨l, hl, fun i u hu => ?_, fun _ => ⟨g, cur', fr', hla, hg0, hnew, hso, by rw [hs]; exact hxl, by rw [hs]; exact e4, e5⟩⟩
      obtain ⟨y, hy, hr⟩ := hx.get i u hu
      rw [List.getElem?_take] at hy
      split at hy
      · refine ⟨y, ?_, hr⟩
        rw [hla, add_plain]
        simp only [World.cell?, hnew]
        simpa using hy
      · cases hy
    · rw [if_neg hb] at hk'
      obtain ⟨l', hl', hc', ho'⟩ := h.cells b' k' hk'
      have hne := h.apart b b' k k' l l' hk hk' hrw (Ne.symm hb) hl hl'
      rw [hla] at hne
      refine ⟨l', hl', fun i u hu => ?_, fun hr => ?_⟩
      · obtain ⟨u', a, r⟩ := hc' i u hu
        exact ⟨u', (hcell _ (by rw [add_block]; exact Ne.symm hne)).trans a, r⟩
      · obtain ⟨g2, cur2, fr2, a1, a2, a3, a4⟩ := ho' hr
        refine ⟨g2, cur2, fr2, a1, a2, (hfar g2 (fun e => hne (by rw [a1, e]))).trans a3, a4⟩
  · simp only [Hp.set] at hk1 hk2
    have f1 : ∃ q, H.m b1 = some q ∧ q.rw = true := by
      by_cases e : b1 = b
      · exact ⟨k, by rw [e]; exact hk, hrw⟩
      · rw [if_neg e] at hk1
        exact ⟨k1, hk1, hr1⟩
    have f2 : ∃ q, H.m b2 = some q := by
      by_cases e : b2 = b
      · exact ⟨k, by rw [e]; exact hk⟩
      · rw [if_neg e] at hk2
        exact ⟨k2, hk2⟩
    obtain ⟨q1, hq1, hr⟩ := f1
    obtain ⟨q2, hq2⟩ := f2
    exact h.apart b1 b2 q1 q2 l1 l2 hq1 hq2 hr hne hl1 hl2
/-- A block is forgotten. -/
theorem RH.cut {ρ : Rho} {H : Hp} {w0 w : World} (h : RH ρ H w0 w) (b : Nat) : RH ρ (H.cut b) w0 w := by
  have f : ∀ {b' k}, (H.cut b).m b' = some k → H.m b' = some k := fun {b' k} hk => by
    simp only [Hp.cut] at hk
    split at hk
    · cases hk
    · exact hk
  exact ⟨h.below, fun b' k hk => h.cells b' k (f hk), fun b1 b2 k1 k2 l1 l2 hk1 hk2 => h.apart b1 b2 k1 k2 l1 l2 (f hk1) (f hk2), h.fresh, h.inw⟩
/-- A block gets a new number. -/
theorem RH.renew {ρ : Rho} {H : Hp} {w0 w : World} (h : RH ρ H w0 w) {b : Nat} {k : Blk} {l : Loc} (hk : H.m b = some k) (hl : ρ b = some l) :
    ∃ ρ', Ext ρ ρ' ∧ ρ' H.nx = some l ∧ RH ρ' ((H.cut b).push k) w0 w := by
  have he : Ext ρ (fun i => if i = H.nx then some l else ρ i) := fun i q hq => by
    have := h.lt hq
    show (if i = H.nx then _ else _) = _
    rw [if_neg (by omega)]
    exact hq
  have f : ∀ {b' k'}, ((H.cut b).push k).m b' = some k' → (b' = H.nx ∧ k' = k) ∨ (b' ≠ H.nx ∧ b' ≠ b ∧ H.m b' = some k') := fun {b' k'} hk' => by
    replace hk' : (if b' = H.nx then some k else if b' = b then none else H.m b') = some k' := hk'
    by_cases e1 : b' = H.nx
    · rw [if_pos e1] at hk'
      injection hk' with e
      exact .inl ⟨e1, e.symm⟩
    · rw [if_neg e1] at hk'
      by_cases e2 : b' = b
      · rw [if_pos e2] at hk'
        cases hk'
      · rw [if_neg e2] at hk'
        exact .inr ⟨e1, e2, hk'⟩
  refine ⟨_, he, by simp, h.below, fun b' k' hk' => ?_, fun b1 b2 k1 k2 l1 l2 hk1 hk2 hr hne hl1 hl2 => ?_, fun i hi => ?_, fun i q hq => ?_⟩
  · rcases f hk' with ⟨rfl, rfl⟩ | ⟨h1, h2, h3⟩
    · obtain ⟨l', hl', hc, ho⟩ := h.cells b k' hk
      rw [hl] at hl'
      injection hl' with hl'
      subst hl'
      exact ⟨l, by simp, fun i u hu => let ⟨u', x, r⟩ := hc i u hu; ⟨u', x, r.ext he⟩, ho⟩
    · obtain ⟨l', hl', hc, ho⟩ := h.cells b' k' h3
      exact ⟨l', he _ _ hl', fun i u hu => let ⟨u', x, r⟩ := hc i u hu; ⟨u', x, r.ext he⟩, ho⟩
  · rcases f hk1 with ⟨rfl, rfl⟩ | ⟨a1, a2, a3⟩ <;> rcases f hk2 with ⟨rfl, rfl⟩ | ⟨c1, c2, c3⟩
    · exact absurd rfl hne
    · simp only [if_true] at hl1
      injection hl1 with hl1
      subst hl1
      simp only [if_neg c1] at hl2
      exact h.apart b b2 _ _ _ _ hk c3 hr (Ne.symm c2) hl hl2
    · simp only [if_true] at hl2
      injection hl2 with hl2
      subst hl2
      simp only [if_neg a1] at hl1
      exact h.apart b1 b _ _ _ _ a3 hk hr a2 hl1 hl
    · simp only [if_neg a1] at hl1
      simp only [if_neg c1] at hl2
      exact h.apart b1 b2 _ _ _ _ a3 c3 hr hne hl1 hl2
  · simp only [Hp.push, Hp.cut] at hi
    rw [if_neg (by omega)]
    exact h.fresh i (by omega)
  · by_cases e : i = H.nx
    · simp only [if_pos e] at hq
      injection hq with hq
      subst hq
      exact h.inw b _ hl
    · simp only [if_neg e] at hq
      exact h.inw i q hq
end Go.Proofs.Ytloeadlmcdddnaa.Abs
