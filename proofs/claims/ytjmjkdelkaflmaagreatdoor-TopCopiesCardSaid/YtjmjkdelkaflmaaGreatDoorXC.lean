/- An abstract machine for the program's text, part 9: copy, len, min and max, conversions of bytes, '==' of structs. -/
import Derived.Test.YtjmjkdelkaflmaaGreatDoorXB
import Derived.DeepKeys
set_option linter.unusedVariables false
set_option linter.unusedSimpArgs false
namespace Go.Proofs.YtjmjkdelkaflmaaGreatDoor.Abs
open Go Go.RowKit
section
variable {P : Program} {o : Oper} {a : Act} {n : Nat} {t : Nat → Value} {w w0 : World} {ρ : Rho} {H : Hp}
theorem run_builtin {ca : Call} {b : Builtin} {xs : Array Operand} {Ts : Array TypeId} (hop : o.op = .call ca) (hc1 : ca.callee = .builtin b) (hc2 : ca.args = xs) (hc3 : ca.argTypes = Ts) :
  (execOp a.eval o).run P w = (builtin b Ts o.type (xs.map fun | .const _ => true | _ => false) (xs.map a.eval)).run P w := by
 simp only [execOp, hop, resolve, hc1, hc2, hc3, Sem.run_bind, Sem.run_pure, Result.andThen_ok, invoke]
 rfl
theorem ok_len {ca : Call} {T : TypeId} {x : Operand} {x' : Opd} {m : Nat} (hop : o.op = .call ca) (hc1 : ca.callee = .builtin .len) (hc2 : ca.args = #[x]) (hc3 : ca.argTypes = #[T]) (hx : cO n x = some x')
  (hv : (P.underlying T = some .string ∧ ∃ s, ev t x' = .string s ∧ s.size = m) ∨ ∃ e, P.underlying T = some (.slice e) ∧ ∃ p c, ev t x' = .slice p m c) (hg : RG ρ n t a) (h : RH ρ H w0 w) : Ok0 P o a w ρ (.int .i64 m) := by
 have hr := ev_rel hg hx
 refine Ok.still h ?_ (.one (.one (.int _ _)))
 rw [run_builtin hop hc1 hc2 hc3]
 rcases hv with ⟨hu, s, he, rfl⟩ | ⟨e, hu, p, c, he⟩
 ·have := rv_string (he ▸ hr)
  simp [builtin, Builtin.len_, run_underlying hu, this, goInt]
 ·have : ∃ p' c', a.eval x = .slice p' m c' := by
   rw [he] at hr
   cases p with
   | none =>
    obtain ⟨h1, rfl, rfl⟩ := rv_nil hr
    exact ⟨_, _, h1⟩
   | some p =>
    obtain ⟨q, c', h1⟩ := rv_slice_some hr
    exact ⟨_, _, h1⟩
  obtain ⟨p', c', this⟩ := this
  simp [builtin, Builtin.len_, run_underlying hu, this, goInt]
theorem ok_lenK {ca : Call} {T e : TypeId} {x : Operand} {m : Nat} (hop : o.op = .call ca) (hc1 : ca.callee = .builtin .len) (hc2 : ca.args = #[x]) (hc3 : ca.argTypes = #[T]) (hu : P.underlying T = some (.array m e) ∨ ∃ T', P.underlying T = some (.pointer T') ∧ P.underlying T' = some (.array m e)) (h : RH ρ H w0 w) : Ok0 P o a w ρ (.int .i64 m) := by
 refine Ok.still h ?_ (.one (.one (.int _ _)))
 rw [run_builtin hop hc1 hc2 hc3]
 rcases hu with hu | ⟨T', hu, hu'⟩
 ·simp [builtin, Builtin.len_, run_underlying hu, goInt]
 ·simp [builtin, Builtin.len_, run_underlying hu, run_underlying hu', goInt]
theorem ok_min {ca : Call} {Ts : Array TypeId} {x y : Operand} {x' y' : Opd} {k : IntKind} {p q : Int} (hop : o.op = .call ca) (hc1 : ca.callee = .builtin .min) (hc2 : ca.args = #[x, y]) (hc3 : ca.argTypes = Ts) (hx : cO n x = some x') (hy : cO n y = some y') (h1 : ev t x' = .int k p) (h2 : ev t y' = .int k q) (hg : RG ρ n t a) (h : RH ρ H w0 w) :
  Ok0 P o a w ρ (.int k (if q < p then q else p)) := by
 have e1 := rv_int (h1 ▸ ev_rel hg hx)
 have e2 := rv_int (h2 ▸ ev_rel hg hy)
 refine Ok.still h ?_ (.one (.one (.int _ _)))
 rw [run_builtin hop hc1 hc2 hc3]
 simp [builtin, e1, e2, run_min_int2]
theorem ok_max {ca : Call} {Ts : Array TypeId} {x y : Operand} {x' y' : Opd} {k : IntKind} {p q : Int} (hop : o.op = .call ca) (hc1 : ca.callee = .builtin .max) (hc2 : ca.args = #[x, y]) (hc3 : ca.argTypes = Ts) (hx : cO n x = some x') (hy : cO n y = some y') (h1 : ev t x' = .int k p) (h2 : ev t y' = .int k q) (hg : RG ρ n t a) (h : RH ρ H w0 w) :
  Ok0 P o a w ρ (.int k (if p < q then q else p)) := by
 have e1 := rv_int (h1 ▸ ev_rel hg hx)
 have e2 := rv_int (h2 ▸ ev_rel hg hy)
 refine Ok.still h ?_ (.one (.one (.int _ _)))
 rw [run_builtin hop hc1 hc2 hc3]
 simp [builtin, e1, e2, run_max_int2]
theorem run_copy {T T2 ty E : TypeId} {sz m dn dc : Nat} {p : Option Addr} {v : Value} {zs : List Value} {w' : World} (hu : P.underlying T = some (.slice E)) (hs : (P.info? E).map (·.size) = some sz) (hl : (Builtin.lenOf v).run P w = .ok m w) (hf : (Builtin.firstCells sz (min m dn) v).run P w = .ok zs.toArray w)
  (hst : match p with | some q => (storeCells q zs 0).run P w = .ok () w' | none => w' = w) : (Builtin.copy_ #[T, T2] ty #[.slice p dn dc, v]).run P w = .ok (.int .i64 ((min m dn : Nat) : Int)) w' := by
 have hf' : (Builtin.firstCells sz (Nat.min m dn) v).run P w = .ok zs.toArray w := hf
 cases p with
 | none =>
  simp only at hst
  subst hst
  simp [Builtin.copy_, run_underlying hu, run_sizeOf hs, hl, hf', goInt]
 | some q =>
  simp only at hst
  simp [Builtin.copy_, run_underlying hu, run_sizeOf hs, hl, hf', hst, goInt]
theorem ok_copy {ca : Call} {T T2 E : TypeId} {x y : Operand} {x' y' : Opd} {sz : Nat} {v : Value} {H' : Hp} (hop : o.op = .call ca) (hc1 : ca.callee = .builtin .copy) (hc2 : ca.args = #[x, y]) (hc3 : ca.argTypes = #[T, T2]) (hu : P.underlying T = some (.slice E)) (hs : (P.info? E).map (·.size) = some sz)
  (hx : cO n x = some x') (hy : cO n y = some y') (hv : aI (.copy sz x' y') (ev t) H = some (v, H')) (hg : RG ρ n t a) (h : RH ρ H w0 w) : Ok P o a w ρ v H' w0 := by
 have hexec : ∀ {r w'}, (Builtin.copy_ #[T, T2] o.type #[a.eval x, a.eval y]).run P w = .ok r w' → (execOp a.eval o).run P w = .ok (.value r) w' := by
  intro r w' hr
  rw [run_builtin hop hc1 hc2 hc3]
  simp only [builtin, List.map_toArray, List.map_cons, List.map_nil, Sem.run_bind, hr, Result.andThen_ok, Sem.run_pure]
 simp only [aI] at hv
 split at hv
 ·rename_i q hxs hs2
  obtain ⟨m, ys⟩ := q
  obtain ⟨hyl, zs, hr, hlen, hfirst⟩ := src_rel (P := P) h hs2 (ev_rel hg hy)
  injection hv with hv
  injection hv with hv1 hv2
  subst hv1 hv2
  have e := (rv_nil (hxs ▸ ev_rel hg hx)).1
  refine Ok0.ok (Ok.still h (v' := .int .i64 0) (hexec ?_) (.one (.one (.int _ _)))) h
  rw [e]
  have := run_copy (P := P) (w := w) (T2 := T2) (ty := o.type) (p := none) (dn := 0) (dc := 0) (w' := w) hu hs hlen (hfirst _ (Nat.min_le_left _ _) w fun _ _ h => h) rfl
  simpa using this
 ·rename_i b o1 n1 c1 m ys hxs hs2
  obtain ⟨hyl, zs, hr, hlen, hfirst⟩ := src_rel (P := P) h hs2 (ev_rel hg hy)
  obtain ⟨q, c', e, hnc, hloc⟩ := rv_slice (hxs ▸ ev_rel hg hx)
  split at hv
  ·rename_i h0
   injection hv with hv
   injection hv with hv1 hv2
   subst hv1 hv2
   have h00 : min m n1 = 0 := by omega
   refine Ok0.ok (Ok.still h (v' := .int .i64 0) (hexec ?_) (.one (.one (.int _ _)))) h
   rw [e]
   have := run_copy (P := P) (w := w) (T2 := T2) (ty := o.type) (p := some q) (dn := n1) (dc := c') (w' := w) (zs := []) hu hs hlen (by
    have := hfirst 0 (Nat.zero_le _) w fun _ _ h => h
    rw [h00]
    simpa using this) rfl
   rw [h00] at this
   simpa using this
  ·rename_i h0
   simp only [Option.map_eq_some_iff] at hv
   obtain ⟨H1, hp, he⟩ := hv
   injection he with hv1 hv2
   subst hv1 hv2
   obtain ⟨l, hl, hq, _⟩ := hloc (.inl (by omega))
   have hr2 := hr.take (min m n1 * sz)
   obtain ⟨l', g, w', hl', hla, hw, hR⟩ := put_rel h hp hr2 (okV_cells hr2)
   rw [hl] at hl'
   injection hl' with hl'
   subst hl'
   rw [hla, add_plain] at hq
   subst hq
   refine ⟨ρ, _, w', .inl (hexec ?_), Ext.refl _, .one (.one (.int _ _)), hR⟩
   rw [e]
   exact run_copy (P := P) (w := w) (T2 := T2) (ty := o.type) (p := some ⟨g, o1, none⟩) hu hs hlen (hfirst _ (Nat.min_le_left _ _) w fun _ _ h => h) (hw P)
 ·cases hv
theorem intsOf_eq : ∀ {xs : List Value} {ns : List Int}, intsOf xs = some ns → xs = ns.map (.int .u8)
 | [], ns, h => by simp [intsOf] at h; subst h; rfl
 | x :: xs, ns, h => by
  unfold intsOf at h
  split at h
  ·rename_i he; cases he
  ·rename_i m r he
   injection he with e1 e2
   subst e1 e2
   simp only [Option.map_eq_some_iff] at h
   obtain ⟨ms, hm, rfl⟩ := h
   rw [intsOf_eq hm]
   rfl
  ·cases h
theorem all2_ints {ρ : Rho} : ∀ {ns : List Int} {ys : List Value}, All2 (RC ρ) (ns.map (.int .u8)) ys → ys = ns.map (.int .u8)
 | [], ys, h => by cases h; rfl
 | n :: ns, ys, h => by
  cases h with
  | cons r s =>
   cases r
   rw [all2_ints s]
   rfl
theorem ok_str {S D E : TypeId} {x : Operand} {x' : Opd} {p : Option Addr} {m c : Nat} {xs : List Value} {ns : List Int} (ho : o.op = .convert S D x) (hu : P.underlying S = some (.slice E)) (hE : P.underlying E = some (.int .u8)) (hd : P.underlying D = some .string)
  (hx : cO n x = some x') (hp : ev t x' = .slice p m c) (hs : H.sl 1 (.slice p m c) = some xs) (hn : intsOf xs = some ns) (hg : RG ρ n t a) (h : RH ρ H w0 w) : Ok0 P o a w ρ (.string (ofInts ns)) := by
 obtain ⟨hl, zs, hr, hor⟩ := sl_rel h hs (hp ▸ ev_rel hg hx)
 have := intsOf_eq hn
 subst this
 have := all2_ints hr
 subst this
 refine Ok.still h (v' := .string (ofInts ns)) ?_ (.one (.one (.string _)))
 simp only [execOp, ho]
 rcases hor with ⟨_, e, rfl⟩ | ⟨q, c', e, hc⟩
 ·have : ns = [] := by simpa using hl
  subst this
  rw [e]
  simp only [Sem.run_bind, run_convert_bytes_string w S D E none 0 0 hu hE hd]
  rfl
 ·have hlo := run_loadCells_list (P := P) w q _ hc
  rw [hl, Nat.mul_one] at hlo
  rw [e]
  simp only [Sem.run_bind, run_convert_bytes_string w S D E (some q) m c' hu hE hd, run_bytesToString w q m c' ns hlo]
  rfl
theorem ok_bytesS {S D E : TypeId} {x : Operand} {x' : Opd} {u : TypeDesc} {s : ByteArray} (ho : o.op = .convert S D x) (hu : P.underlying S = some u) (hd : P.underlying D = some (.slice E)) (hE : P.underlying E = some (.int .u8))
  (hx : cO n x = some x') (hp : ev t x' = .string s) (h63 : s.size ≤ 9223372036854775807) (hE5 : E = 5) (hg : RG ρ n t a) (h : RH ρ H w0 w) : Ok P o a w ρ (.slice (some ⟨H.nx, 0, none⟩) s.size 1) (H.push ⟨true, E, strCells s⟩) w0 := by
 have e := rv_string (hp ▸ ev_rel hg hx)
 have hRd : RH ρ H w0 w.drew := h.world (Below.refl _ _).drew
 have hge : s.size ≤ grownCap w s.size 0 E := grownCap_ge w s.size 0 E
 have hle := grownCap_le_maxLen w s.size 0 E (by rw [show maxLen = 9223372036854775807 by decide]; omega)
 have hcs : (Lib.bytesCells w E s).toList = strCells s ++ List.replicate (grownCap w s.size 0 E - s.size) (.int .u8 0) := by simp [Lib.bytesCells, strCells]
 have hsz : (Lib.bytesCells w E s).toList.length = grownCap w s.size 0 E := by rw [hcs, List.length_append, strCells_length]; simp; omega
 obtain ⟨ρ', he, hn, hR⟩ := hRd.push E (strCells s) (Lib.bytesCells w E s).toList 1 (grownCap w s.size 0 E) (by rw [hcs, List.take_left']; exact strCells_rel ρ s; rfl) (by rw [hsz, strCells_length]; exact hge) (by rw [hsz]; simp) hle
 have hheap : (w.drew.alloc (.cells (Lib.bytesCells w E s).toList.toArray E)).heap[w.heap.size]? = some (.cells (Lib.bytesCells w E s) E (0, 0)) := by
  have := heap_alloc_new w.drew (.cells (Lib.bytesCells w E s).toList.toArray E)
  simpa using this
 have hput := hR.put (b := H.nx) (k := ⟨true, E, strCells s⟩) (by simp [Hp.push]) hn rfl (Lib.bytesCells w E s) (Lib.bytesCells w E s) (0, 0) ((Lib.bytesCells w E s).size, (Lib.bytesCells w E s).size + 1) w.heap.size rfl rfl hheap (.inr ⟨Nat.le_refl _, hE5⟩) rfl (strCells s) (by rw [strCells_length, ← Array.length_toList, hsz]; exact hge) (by rw [hcs, List.take_left']; exact strCells_rel ρ' s; rfl)
 have hw : Lib.bytesWorld w E s = { (w.drew.alloc (.cells (Lib.bytesCells w E s).toList.toArray E)) with heap := (w.drew.alloc (.cells (Lib.bytesCells w E s).toList.toArray E)).heap.setIfInBounds w.heap.size (.cells (Lib.bytesCells w E s) E ((Lib.bytesCells w E s).size, (Lib.bytesCells w E s).size + 1)) } := by
  have e1 : (Lib.bytesWorld w E s).heap = (w.drew.alloc (.cells (Lib.bytesCells w E s).toList.toArray E)).heap.setIfInBounds w.heap.size (.cells (Lib.bytesCells w E s) E ((Lib.bytesCells w E s).size, (Lib.bytesCells w E s).size + 1)) := by
   apply Array.ext_getElem?
   intro j
   simp only [Array.getElem?_setIfInBounds]
   by_cases hj : w.heap.size = j
   ·subst hj
    rw [if_pos rfl, Lib.bytesWorld_at_new, if_pos (by simp)]
   ·rw [if_neg hj]
    rcases Nat.lt_or_ge j w.heap.size with h1 | h1
    ·rw [Lib.bytesWorld_at_old w E s j h1, heap_alloc_old w.drew _ h1]
     rfl
    ·have a1 : (Lib.bytesWorld w E s).heap.size = w.heap.size + 1 := Lib.bytesWorld_size w E s
     rw [Array.getElem?_eq_none (by omega), Array.getElem?_eq_none (by simp; omega)]
  rw [← e1]
  rfl
 have e2 : ((H.push ⟨true, E, strCells s⟩).set H.nx ⟨true, E, strCells s⟩) = H.push ⟨true, E, strCells s⟩ := by
  simp only [Hp.set, Hp.push]
  congr 1
  funext j
  split <;> rfl
 rw [e2, ← hw] at hput
 refine ⟨ρ', .slice (some ⟨w.heap.size, 0, none⟩) s.size (grownCap w s.size 0 E), Lib.bytesWorld w E s, .inl ?_, he, .one (.one ?_), hput⟩
 ·simp only [execOp, ho, e, Sem.run_bind, Lib.run_convert_string_bytes w S D E s hu hd hE, Result.andThen_ok, Sem.run_pure]
 ·have := RC.slice (ρ := ρ') H.nx 0 s.size 1 (grownCap w s.size 0 E) _ hn hge (fun _ => ⟨rfl, by simp⟩)
  rwa [add_plain] at this
theorem ok_same {S E : TypeId} {x : Operand} {x' : Opd} {b q m c : Nat} {k : Blk} (ho : o.op = .convert S S x) (hu : P.underlying S = some (.slice E)) (hE : P.underlying E = some (.int .u8))
  (hx : cO n x = some x') (hp : ev t x' = .slice (some ⟨b, q, none⟩) m c) (hk : H.m b = some k) (hrw : k.rw = true) (hty : k.e.is 5 = true) (hc : 0 < m ∨ c ≠ 0) (hg : RG ρ n t a) (h : RH ρ H w0 w) : Ok P o a w ρ (.slice (some ⟨b, q, none⟩) m c) H w0 := by
 have hr := hp ▸ ev_rel hg hx
 obtain ⟨p, c', e, _, hloc⟩ := rv_slice hr
 obtain ⟨l, hl, hpa, _⟩ := hloc hc
 obtain ⟨l', hl', hcells, hown⟩ := h.cells b k hk
 rw [hl] at hl'
 injection hl' with hl'
 subst hl'
 have het := ET.is_eq hty
 obtain ⟨g, cur, fr, hla, hg0, hcur, hsoft, hkc, hcsz, hcm⟩ := (hown hrw).ty het
 rw [hla, add_plain] at hpa
 subst hpa
 have hput := h.put hk hl hrw cur cur fr (if fr.1 == fr.2 then (cur.size, cur.size + 1) else (min fr.1 cur.size, max fr.2 (cur.size + 1))) g hla het hcur (by
  unfold Soft at hsoft ⊢
  split
  ·exact .inr ⟨Nat.le_refl _, rfl⟩
  ·rename_i hne
   simp only [beq_iff_eq] at hne
   rcases hsoft with hsoft | ⟨hsoft, _⟩
   ·exact absurd hsoft hne
   ·exact .inr ⟨by simp only; omega, rfl⟩) rfl k.cells hkc (own_list (w0 := w0) hla hcur hkc hcells)
 have e2 : H.set b { k with cells := k.cells } = H := by
  obtain ⟨hm, hnx⟩ := H
  simp only [Hp.set]
  congr 1
  funext j
  split
  ·rename_i hj; subst hj; exact hk.symm
  ·rfl
 rw [e2] at hput
 refine ⟨ρ, a.eval x, _, .inl ?_, Ext.refl _, by rw [e]; rw [e] at hr; exact hr, hput⟩
 have hsh : w.shape? g = some (5, cur.size) := by simp [World.shape?, hcur]
 have hfz : w.freeze ⟨g, cur.size, none⟩ 1 = { w with heap := w.heap.setIfInBounds g (.cells cur 5 (if fr.1 == fr.2 then (cur.size, cur.size + 1) else (min fr.1 cur.size, max fr.2 (cur.size + 1)))) } := by
  simp only [World.freeze, Nat.one_ne_zero, if_false]
  congr 1
  apply Array.ext_getElem?
  intro j
  simp only [Array.getElem?_modify, Array.getElem?_setIfInBounds]
  by_cases hj : g = j
  ·subst hj
   rw [if_pos rfl, if_pos rfl, if_pos (Array.getElem?_eq_some_iff.1 hcur).1, hcur]
   rfl
  ·rw [if_neg hj, if_neg hj]
 simp only [execOp, ho, e, convert, Sem.run_bind, run_underlying hu, run_underlying hE, Result.andThen_ok, beq_self_eq_true, markStringish, run_shape, hsh, run_freeze, hfz, Sem.run_pure]
def flatKinds (P : Program) (T : TypeId) : Option (List Nat) :=
 match P.underlying T with
 | some (.struct fs) => if P.stoodInHeld T = false ∧ P.eqGuardType P.depth T = false ∧ (fs.toList.zipIdx.all fun (f, i) => f.name != "_" && f.offset == i) = true then some (fs.toList.map fun f => tkOf (P.underlying f.type)) else none
 | _ => none
end
def kindsF (P : Program) (g : TypeId → Option (List Nat)) : List Field → Nat → Option (List Nat)
 | [], _ => some []
 | f :: fs, off => if f.name != "_" && f.offset == off then match g f.type with
   | some ks => if P.cellsOf f.type = ks.length then (kindsF P g fs (off + ks.length)).map (ks ++ ·) else none
   | none => none
  else none
def kindsT (P : Program) : Nat → TypeId → Option (List Nat)
 | 0, _ => none
 | d + 1, T => match P.underlying T with
  | some .bool => some [1]
  | some .string => some [2]
  | some (.int _) => some [5]
  | some (.array n e) => match kindsT P d e with
   | some ks => if P.cellsOf e = ks.length ∧ (P.info? e).isSome = true ∧ n * ks.length ≤ 4096 then some (List.replicate n ks).flatten else none
   | none => none
  | some (.struct fs) => if P.stoodInHeld T = false then kindsF P (kindsT P d) fs.toList 0 else none
  | _ => none
def deepKinds (P : Program) (T : TypeId) : Option (List Nat) :=
 match P.underlying T with
 | some (.struct _) | some (.array _ _) => if P.eqGuardType P.depth T = false then kindsT P 9 T else none
 | _ => none
section
variable {P : Program} {o : Oper} {a : Act} {n : Nat} {t : Nat → Value} {w w0 : World} {ρ : Rho} {H : Hp}
def valOf (P : Program) (T : TypeId) (cs : List Value) : Value :=
 match isRowT P T with
 | some true => .agg cs.toArray
 | _ => cs.headD undef
theorem eqL_len : ∀ {ks : List Nat} {us vs : List Value} {b : Bool}, eqL ks us vs = some b → us.length = ks.length ∧ vs.length = ks.length
 | [], [], [], _, _ => ⟨rfl, rfl⟩
 | [], _ :: _, _, _, h => by simp [eqL] at h
 | [], [], _ :: _, _, h => by simp [eqL] at h
 | _ :: _, [], _, _, h => by simp [eqL] at h
 | _ :: _, _ :: _, [], _, h => by simp [eqL] at h
 | k :: ks, u :: us, v :: vs, b, h => by
  simp only [eqL] at h
  split at h
  ·rename_i b1 b2 h1 h2
   obtain ⟨e1, e2⟩ := eqL_len h2
   simp [e1, e2]
  ·cases h
theorem eqL_app : ∀ {k1 k2 : List Nat} {us vs : List Value} {b : Bool}, eqL (k1 ++ k2) us vs = some b → ∃ b1 b2, eqL k1 (us.take k1.length) (vs.take k1.length) = some b1 ∧ eqL k2 (us.drop k1.length) (vs.drop k1.length) = some b2 ∧ b = (b1 && b2)
 | [], k2, us, vs, b, h => ⟨true, b, rfl, by simpa using h, by simp⟩
 | k :: k1, k2, us, vs, b, h => by
  cases us with
  | nil => simp [eqL] at h
  | cons u us => cases vs with
   | nil => simp [eqL] at h
   | cons v vs =>
    simp only [List.cons_append, eqL] at h
    split at h
    ·rename_i b1 b2 h1 h2
     injection h with h
     subst h
     obtain ⟨c1, c2, e1, e2, rfl⟩ := eqL_app h2
     refine ⟨b1 && c1, c2, ?_, by simpa using e2, by simp [Bool.and_assoc]⟩
     simp [eqL, h1, e1]
    ·cases h
def EqT (P : Program) (ρ : Rho) (m : Nat) (T : TypeId) (ks : List Nat) : Prop :=
 ∀ (w : World) (us vs us' vs' : List Value) (b : Bool), eqL ks us vs = some b → All2 (RC ρ) us us' → All2 (RC ρ) vs vs' → (Op.equalIn m T (valOf P T us') (valOf P T vs')).run P w = .ok b w
theorem run_part {T : TypeId} {xs : Array Value} {off : Nat} {tb : Bool} (hr : isRowT P T = some tb) (hc : tb = false → P.cellsOf T = 1 ∧ off < xs.size) (w : World) : (part T xs off).run P w = .ok (valOf P T ((xs.toList.drop off).take (P.cellsOf T))) w := by
 have hr' := hr
 unfold isRowT at hr
 have agg : ∀ {k : TypeDesc}, P.underlying T = some k → isRowT P T = some true → (part T xs off).run P w = .ok (valOf P T ((xs.toList.drop off).take (P.cellsOf T))) w := by
  intro k hu hrow
  obtain ⟨i, hi⟩ := info_of_underlying hu
  have hl : (xs.extract off (off + P.cellsOf T)) = ((xs.toList.drop off).take (P.cellsOf T)).toArray := by
   apply Array.ext'
   rw [Array.toList_extract]
   simp [List.extract]
  have hs : (sizeOf T).run P w = .ok (P.cellsOf T) w := Go.run_sizeOf w hi
  simp only [valOf, hrow, ← hl]
  simp [part, run_isAgg hrow, hs]
 cases tb with
 | true =>
  cases hu : P.underlying T with
  | none => rw [hu] at hr; cases hr
  | some k => exact agg hu hr'
 | false =>
  obtain ⟨hone, hlt⟩ := hc rfl
  have e : (xs.toList.drop off).take 1 = [xs[off]] := by
   rw [List.drop_eq_getElem_cons (by simpa using hlt)]
   simp
  rw [hone]
  simp only [valOf, hr', e, List.headD_cons]
  simp [part, run_isAgg hr', hlt]
theorem fields_run {g : TypeId → Option (List Nat)} {m : Nat} (hg : ∀ T ks, g T = some ks → EqT P ρ m T ks ∧ ∃ tb, isRowT P T = some tb ∧ (tb = false → ks.length = 1)) (xs ys : Array Value) (w : World) : ∀ (fs : List Field) (off : Nat) (ks : List Nat) (us vs : List Value) (b : Bool), kindsF P g fs off = some ks → eqL ks us vs = some b →
  All2 (RC ρ) us (xs.toList.drop off) → All2 (RC ρ) vs (ys.toList.drop off) → (Op.eqFields m xs ys fs).run P w = .ok b w
 | [], off, ks, us, vs, b, hk, he, hx, hy => by
  injection hk with hk
  subst hk
  obtain ⟨h1, h2⟩ := eqL_len he
  obtain rfl := List.eq_nil_of_length_eq_zero h1
  obtain rfl := List.eq_nil_of_length_eq_zero h2
  injection he with he
  subst he
  simp [Op.eqFields]
 | f :: fs, off, ks, us, vs, b, hk, he, hx, hy => by
  simp only [kindsF] at hk
  split at hk
  ·rename_i hn
   simp only [Bool.and_eq_true, bne_iff_ne, ne_eq, beq_iff_eq] at hn
   obtain ⟨hn, ho⟩ := hn
   split at hk
   ·rename_i k1 hk1
    split at hk
    ·rename_i hc
     obtain ⟨k2, hk2, rfl⟩ := Option.map_eq_some_iff.1 hk
     obtain ⟨b1, b2, e1, e2, rfl⟩ := eqL_app he
     obtain ⟨hE, tb, htb, hone⟩ := hg _ _ hk1
     obtain ⟨l1, l2⟩ := eqL_len he
     have lx := hx.length
     have ly := hy.length
     rw [List.length_append] at l1 l2
     rw [List.length_drop] at lx ly
     have lxs : xs.toList.length = xs.size := by simp
     have lys : ys.toList.length = ys.size := by simp
     have px := run_part (P := P) (xs := xs) (off := off) htb (fun h => ⟨by rw [hc]; exact hone h, by have := hone h; omega⟩) w
     have py := run_part (P := P) (xs := ys) (off := off) htb (fun h => ⟨by rw [hc]; exact hone h, by have := hone h; omega⟩) w
     rw [hc] at px py
     have h1 := hE w _ _ _ _ b1 e1 (hx.take k1.length) (hy.take k1.length)
     have dx := hx.drop k1.length
     have dy := hy.drop k1.length
     rw [List.drop_drop] at dx dy
     have ih := fields_run hg xs ys w fs (off + k1.length) k2 _ _ b2 hk2 e2 dx dy
     rw [Op.eqFields]
     simp only [if_pos hn, Sem.run_bind, ho, px, py, h1, Result.andThen_ok]
     cases b1
     ·simp
     ·simpa using ih
    ·cases hk
   ·cases hk
  ·cases hk
theorem items_run {e : TypeId} {m : Nat} {ks : List Nat} (hE : EqT P ρ m e ks) {tb : Bool} (htb : isRowT P e = some tb) (hone : tb = false → ks.length = 1) (hc : P.cellsOf e = ks.length) (xs ys : Array Value) (w : World) : ∀ (k i : Nat) (us vs : List Value) (b : Bool), eqL (List.replicate k ks).flatten us vs = some b →
  All2 (RC ρ) us (xs.toList.drop (i * ks.length)) → All2 (RC ρ) vs (ys.toList.drop (i * ks.length)) → (Op.eqItems m e (P.cellsOf e) xs ys (List.range' i k)).run P w = .ok b w
 | 0, i, us, vs, b, he, hx, hy => by
  obtain ⟨h1, h2⟩ := eqL_len he
  obtain rfl := List.eq_nil_of_length_eq_zero h1
  obtain rfl := List.eq_nil_of_length_eq_zero h2
  injection he with he
  subst he
  simp [Op.eqItems]
 | k + 1, i, us, vs, b, he, hx, hy => by
  rw [List.replicate_succ, List.flatten_cons] at he
  obtain ⟨l1, l2⟩ := eqL_len he
  obtain ⟨b1, b2, e1, e2, rfl⟩ := eqL_app he
  have lx := hx.length
  have ly := hy.length
  rw [List.length_append] at l1 l2
  rw [List.length_drop] at lx ly
  have lxs : xs.toList.length = xs.size := by simp
  have lys : ys.toList.length = ys.size := by simp
  have px := run_part (P := P) (xs := xs) (off := i * ks.length) htb (fun h => ⟨by rw [hc]; exact hone h, by have := hone h; omega⟩) w
  have py := run_part (P := P) (xs := ys) (off := i * ks.length) htb (fun h => ⟨by rw [hc]; exact hone h, by have := hone h; omega⟩) w
  rw [hc] at px py
  have h1 := hE w _ _ _ _ b1 e1 (hx.take ks.length) (hy.take ks.length)
  have dx := hx.drop ks.length
  have dy := hy.drop ks.length
  rw [List.drop_drop, show i * ks.length + ks.length = (i + 1) * ks.length by rw [Nat.add_mul, Nat.one_mul]] at dx dy
  have ih := items_run hE htb hone hc xs ys w k (i + 1) _ _ b2 e2 dx dy
  rw [List.range'_succ, Op.eqItems]
  simp only [Sem.run_bind, hc, px, py, h1, Result.andThen_ok]
  rw [hc] at ih
  cases b1
  ·simp
  ·simpa using ih
theorem kinds_run : ∀ (d : Nat) (T : TypeId) (ks : List Nat), kindsT P d T = some ks → (∀ m, EqT P ρ (m + d) T ks) ∧ ∃ tb, isRowT P T = some tb ∧ (tb = false → ks.length = 1)
 | 0, T, ks, h => by cases h
 | d + 1, T, ks, h => by
  unfold kindsT at h
  have one : ∀ {k : Nat} {q : TypeDesc}, P.underlying T = some q → isRowT P T = some false → ks = [k] → (∀ (m : Nat) (w : World) (u v u' v' : Value) (b : Bool), eqV k u v = some b → RC ρ u u' → RC ρ v v' → (Op.equalIn (m + (d + 1)) T u' v').run P w = .ok b w) → (∀ m, EqT P ρ (m + (d + 1)) T ks) ∧ ∃ tb, isRowT P T = some tb ∧ (tb = false → ks.length = 1) := by
   intro k q hu hrow hks hone
   subst hks
   refine ⟨fun m w us vs us' vs' b he hx hy => ?_, false, hrow, fun _ => rfl⟩
   obtain ⟨l1, l2⟩ := eqL_len he
   cases hx with
   | nil => simp at l1
   | cons ru su => cases hy with
    | nil => simp at l2
    | cons rv sv =>
     simp only [eqL] at he
     split at he
     ·rename_i b1 b2 h1 h2
      injection he with he
      cases su with
      | cons _ _ => simp at l1
      | nil => cases sv with
       | cons _ _ => simp at l2
       | nil =>
        injection h2 with h2
        subst h2
        rw [Bool.and_true] at he
        subst he
        simp only [valOf, hrow, List.headD_cons]
        exact hone m w _ _ _ _ _ h1 ru rv
     ·cases he
  split at h
  ·rename_i hu
   injection h with h
   refine one hu (by simp [isRowT, hu]) h.symm fun m w u v u' v' b he ru rv => ?_
   unfold eqV at he
   split at he
   ·split at he
    ·rename_i hc; exact absurd hc.1 (by decide)
    ·cases he
   ·injection he with he
    subst he
    cases ru; cases rv
    exact run_equalIn_bool w (m + d) T _ _ hu
   ·cases he
   ·cases he
  ·rename_i hu
   injection h with h
   refine one hu (by simp [isRowT, hu]) h.symm fun m w u v u' v' b he ru rv => ?_
   unfold eqV at he
   split at he
   ·split at he
    ·rename_i hc; exact absurd hc.1 (by decide)
    ·cases he
   ·cases he
   ·injection he with he
    subst he
    cases ru; cases rv
    rw [beq_toListBytes]
    exact run_equalIn_string w (m + d) T _ _ hu
   ·cases he
  ·rename_i q hu
   injection h with h
   refine one hu (by simp [isRowT, hu]) h.symm fun m w u v u' v' b he ru rv => ?_
   unfold eqV at he
   split at he
   ·split at he
    ·rename_i hc
     obtain ⟨_, rfl⟩ := hc
     injection he with he
     subst he
     cases ru; cases rv
     exact run_equalIn_int w (m + d) T _ q _ _ hu
    ·cases he
   ·cases he
   ·cases he
   ·cases he
  ·rename_i k e hu
   split at h
   ·rename_i k1 hk1
    split at h
    ·rename_i hc
     obtain ⟨hc, hi, _⟩ := hc
     injection h with h
     subst h
     obtain ⟨hE, tb, htb, hone⟩ := kinds_run d e k1 hk1
     obtain ⟨i, hi⟩ := Option.isSome_iff_exists.1 hi
     have hrow : isRowT P T = some true := by simp [isRowT, hu]
     refine ⟨fun m w us vs us' vs' b he hx hy => ?_, true, hrow, fun h => by cases h⟩
     simp only [valOf, hrow]
     rw [show m + (d + 1) = (m + d) + 1 from rfl, run_equalIn_array w (m + d) _ _ hu hi, List.range_eq_range']
     exact items_run (hE m) htb hone hc _ _ w k 0 us vs b he (by simpa using hx) (by simpa using hy)
    ·cases h
   ·cases h
  ·rename_i fs hu
   split at h
   ·rename_i hst
    have hrow : isRowT P T = some true := by simp [isRowT, hu]
    refine ⟨fun m w us vs us' vs' b he hx hy => ?_, true, hrow, fun h => by cases h⟩
    have hf : P.fieldsOf T = fs := by simp [Program.fieldsOf, hu]
    simp only [valOf, hrow]
    rw [show m + (d + 1) = (m + d) + 1 from rfl, run_equalIn_struct (P := P) w (m + d) T _ _ (by rw [hf]; exact hu) hst, hf]
    exact fields_run (g := kindsT P d) (fun T ks hk => ⟨(kinds_run d T ks hk).1 m, (kinds_run d T ks hk).2⟩) _ _ w fs.toList 0 ks us vs b h he (by simpa using hx) (by simpa using hy)
   ·cases h
  ·cases h
theorem ok_eqD {op : BinOp} {T yT : TypeId} {x y : Operand} {x' y' : Opd} {ks : List Nat} {xs ys : Array Value} {b : Bool} (ho : o.op = .binOp op T x y yT) (hop : op = .eql ∨ op = .neq) (hk : deepKinds P T = some ks) (hx : cO n x = some x') (hy : cO n y = some y') (h1 : ev t x' = .agg xs) (h2 : ev t y' = .agg ys) (he : eqL ks xs.toList ys.toList = some b) (hg : RG ρ n t a) (h : RH ρ H w0 w) :
  Ok0 P o a w ρ (.bool (if op = .neq then !b else b)) := by
 obtain ⟨us, e1, hu⟩ := rv_agg (h1 ▸ ev_rel hg hx)
 obtain ⟨vs, e2, hv⟩ := rv_agg (h2 ▸ ev_rel hg hy)
 have hT : P.eqGuardType P.depth T = false ∧ kindsT P 9 T = some ks ∧ isRowT P T = some true := by
  unfold deepKinds at hk
  split at hk
  ·rename_i hu
   split at hk
   ·rename_i hc; exact ⟨hc, hk, by simp [isRowT, hu]⟩
   ·cases hk
  ·rename_i hu
   split at hk
   ·rename_i hc; exact ⟨hc, hk, by simp [isRowT, hu]⟩
   ·cases hk
  ·cases hk
 obtain ⟨c2, hkd, hrow⟩ := hT
 have heq := (kinds_run (ρ := ρ) 9 T ks hkd).1 9991 w _ _ _ _ b he hu hv
 simp only [valOf, hrow] at heq
 have hq : (eqGuard op T x y (.agg us.toArray) (.agg vs.toArray)).run P w = .ok () w := run_eqGuard_agg w op T x y _ _ c2
 refine Ok.still h (v' := .bool (if op = .neq then !b else b)) ?_ (.one (.one (.bool _)))
 simp only [execOp, ho, e1, e2, Sem.run_bind, hq, Result.andThen_ok]
 rcases hop with rfl | rfl
 ·simp only [run_eql_struct, heq, Result.andThen_ok, Sem.run_pure]
  rfl
 ·simp only [run_neq_struct, heq, Result.andThen_ok, Sem.run_pure]
  rfl
end
end Go.Proofs.YtjmjkdelkaflmaaGreatDoor.Abs
