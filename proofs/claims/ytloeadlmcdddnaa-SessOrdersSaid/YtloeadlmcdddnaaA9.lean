/- An abstract machine for the program's text, part 9: copy, len, min and max, conversions of bytes, '==' of structs. -/
import Derived.Test.YtloeadlmcdddnaaA8
set_option linter.unusedVariables false
set_option linter.unusedSimpArgs false
namespace Go.Proofs.Ytloeadlmcdddnaa.Abs
open Go Go.RowKit
section
variable {P : Program} {o : Oper} {a : Act} {n : Nat} {t : Nat → Value} {w w0 : World} {ρ : Rho} {H : Hp}
theorem run_builtin {ca : Call} {b : Builtin} {xs : Array Operand} {Ts : Array TypeId} (hop : o.op = .call ca) (hc1 : ca.callee = .builtin b) (hc2 : ca.args = xs) (hc3 : ca.argTypes = Ts) :
    (execOp a.eval o).run P w = (builtin b Ts o.type (xs.map fun | .const _ => true | _ => false) (xs.map a.eval)).run P w := by
  simp only [execOp, hop, resolve, hc1, hc2, hc3, Sem.run_bind, Sem.run_pure, Result.andThen_ok, invoke]
  rfl
theorem ok_len {ca : Call} {T : TypeId} {x : Operand} {x' : Opd} {m : Nat} (hop : o.op = .call ca) (hc1 : ca.callee = .builtin .len) (hc2 : ca.args = #[x]) (hc3 : ca.argTypes = #[T]) (hx : cO n x = some x')
    (hv : (P.underlying T = some .string ∧ ∃ s, ev t x' = .string s ∧ s.size = m) ∨ ∃ e, P.underlying T = some (.slice e) ∧ ∃ p c, ev t x' = .slice p m c) (hg : RG ρ n t a) (h : RH ρ H w0 w) : Ok0 P o a w ρ (.int .i64 m) := by
  have hr := ev_rel hg hx
  refine Ok.still h ?_ (.one (.one (.int _ _)))
  rw [run_builtin hop hc1 hc2 hc3]
  rcases hv with ⟨hu, s, he, rfl⟩ | ⟨e, hu, p, c, he⟩
  · have := rv_string (he ▸ hr)
    simp [builtin, Builtin.len_, run_underlying hu, this, goInt]
  · have : ∃ p' c', a.eval x = .slice p' m c' := by
      rw [he] at hr
      cases p with
      | none =>
        obtain ⟨h1, rfl, rfl⟩ := rv_nil hr
        exact ⟨_, _, h1⟩
      | some p =>
        obtain ⟨q, c', h1⟩ := rv_slice_some hr
        exact ⟨_, _, h1⟩
    obtain ⟨p', c', this⟩ := this
    simp [builtin, Builtin.len_, run_underlying hu, this, goInt]
theorem ok_lenK {ca : Call} {T e : TypeId} {x : Operand} {m : Nat} (hop : o.op = .call ca) (hc1 : ca.callee = .builtin .len) (hc2 : ca.args = #[x]) (hc3 : ca.argTypes = #[T]) (hu : P.underlying T = some (.array m e) ∨ ∃ T', P.underlying T = some (.pointer T') ∧ P.underlying T' = some (.array m e)) (h : RH ρ H w0 w) : Ok0 P o a w ρ (.int .i64 m) := by
  refine Ok.still h ?_ (.one (.one (.int _ _)))
  rw [run_builtin hop hc1 hc2 hc3]
  rcases hu with hu | ⟨T', hu, hu'⟩
  · simp [builtin, Builtin.len_, run_underlying hu, goInt]
  · simp [builtin, Builtin.len_, run_underlying hu, run_underlying hu', goInt]
theorem ok_min {ca : Call} {Ts : Array TypeId} {x y : Operand} {x' y' : Opd} {k : IntKind} {p q : Int} (hop : o.op = .call ca) (hc1 : ca.callee = .builtin .min) (hc2 : ca.args = #[x, y]) (hc3 : ca.argTypes = Ts) (hx : cO n x = some x') (hy : cO n y = some y') (h1 : ev t x' = .int k p) (h2 : ev t y' = .int k q) (hg : RG ρ n t a) (h : RH ρ H w0 w) :
    Ok0 P o a w ρ (.int k (if q < p then q else p)) := by
  have e1 := rv_int (h1 ▸ ev_rel hg hx)
  have e2 := rv_int (h2 ▸ ev_rel hg hy)
  refine Ok.still h ?_ (.one (.one (.int _ _)))
  rw [run_builtin hop hc1 hc2 hc3]
  simp [builtin, e1, e2, run_min_int2]
theorem ok_max {ca : Call} {Ts : Array TypeId} {x y : Operand} {x' y' : Opd} {k : IntKind} {p q : Int} (hop : o.op = .call ca) (hc1 : ca.callee = .builtin .max) (hc2 : ca.args = #[x, y]) (hc3 : ca.argTypes = Ts) (hx : cO n x = some x') (hy : cO n y = some y') (h1 : ev t x' = .int k p) (h2 : ev t y' = .int k q) (hg : RG ρ n t a) (h : RH ρ H w0 w) :
    Ok0 P o a w ρ (.int k (if p < q then q else p)) := by
  have e1 := rv_int (h1 ▸ ev_rel hg hx)
  have e2 := rv_int (h2 ▸ ev_rel hg hy)
  refine Ok.still h ?_ (.one (.one (.int _ _)))
  rw [run_builtin hop hc1 hc2 hc3]
  simp [builtin, e1, e2, run_max_int2]
theorem run_copy {T T2 ty E : TypeId} {sz m dn dc : Nat} {p : Option Addr} {v : Value} {zs : List Value} {w' : World} (hu : P.underlying T = some (.slice E)) (hs : (P.info? E).map (·.size) = some sz) (hl : (Builtin.lenOf v).run P w = .ok m w) (hf : (Builtin.firstCells sz (min m dn) v).run P w = .ok zs.toArray w)
    (hst : match p with | some q => (storeCells q zs 0).run P w = .ok () w' | none => w' = w) : (Builtin.copy_ #[T, T2] ty #[.slice p dn dc, v]).run P w = .ok (.int .i64 ((min m dn : Nat) : Int)) w' := by
  have hf' : (Builtin.firstCells sz (Nat.min m dn) v).run P w = .ok zs.toArray w := hf
  cases p with
  | none =>
    simp only at hst
    subst hst
    simp [Builtin.copy_, run_underlying hu, run_sizeOf hs, hl, hf', goInt]
  | some q =>
    simp only at hst
    simp [Builtin.copy_, run_underlying hu, run_sizeOf hs, hl, hf', hst, goInt]
theorem ok_copy {ca : Call} {T T2 E : TypeId} {x y : Operand} {x' y' : Opd} {sz : Nat} {v : Value} {H' : Hp} (hop : o.op = .call ca) (hc1 : ca.callee = .builtin .copy) (hc2 : ca.args = #[x, y]) (hc3 : ca.argTypes = #[T, T2]) (hu : P.underlying T = some (.slice E)) (hs : (P.info? E).map (·.size) = some sz)
    (hx : cO n x = some x') (hy : cO n y = some y') (hv : aI (.copy sz x' y') (ev t) H = some (v, H')) (hg : RG ρ n t a) (h : RH ρ H w0 w) : Ok P o a w ρ v H' w0 := by
  have hexec : ∀ {r w'}, (Builtin.copy_ #[T, T2] o.type #[a.eval x, a.eval y]).run P w = .ok r w' → (execOp a.eval o).run P w = .ok (.value r) w' := by
    intro r w' hr
    rw [run_builtin hop hc1 hc2 hc3]
    simp only [builtin, List.map_toArray, List.map_cons, List.map_nil, Sem.run_bind, hr, Result.andThen_ok, Sem.run_pure]
  simp only [aI] at hv
  split at hv
  · rename_i q hxs hs2
    obtain ⟨m, ys⟩ := q
    obtain ⟨hyl, zs, hr, hlen, hfirst⟩ := src_rel (P := P) h hs2 (ev_rel hg hy)
    injection hv with hv
    injection hv with hv1 hv2
    subst hv1 hv2
    have e := (rv_nil (hxs ▸ ev_rel hg hx)).1
    refine Ok0.ok (Ok.still h (v' := .int .i64 0) (hexec ?_) (.one (.one (.int _ _)))) h
    rw [e]
    have := run_copy (P := P) (w := w) (T2 := T2) (ty := o.type) (p := none) (dn := 0) (dc := 0) (w' := w) hu hs hlen (hfirst _ (Nat.min_le_left _ _) w fun _ _ h => h) rfl
    simpa using this
  · rename_i b o1 n1 c1 m ys hxs hs2
    obtain ⟨hyl, zs, hr, hlen, hfirst⟩ := src_rel (P := P) h hs2 (ev_rel hg hy)
    obtain ⟨q, c', e, hnc, hloc⟩ := rv_slice (hxs ▸ ev_rel hg hx)
    split at hv
    · rename_i h0
      injection hv with hv
      injection hv with hv1 hv2
      subst hv1 hv2
      have h00 : min m n1 = 0 := by omega
      refine Ok0.ok (Ok.still h (v' := .int .i64 0) (hexec ?_) (.one (.one (.int _ _)))) h
      rw [e]
      have := run_copy (P := P) (w := w) (T2 := T2) (ty := o.type) (p := some q) (dn := n1) (dc := c') (w' := w) (zs := []) hu hs hlen (by
        have := hfirst 0 (Nat.zero_le _) w fun _ _ h => h
        rw [h00]
        simpa using this) rfl
      rw [h00] at this
      simpa using this
    · rename_i h0
      simp only [Option.map_eq_some_iff] at hv
      obtain ⟨H1, hp, he⟩ := hv
      injection he with hv1 hv2
      subst hv1 hv2
      obtain ⟨l, hl, hq, _⟩ := hloc (.inl (by omega))
      have hr2 := hr.take (min m n1 * sz)
      obtain ⟨l', g, w', hl', hla, hw, hR⟩ := put_rel h hp hr2 (okV_cells hr2)
      rw [hl] at hl'
      injection hl' with hl'
      subst hl'
      rw [hla, add_plain] at hq
      subst hq
      refine ⟨ρ, _, w', .inl (hexec ?_), Ext.refl _, .one (.one (.int _ _)), hR⟩
      rw [e]
      exact run_copy (P := P) (w := w) (T2 := T2) (ty := o.type) (p := some ⟨g, o1, none⟩) hu hs hlen (hfirst _ (Nat.min_le_left _ _) w fun _ _ h => h) (hw P)
  · cases hv
/-! bytes and strings -/
theorem intsOf_eq : ∀ {xs : List Value} {ns : List Int}, intsOf xs = some ns → xs = ns.map (.int .u8)
  | [], ns, h => by simp [intsOf] at h; subst h; rfl
  | x :: xs, ns, h => by
    unfold intsOf at h
    split at h
    · rename_i he; cases he
    · rename_i m r he
      injection he with e1 e2
      subst e1 e2
      simp only [Option.map_eq_some_iff] at h
      obtain ⟨ms, hm, rfl⟩ := h
      rw [intsOf_eq hm]
      rfl
    · cases h
theorem all2_ints {ρ : Rho} : ∀ {ns : List Int} {ys : List Value}, All2 (RC ρ) (ns.map (.int .u8)) ys → ys = ns.map (.int .u8)
  | [], ys, h => by cases h; rfl
  | n :: ns, ys, h => by
    cases h with
    | cons r s =>
      cases r
      rw [all2_ints s]
      rfl
theorem ok_str {S D E : TypeId} {x : Operand} {x' : Opd} {p : Option Addr} {m c : Nat} {xs : List Value} {ns : List Int} (ho : o.op = .convert S D x) (hu : P.underlying S = some (.slice E)) (hE : P.underlying E = some (.int .u8)) (hd : P.underlying D = some .string)
    (hx : cO n x = some x') (hp : ev t x' = .slice p m c) (hs : H.sl 1 (.slice p m c) = some xs) (hn : intsOf xs = some ns) (hg : RG ρ n t a) (h : RH ρ H w0 w) : Ok0 P o a w ρ (.string (ofInts ns)) := by
  obtain ⟨hl, zs, hr, hor⟩ := sl_rel h hs (hp ▸ ev_rel hg hx)
  have := intsOf_eq hn
  subst this
  have := all2_ints hr
  subst this
  refine Ok.still h (v' := .string (ofInts ns)) ?_ (.one (.one (.string _)))
  simp only [execOp, ho]
  rcases hor with ⟨_, e, rfl⟩ | ⟨q, c', e, hc⟩
  · have : ns = [] := by simpa using hl
    subst this
    rw [e]
    simp only [Sem.run_bind, run_convert_bytes_string w S D E none 0 0 hu hE hd]
    rfl
  · have hlo := run_loadCells_list (P := P) w q _ hc
    rw [hl, Nat.mul_one] at hlo
    rw [e]
    simp only [Sem.run_bind, run_convert_bytes_string w S D E (some q) m c' hu hE hd, run_bytesToString w q m c' ns hlo]
    rfl
theorem ok_bytesS {S D E : TypeId} {x : Operand} {x' : Opd} {u : TypeDesc} {s : ByteArray} (ho : o.op = .convert S D x) (hu : P.underlying S = some u) (hd : P.underlying D = some (.slice E)) (hE : P.underlying E = some (.int .u8))
    (hx : cO n x = some x') (hp : ev t x' = .string s) (h63 : s.size ≤ 9223372036854775807) (hg : RG ρ n t a) (h : RH ρ H w0 w) : Ok P o a w ρ (.slice (some ⟨H.nx, 0, none⟩) s.size 1) (H.push ⟨true, E, strCells s⟩) w0 := by
  have e := rv_string (hp ▸ ev_rel hg hx)
  have hRd : RH ρ H w0 w.drew := h.world (Below.refl _ _).drew
  have hge : s.size ≤ grownCap w s.size 0 E := grownCap_ge w s.size 0 E
  have hle := grownCap_le_maxLen w s.size 0 E (by rw [show maxLen = 9223372036854775807 by decide]; omega)
  have hcs : (Lib.bytesCells w E s).toList = strCells s ++ List.replicate (grownCap w s.size 0 E - s.size) (.int .u8 0) := by simp [Lib.bytesCells, strCells]
  have hsz : (Lib.bytesCells w E s).toList.length = grownCap w s.size 0 E := by rw [hcs, List.length_append, strCells_length]; simp; omega
  obtain ⟨ρ', he, hn, hR⟩ := hRd.push E (strCells s) (Lib.bytesCells w E s).toList 1 (grownCap w s.size 0 E) (by rw [hcs, List.take_left']; exact strCells_rel ρ s; rfl) (by rw [hsz, strCells_length]; exact hge) (by rw [hsz]; simp) hle
  have hheap : (w.drew.alloc (.cells (Lib.bytesCells w E s).toList.toArray E)).heap[w.heap.size]? = some (.cells (Lib.bytesCells w E s) E (0, 0)) := by
    have := heap_alloc_new w.drew (.cells (Lib.bytesCells w E s).toList.toArray E)
    simpa using this
  have hput := hR.put (b := H.nx) (k := ⟨true, E, strCells s⟩) (by simp [Hp.push]) hn rfl (Lib.bytesCells w E s) (Lib.bytesCells w E s) (0, 0) ((Lib.bytesCells w E s).size, (Lib.bytesCells w E s).size + 1) w.heap.size rfl hheap (.inr (Nat.le_refl _)) rfl (strCells s) (by rw [strCells_length, ← Array.length_toList, hsz]; exact hge) (by rw [hcs, List.take_left']; exact strCells_rel ρ' s; rfl)
  have hw : Lib.bytesWorld w E s = { (w.drew.alloc (.cells (Lib.bytesCells w E s).toList.toArray E)) with heap := (w.drew.alloc (.cells (Lib.bytesCells w E s).toList.toArray E)).heap.setIfInBounds w.heap.size (.cells (Lib.bytesCells w E s) E ((Lib.bytesCells w E s).size, (Lib.bytesCells w E s).size + 1)) } := by
    have e1 : (Lib.bytesWorld w E s).heap = (w.drew.alloc (.cells (Lib.bytesCells w E s).toList.toArray E)).heap.setIfInBounds w.heap.size (.cells (Lib.bytesCells w E s) E ((Lib.bytesCells w E s).size, (Lib.bytesCells w E s).size + 1)) := by
      apply Array.ext_getElem?
      intro j
      simp only [Array.getElem?_setIfInBounds]
      by_cases hj : w.heap.size = j
      · subst hj
        rw [if_pos rfl, Lib.bytesWorld_at_new, if_pos (by simp)]
      · rw [if_neg hj]
        rcases Nat.lt_or_ge j w.heap.size with h1 | h1
        · rw [Lib.bytesWorld_at_old w E s j h1, heap_alloc_old w.drew _ h1]
          rfl
        · have a1 : (Lib.bytesWorld w E s).heap.size = w.heap.size + 1 := Lib.bytesWorld_size w E s
          rw [Array.getElem?_eq_none (by omega), Array.getElem?_eq_none (by simp; omega)]
    rw [← e1]
    rfl
  have e2 : ((H.push ⟨true, E, strCells s⟩).set H.nx ⟨true, E, strCells s⟩) = H.push ⟨true, E, strCells s⟩ := by
    simp only [Hp.set, Hp.push]
    congr 1
    funext j
    split <;> rfl
  rw [e2, ← hw] at hput
  refine ⟨ρ', .slice (some ⟨w.heap.size, 0, none⟩) s.size (grownCap w s.size 0 E), Lib.bytesWorld w E s, .inl ?_, he, .one (.one ?_), hput⟩
  · simp only [execOp, ho, e, Sem.run_bind, Lib.run_convert_string_bytes w S D E s hu hd hE, Result.andThen_ok, Sem.run_pure]
  · have := RC.slice (ρ := ρ') H.nx 0 s.size 1 (grownCap w s.size 0 E) _ hn hge (fun _ => ⟨rfl, by simp⟩)
    rwa [add_plain] at this
theorem ok_same {S E : TypeId} {x : Operand} {x' : Opd} {b q m c : Nat} {k : Blk} (ho : o.op = .convert S S x) (hu : P.underlying S = some (.slice E)) (hE : P.underlying E = some (.int .u8))
    (hx : cO n x = some x') (hp : ev t x' = .slice (some ⟨b, q, none⟩) m c) (hk : H.m b = some k) (hrw : k.rw = true) (hc : 0 < m ∨ c ≠ 0) (hg : RG ρ n t a) (h : RH ρ H w0 w) : Ok P o a w ρ (.slice (some ⟨b, q, none⟩) m c) H w0 := by
  have hr := hp ▸ ev_rel hg hx
  obtain ⟨p, c', e, _, hloc⟩ := rv_slice hr
  obtain ⟨l, hl, hpa, _⟩ := hloc hc
  obtain ⟨l', hl', hcells, hown⟩ := h.cells b k hk
  rw [hl] at hl'
  injection hl' with hl'
  subst hl'
  obtain ⟨g, cur, fr, hla, hg0, hcur, hsoft, hkc, hcsz, hcm⟩ := hown hrw
  rw [hla, add_plain] at hpa
  subst hpa
  have hput := h.put hk hl hrw cur cur fr (if fr.1 == fr.2 then (cur.size, cur.size + 1) else (min fr.1 cur.size, max fr.2 (cur.size + 1))) g hla hcur (by
    unfold Soft at hsoft ⊢
    split
    · exact .inr (Nat.le_refl _)
    · rename_i hne
      simp only [beq_iff_eq] at hne
      rcases hsoft with hsoft | hsoft
      · exact absurd hsoft hne
      · right; simp only; omega) rfl k.cells hkc (own_list (w0 := w0) hla hcur hkc hcells)
  have e2 : H.set b { k with cells := k.cells } = H := by
    obtain ⟨hm, hnx⟩ := H
    simp only [Hp.set]
    congr 1
    funext j
    split
    · rename_i hj; subst hj; exact hk.symm
    · rfl
  rw [e2] at hput
  refine ⟨ρ, a.eval x, _, .inl ?_, Ext.refl _, by rw [e]; rw [e] at hr; exact hr, hput⟩
  have hsh : w.shape? g = some (k.e, cur.size) := by simp [World.shape?, hcur]
  have hfz : w.freeze ⟨g, cur.size, none⟩ 1 = { w with heap := w.heap.setIfInBounds g (.cells cur k.e (if fr.1 == fr.2 then (cur.size, cur.size + 1) else (min fr.1 cur.size, max fr.2 (cur.size + 1)))) } := by
    simp only [World.freeze, Nat.one_ne_zero, if_false]
    congr 1
    apply Array.ext_getElem?
    intro j
    simp only [Array.getElem?_modify, Array.getElem?_setIfInBounds]
    by_cases hj : g = j
    · subst hj
      rw [if_pos rfl, if_pos rfl, if_pos (Array.getElem?_eq_some_iff.1 hcur).1, hcur]
      rfl
    · rw [if_neg hj, if_neg hj]
  simp only [execOp, ho, e, convert, Sem.run_bind, run_underlying hu, run_underlying hE, Result.andThen_ok, beq_self_eq_true, markStringish, run_shape, hsh, run_freeze, hfz, Sem.run_pure]
/-! '==' of structs -/
/-- A struct whose fields are cells of simple kinds, in order: their kinds. -/
def flatKinds (P : Program) (T : TypeId) : Option (List Nat) :=
  match P.underlying T with
  | some (.struct fs) => if P.stoodInHeld T = false ∧ P.eqGuardType P.depth T = false ∧ (fs.toList.zipIdx.all fun (f, i) => f.name != "_" && f.offset == i) = true then some (fs.toList.map fun f => tkOf (P.underlying f.type)) else none
  | _ => none
theorem eqL_run {d : Nat} (xs ys : Array Value) (w : World) : ∀ (fs : List Field) (i : Nat) (us vs us' vs' : List Value) (b : Bool), (fs.zipIdx i).all (fun (f, i) => f.name != "_" && f.offset == i) = true → eqL (fs.map fun f => tkOf (P.underlying f.type)) us vs = some b →
    All2 (RC ρ) us us' → All2 (RC ρ) vs vs' → (∀ j u, us'[j]? = some u → xs[i + j]? = some u) → (∀ j u, vs'[j]? = some u → ys[i + j]? = some u) → (Op.eqFields (d + 1) xs ys fs).run P w = .ok b w
  | [], i, us, vs, us', vs', b, hf, he, hu, hv, hx, hy => by
    cases us with
    | nil => cases vs with
      | nil => simp [eqL] at he; subst he; simp [Op.eqFields]
      | cons v vs => simp [eqL] at he
    | cons u us => simp [eqL] at he
  | f :: fs, i, us, vs, us', vs', b, hf, he, hu, hv, hx, hy => by
    simp only [List.zipIdx_cons, List.all_cons, Bool.and_eq_true] at hf
    obtain ⟨⟨hn, ho⟩, hf⟩ := hf
    have hn' : f.name ≠ "_" := by simpa using hn
    have ho' : f.offset = i := by simpa using ho
    cases us with
    | nil => simp [eqL] at he
    | cons u us => cases vs with
      | nil => simp [eqL] at he
      | cons v vs =>
        simp only [List.map_cons, eqL] at he
        split at he
        · rename_i b1 b2 h1 h2
          injection he with he
          subst he
          cases hu with
          | cons ru su => cases hv with
            | cons rv sv =>
              rename_i u' us' v' vs'
              have ih := eqL_run (d := d) xs ys w fs (i + 1) us vs us' vs' b2 hf h2 su sv (fun j q hj => by have := hx (j + 1) q (by simpa using hj); rwa [show i + (j + 1) = i + 1 + j by omega] at this) (fun j q hj => by have := hy (j + 1) q (by simpa using hj); rwa [show i + (j + 1) = i + 1 + j by omega] at this)
              have hxi := hx 0 u' rfl
              have hyi := hy 0 v' rfl
              rw [Nat.add_zero] at hxi hyi
              have key : (∃ k, P.underlying f.type = some k ∧ (k = .bool ∨ k = .string ∨ ∃ q, k = .int q)) ∧ (Op.equalIn (d + 1) f.type u' v').run P w = .ok b1 w := by
                unfold eqV at h1
                split at h1
                · split at h1
                  · rename_i hc
                    obtain ⟨hc, rfl⟩ := hc
                    injection h1 with h1
                    obtain ⟨q, hq⟩ := (underlying_of_tk (P := P) (T := f.type)).2.2.2.2 hc
                    cases ru; cases rv
                    subst h1
                    exact ⟨⟨_, hq, .inr (.inr ⟨q, rfl⟩)⟩, run_equalIn_int w d f.type _ q _ _ hq⟩
                  · cases h1
                · split at h1
                  · rename_i hc
                    injection h1 with h1
                    have hq := (underlying_of_tk (P := P) (T := f.type)).1 hc
                    cases ru; cases rv
                    subst h1
                    exact ⟨⟨_, hq, .inl rfl⟩, run_equalIn_bool w d f.type _ _ hq⟩
                  · cases h1
                · split at h1
                  · rename_i hc
                    injection h1 with h1
                    have hq := (underlying_of_tk (P := P) (T := f.type)).2.1 hc
                    cases ru; cases rv
                    subst h1
                    rw [beq_toListBytes]
                    exact ⟨⟨_, hq, .inr (.inl rfl)⟩, run_equalIn_string w d f.type _ _ hq⟩
                  · cases h1
                · cases h1
              obtain ⟨⟨k, hk, hkk⟩, heq⟩ := key
              have hrow : isRowT P f.type = some false := by
                unfold isRowT
                rw [hk]
                rcases hkk with rfl | rfl | ⟨q, rfl⟩ <;> rfl
              have px : (part f.type xs f.offset).run P w = .ok u' w := by simp [part, run_isAgg hrow, ho', hxi]
              have py : (part f.type ys f.offset).run P w = .ok v' w := by simp [part, run_isAgg hrow, ho', hyi]
              rw [Op.eqFields]
              simp only [if_pos hn', Sem.run_bind, px, py, heq, Result.andThen_ok]
              cases b1
              · simp
              · simpa using ih
        · cases he
theorem ok_eqA {op : BinOp} {T yT : TypeId} {x y : Operand} {x' y' : Opd} {ks : List Nat} {xs ys : Array Value} {b : Bool} (ho : o.op = .binOp op T x y yT) (hop : op = .eql ∨ op = .neq) (hk : flatKinds P T = some ks) (hx : cO n x = some x') (hy : cO n y = some y') (h1 : ev t x' = .agg xs) (h2 : ev t y' = .agg ys) (he : eqL ks xs.toList ys.toList = some b) (hg : RG ρ n t a) (h : RH ρ H w0 w) :
    Ok0 P o a w ρ (.bool (if op = .neq then !b else b)) := by
  obtain ⟨us, e1, hu⟩ := rv_agg (h1 ▸ ev_rel hg hx)
  obtain ⟨vs, e2, hv⟩ := rv_agg (h2 ▸ ev_rel hg hy)
  unfold flatKinds at hk
  split at hk
  · rename_i fs hT
    split at hk
    · rename_i hc
      obtain ⟨c1, c2, c3⟩ := hc
      injection hk with hk
      subst hk
      have hrun := eqL_run (P := P) (d := 9998) us.toArray vs.toArray w fs.toList 0 xs.toList ys.toList us vs b c3 he hu hv (fun j u hj => by simpa using hj) (fun j u hj => by simpa using hj)
      have hf : P.fieldsOf T = fs := by simp [Program.fieldsOf, hT]
      have heq : (Op.equalIn 10000 T (.agg us.toArray) (.agg vs.toArray)).run P w = .ok b w := by
        rw [run_equalIn_struct (P := P) w 9999 T _ _ (by rw [hf]; exact hT) c1, hf]
        exact hrun
      have hq : (eqGuard op T x y (.agg us.toArray) (.agg vs.toArray)).run P w = .ok () w := run_eqGuard_agg w op T x y _ _ c2
      refine Ok.still h (v' := .bool (if op = .neq then !b else b)) ?_ (.one (.one (.bool _)))
      simp only [execOp, ho, e1, e2, Sem.run_bind, hq, Result.andThen_ok]
      rcases hop with rfl | rfl
      · simp only [run_eql_struct, heq, Result.andThen_ok, Sem.run_pure]
        rfl
      · simp only [run_neq_struct, heq, Result.andThen_ok, Sem.run_pure]
        rfl
    · cases hk
  · cases hk
end
end Go.Proofs.Ytloeadlmcdddnaa.Abs
