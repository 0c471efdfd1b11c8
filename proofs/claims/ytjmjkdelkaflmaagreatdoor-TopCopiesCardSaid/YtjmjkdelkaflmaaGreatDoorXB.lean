/- An abstract machine for the program's text, part 5: operations on memory. -/
import Derived.Test.YtjmjkdelkaflmaaGreatDoorXA
set_option linter.unusedVariables false
set_option linter.unusedSimpArgs false
namespace Go.Proofs.YtjmjkdelkaflmaaGreatDoor.Abs
open Go Go.RowKit

theorem setCells_row {g : Nat} {e : TypeId} {fr : Nat × Nat} : ∀ (vs : List Value) (o : Nat) (cur : Array Value) (w : World), w.heap[g]? = some (.cells cur e fr) → o + vs.length ≤ cur.size →
  w.setCells g o vs = { w with heap := w.heap.setIfInBounds g (.cells (cur.toList.take o ++ vs ++ cur.toList.drop (o + vs.length)).toArray e fr) }
 | [], o, cur, w, hg, hl => by
  simp only [World.setCells, List.append_nil, List.length_nil, Nat.add_zero, List.take_append_drop, Array.toArray_toList]
  have hlt : g < w.heap.size := (Array.getElem?_eq_some_iff.1 hg).1
  have hv : w.heap[g] = .cells cur e fr := (Array.getElem?_eq_some_iff.1 hg).2
  cases w with
  | mk heap tape drawn os output =>
   congr 1
   apply Array.ext_getElem?
   intro k
   simp only [Array.getElem?_setIfInBounds]
   split
   ·rename_i hk
    subst hk
    simp only at hg hlt
    rw [hg]
   ·rfl
 | v :: rest, o, cur, w, hg, hl => by
  have hlt : g < w.heap.size := (Array.getElem?_eq_some_iff.1 hg).1
  have hv : w.heap[g] = .cells cur e fr := (Array.getElem?_eq_some_iff.1 hg).2
  have h1 : w.setCell ⟨g, o, none⟩ v = { w with heap := w.heap.setIfInBounds g (.cells (cur.setIfInBounds o v) e fr) } := by
   unfold World.setCell
   congr 1
   apply Array.ext_getElem?
   intro k
   simp only [Array.getElem?_modify, Array.getElem?_setIfInBounds]
   split
   ·rename_i hk
    subst hk
    rw [hg]
    simp
   ·rfl
  rw [World.setCells, h1, setCells_row (e := e) (fr := fr) rest (o + 1) (cur.setIfInBounds o v) _ (by simp [hlt]) (by simp at hl ⊢; omega)]
  have e' := list_seg_step cur.toList o v rest (by simp at hl ⊢; omega)
  simp only [List.length_cons, ← e', Array.toList_setIfInBounds]
  simp
theorem run_storeCells_row {P : Program} {w : World} {g : Nat} {e : TypeId} {fr : Nat × Nat} {cur : Array Value} (hg : w.heap[g]? = some (.cells cur e fr)) (hs : Soft e fr cur.size) (o : Nat) (vs : List Value) (hl : o + vs.length ≤ cur.size) (h1 : ∀ v ∈ vs, v.oneCell' = true) :
  (storeCells ⟨g, o, none⟩ vs 0).run P w = .ok () { w with heap := w.heap.setIfInBounds g (.cells (cur.toList.take o ++ vs ++ cur.toList.drop (o + vs.length)).toArray e fr) } := by
 rw [run_storeCells_cells g o vs 0 w ?_ ?_ h1, Nat.add_zero, setCells_row vs o cur w hg hl]
 ·intro j hj
  simp only [World.cell?, hg]
  rw [if_neg (by simp)]
  simp
  omega
 ·intro j hj
  simp only [World.frozen?, hg]
  rcases hs with hs | ⟨hs, _⟩ <;> simp only [Bool.and_eq_false_iff, decide_eq_false_iff_not] <;> omega
theorem okV_cells {ρ : Rho} {xs ys : List Value} (h : All2 (RC ρ) xs ys) : ∀ v ∈ ys, v.oneCell' = true := by
 induction h with
 | nil => intro v hv; cases hv
 | cons r _ ih =>
  intro v hv
  rcases List.mem_cons.1 hv with rfl | hv
  ·exact r.oneCell
  ·exact ih v hv
theorem take_mid {R : Value → Value → Prop} {xs ys k : List Value} {cur : List Value} {o : Nat} (h : All2 R k (cur.take k.length)) (hl : k.length ≤ cur.length) (h2 : All2 R xs ys) (ho : o + xs.length ≤ k.length) :
  All2 R (k.take o ++ xs ++ k.drop (o + xs.length)) ((cur.take o ++ ys ++ cur.drop (o + ys.length)).take (k.take o ++ xs ++ k.drop (o + xs.length)).length) := by
 have hle := h2.length
 have hlen : (k.take o ++ xs ++ k.drop (o + xs.length)).length = k.length := by simp; omega
 rw [hlen]
 have e : (cur.take o ++ ys ++ cur.drop (o + ys.length)).take k.length = (cur.take k.length).take o ++ ys ++ (cur.take k.length).drop (o + ys.length) := by
  apply List.ext_getElem?
  intro i
  simp only [List.getElem?_take, List.getElem?_append, List.length_append, List.length_take, List.getElem?_drop]
  have h1 : min o cur.length = o := by omega
  have h2 : min o (min k.length cur.length) = o := by omega
  rw [h1, h2]
  by_cases hi : i < k.length
  ·rw [if_pos hi]
   by_cases a : i < o + ys.length
   ·rw [if_pos a, if_pos a]
    by_cases b : i < o
    ·simp [b, hi]
    ·rw [if_neg b, if_neg b]
   ·rw [if_neg a, if_neg a, if_pos (by omega)]
  ·rw [if_neg hi, if_neg (by omega), if_neg (by omega)]
 rw [e]
 refine ((h.take o).append h2).append ?_
 rw [hle]
 exact h.drop _
theorem own_list {ρ : Rho} {w w0 : World} {k : Blk} {l : Loc} {g : Nat} {cur : Array Value} {fr : Nat × Nat} {et : TypeId} (hla : l.a = ⟨g, 0, none⟩) (hg : w.heap[g]? = some (.cells cur et fr)) (hl : k.cells.length ≤ cur.size)
  (hc : ∀ i u, k.cells[i]? = some u → ∃ u', w.cell? (l.a.add i) = some u' ∧ RC ρ u u') : All2 (RC ρ) k.cells (cur.toList.take k.cells.length) := by
 refine All2.of_get (by simp; omega) fun i x y hx hy => ?_
 obtain ⟨u', h1, h2⟩ := hc i x hx
 rw [hla, add_plain] at h1
 simp only [World.cell?, hg] at h1
 rw [List.getElem?_take] at hy
 split at hy
 ·simp only [Array.getElem?_toList] at hy
  simp at h1
  rw [h1] at hy
  injection hy with hy
  subst hy
  exact h2
 ·cases hy
theorem get_rel {ρ : Rho} {H : Hp} {w w0 : World} (h : RH ρ H w0 w) {b o n : Nat} {xs : List Value} (hx : H.get b o n = some xs) :
  ∃ l ys, ρ b = some l ∧ All2 (RC ρ) xs ys ∧ xs.length = n ∧ ∀ j v, ys[j]? = some v → w.cell? ((l.a.add o).add j) = some v := by
 unfold Hp.get at hx
 split at hx
 ·rename_i k hk
  split at hx
  ·injection hx with hx
   rename_i hle
   obtain ⟨l, hl, hc, _⟩ := h.cells b k hk
   have hlen : xs.length = n := by rw [← hx]; simp; omega
   refine ⟨l, xs.mapIdx (fun j _ => (w.cell? (l.a.add (o + j))).getD undef), hl, All2.of_get (by simp) fun i x y h1 h2 => ?_, hlen, fun j v hj => ?_⟩
   ·simp only [List.getElem?_mapIdx] at h2
    rw [h1] at h2
    simp at h2
    rw [← hx, List.getElem?_take] at h1
    split at h1
    ·rw [List.getElem?_drop] at h1
     obtain ⟨u', a, r⟩ := hc _ x h1
     rw [a] at h2
     simp at h2
     rw [← h2]
     exact r
    ·cases h1
   ·simp only [List.getElem?_mapIdx] at hj
    cases hq : xs[j]? with
    | none => rw [hq] at hj; cases hj
    | some x =>
     rw [hq] at hj
     simp at hj
     rw [← hx, List.getElem?_take] at hq
     split at hq
     ·rw [List.getElem?_drop] at hq
      obtain ⟨u', a, r⟩ := hc _ x hq
      rw [a] at hj
      simp at hj
      rw [add_add, a, hj]
     ·cases hq
  ·cases hx
 ·cases hx
theorem put_rel {ρ : Rho} {H H' : Hp} {w w0 : World} (h : RH ρ H w0 w) {b o : Nat} {xs ys : List Value} (hp : H.put b o xs = some H') (hx : All2 (RC ρ) xs ys) (h1 : ∀ v ∈ ys, v.oneCell' = true) :
  ∃ l g w', ρ b = some l ∧ l.a = ⟨g, 0, none⟩ ∧ (∀ P, (storeCells ⟨g, o, none⟩ ys 0).run P w = .ok () w') ∧ RH ρ H' w0 w' := by
 unfold Hp.put at hp
 split at hp
 ·rename_i k hk
  split at hp
  ·rename_i hrw
   split at hp
   ·rename_i hle
    injection hp with hp
    obtain ⟨l, hl, hc, ho⟩ := h.cells b k hk
    obtain ⟨et, het⟩ := ET.ty_of hrw.2
    obtain ⟨g, cur, fr, hla, hg0, hg, hs, hkl, hcs, hm⟩ := (ho hrw.1).ty het
    have hyl := hx.length
    refine ⟨l, g, _, hl, hla, fun P => run_storeCells_row hg hs o ys (by omega) h1, ?_⟩
    subst hp
    have hsz : (cur.toList.take o ++ ys ++ cur.toList.drop (o + ys.length)).toArray.size = cur.size := by simp; omega
    refine h.put hk hl hrw.1 cur _ fr fr g hla het hg (by rw [hsz]; exact hs) hsz _ (by simp; omega) ?_
    have := take_mid (own_list (w0 := w0) hla hg hkl hc) (by simpa using hkl) hx hle
    simpa using this
   ·cases hp
  ·cases hp
 ·cases hp

section
variable {P : Program} {o : Oper} {a : Act} {n : Nat} {t : Nat → Value} {w w0 : World} {ρ : Rho} {H : Hp}
def isRowT (P : Program) (T : TypeId) : Option Bool :=
 match P.underlying T with
 | some (.struct _) | some (.array _ _) => some true
 | some _ => some false
 | none => none
theorem run_isAgg {T : TypeId} {b : Bool} (h : isRowT P T = some b) (w : World) : (isAgg T).run P w = .ok b w := by
 unfold isRowT at h
 split at h
 ·rename_i hu; injection h with h; subst h; simp [isAgg, run_underlying hu]
 ·rename_i hu; injection h with h; subst h; simp [isAgg, run_underlying hu]
 ·rename_i d h1 h2 hu
  injection h with h
  subst h
  simp only [isAgg, Sem.run_bind, run_underlying hu, Result.andThen_ok]
  cases d <;> simp_all
 ·cases h
theorem run_sizeOf {T : TypeId} {n : Nat} (h : (P.info? T).map (·.size) = some n) (w : World) : (sizeOf T).run P w = .ok n w := by
 cases hq : P.info? T with
 | none => simp [hq] at h
 | some i => simp [hq] at h; simp [sizeOf, typeInfo, hq, h]
theorem ok_load {T : TypeId} {x : Operand} {x' : Opd} {b q : Nat} {v : Value} (ho : o.op = .load T x) (ht : isRowT P T = some false) (hx : cO n x = some x') (hp : ev t x' = .pointer (some ⟨b, q, none⟩)) (hv : H.get b q 1 = some [v]) (hg : RG ρ n t a) (h : RH ρ H w0 w) : Ok0 P o a w ρ v := by
 obtain ⟨l, hl, e⟩ := rv_ptr (hp ▸ ev_rel hg hx)
 obtain ⟨l', ys, hl', h2, _, hc⟩ := get_rel h hv
 rw [hl] at hl'
 injection hl' with hl'
 subst hl'
 cases h2 with
 | cons r rest =>
  rename_i y ys
  have := hc 0 y rfl
  rw [add_add, Nat.add_zero] at this
  refine Ok.still h (v' := y) ?_ (.one (.one r))
  simp [execOp, ho, e, Instr.loadAt, Instr.sureAddr, loadVar, run_isAgg ht, this]
theorem ok_loadA {T : TypeId} {x : Operand} {x' : Opd} {b q m : Nat} {xs : List Value} (ho : o.op = .load T x) (ht : isRowT P T = some true) (hs : (P.info? T).map (·.size) = some m) (hx : cO n x = some x') (hp : ev t x' = .pointer (some ⟨b, q, none⟩)) (hv : H.get b q m = some xs) (hg : RG ρ n t a) (h : RH ρ H w0 w) : Ok0 P o a w ρ (.agg xs.toArray) := by
 obtain ⟨l, hl, e⟩ := rv_ptr (hp ▸ ev_rel hg hx)
 obtain ⟨l', ys, hl', h2, hn, hc⟩ := get_rel h hv
 rw [hl] at hl'
 injection hl' with hl'
 subst hl'
 refine Ok.still h (v' := .agg ys.toArray) ?_ (.one (.agg h2))
 have hlo := run_loadCells_list (P := P) w (l.a.add q) ys hc
 rw [← h2.length, hn] at hlo
 simp [execOp, ho, e, Instr.loadAt, Instr.sureAddr, loadVar, run_isAgg ht, run_sizeOf hs, hlo]
theorem rt_of {x : Operand} {x' : Opd} (hx : cO n x = some x') (hn : notTup (ev t x') = true) (hg : RG ρ n t a) : RT ρ (ev t x') (a.eval x) := by
 have := ev_rel hg hx
 generalize ev t x' = u at this hn ⊢
 generalize a.eval x = u' at this ⊢
 cases this with
 | one h => exact h
 | tuple h => cases hn
theorem ok_store {T : TypeId} {x y : Operand} {x' y' : Opd} {b q m : Nat} {H' : Hp} (ho : o.op = .store T x y) (hs : (P.info? T).map (·.size) = some m) (hx : cO n x = some x') (hy : cO n y = some y') (hp : ev t x' = .pointer (some ⟨b, q, none⟩))
  (hm : (cellsOf (ev t y')).length = m) (hst : notTup (ev t y') = true) (hv : H.put b q (cellsOf (ev t y')) = some H') (hg : RG ρ n t a) (h : RH ρ H w0 w) : Ok P o a w ρ undef H' w0 := by
 obtain ⟨l, hl, e⟩ := rv_ptr (hp ▸ ev_rel hg hx)
 have h2 := rt_cells (rt_of hy hst hg)
 have h1 := okV_cells h2
 obtain ⟨l', g, w', hl', hla, hw, hR⟩ := put_rel h hv h2 h1
 rw [hl] at hl'
 injection hl' with hl'
 subst hl'
 rw [hla, add_plain] at e
 refine ⟨ρ, undef, w', .inr ⟨?_, rfl⟩, Ext.refl _, rv_undef _, hR⟩
 have hsz : (a.eval y).cells.size = m := by rw [← hm, h2.length, Array.length_toList]
 simp [execOp, ho, e, Instr.storeAt, Instr.sureAddr, storeVar, run_sizeOf hs, hsz, hw P]
end
section
variable {P : Program} {o : Oper} {a : Act} {n : Nat} {t : Nat → Value} {w w0 : World} {ρ : Rho} {H : Hp}
theorem ok_nilck {x : Operand} {x' : Opd} {p : Addr} (ho : o.op = .nilCheck x) (hx : cO n x = some x') (hp : ev t x' = .pointer (some p)) (hg : RG ρ n t a) (h : RH ρ H w0 w) : Ok0 P o a w ρ (.pointer (some p)) := by
 have hr := hp ▸ ev_rel hg hx
 obtain ⟨q, e⟩ := rv_ptr_some hr
 refine Ok.still h (v' := a.eval x) ?_ hr
 simp [execOp, ho, e]
theorem ok_fadr {T : TypeId} {x : Operand} {x' : Opd} {fld b q : Nat} {fs : Array Field} {f : Field} {m : Nat} (ho : o.op = .fieldAddr T x fld) (hu : P.underlying T = some (.struct fs)) (hf : fs[fld]? = some f) (hs : (P.info? f.type).map (·.size) = some m) (hm : m ≠ 0)
  (hx : cO n x = some x') (hp : ev t x' = .pointer (some ⟨b, q, none⟩)) (hg : RG ρ n t a) (h : RH ρ H w0 w) : Ok0 P o a w ρ (.pointer (some ⟨b, q + f.offset, none⟩)) := by
 obtain ⟨l, hl, e⟩ := rv_ptr (hp ▸ ev_rel hg hx)
 refine Ok.still h (v' := .pointer (some (l.a.add (q + f.offset)))) ?_ (.one (.one (.ptr _ _ l hl)))
 simp [execOp, ho, e, Instr.fieldAt, run_underlying hu, hf, Instr.sureAddr, fieldPlace, run_sizeOf hs, hm, add_add]
theorem ok_iadr {T E : TypeId} {x i : Operand} {x' i' : Opd} {b q m c sz : Nat} {k : IntKind} {j : Int} (ho : o.op = .indexAddr T x i) (hu : P.underlying T = some (.slice E)) (hs : (P.info? E).map (·.size) = some sz)
  (hx : cO n x = some x') (hi : cO n i = some i') (hp : ev t x' = .slice (some ⟨b, q, none⟩) m c) (hj : ev t i' = .int k j) (h0 : 0 ≤ j ∧ j < m) (hg : RG ρ n t a) (h : RH ρ H w0 w) : Ok0 P o a w ρ (.pointer (some ⟨b, q + j.toNat * sz, none⟩)) := by
 obtain ⟨p, c', e, _, hl1⟩ := rv_slice (hp ▸ ev_rel hg hx)
 obtain ⟨l, hl, hp', _⟩ := hl1 (.inl (by omega))
 have e2 := rv_int (hj ▸ ev_rel hg hi)
 subst hp'
 refine Ok.still h (v' := .pointer (some (l.a.add (q + j.toNat * sz)))) ?_ (.one (.one (.ptr _ _ l hl)))
 simp [execOp, ho, e, e2, Instr.indexAt, asIntOf, run_underlying hu, h0, run_sizeOf hs, add_add]
theorem ok_iadrA {T E : TypeId} {x i : Operand} {x' i' : Opd} {b q m sz : Nat} {k : IntKind} {j : Int} (ho : o.op = .indexAddr T x i) (hu : P.underlying T = some (.array m E)) (hs : (P.info? E).map (·.size) = some sz)
  (hx : cO n x = some x') (hi : cO n i = some i') (hp : ev t x' = .pointer (some ⟨b, q, none⟩)) (hj : ev t i' = .int k j) (h0 : 0 ≤ j ∧ j < m) (hg : RG ρ n t a) (h : RH ρ H w0 w) : Ok0 P o a w ρ (.pointer (some ⟨b, q + j.toNat * sz, none⟩)) := by
 obtain ⟨l, hl, e⟩ := rv_ptr (hp ▸ ev_rel hg hx)
 have e2 := rv_int (hj ▸ ev_rel hg hi)
 refine Ok.still h (v' := .pointer (some (l.a.add (q + j.toNat * sz)))) ?_ (.one (.one (.ptr _ _ l hl)))
 simp [execOp, ho, e, e2, Instr.indexAt, Instr.sureAddr, asIntOf, run_underlying hu, h0, run_sizeOf hs, add_add]
theorem ok_idxS {T : TypeId} {x i : Operand} {x' i' : Opd} {s : ByteArray} {k : IntKind} {j : Int} {c : UInt8} (ho : o.op = .index T x i) (hu : P.underlying T = some .string)
  (hx : cO n x = some x') (hi : cO n i = some i') (hp : ev t x' = .string s) (hj : ev t i' = .int k j) (h0 : 0 ≤ j) (hc : s[j.toNat]? = some c) (hg : RG ρ n t a) (h : RH ρ H w0 w) : Ok0 P o a w ρ (.int .u8 c.toNat) := by
 have e := rv_string (hp ▸ ev_rel hg hx)
 have e2 := rv_int (hj ▸ ev_rel hg hi)
 refine Ok.still h ?_ (.one (.one (.int _ _)))
 simp [execOp, ho, e, e2, Instr.index, asIntOf, run_underlying hu, h0, hc]
theorem ok_idxA {T E : TypeId} {x i : Operand} {x' i' : Opd} {m sz : Nat} {k : IntKind} {j : Int} {xs : Array Value} {b : Bool} {v : Value} (ho : o.op = .index T x i) (hu : P.underlying T = some (.array m E)) (hb : isRowT P E = some b) (hs : (P.info? E).map (·.size) = some sz)
  (hx : cO n x = some x') (hi : cO n i = some i') (hp : ev t x' = .agg xs) (hj : ev t i' = .int k j) (h0 : 0 ≤ j ∧ j < m) (hv : if b = true then v = .agg ((xs.toList.drop (j.toNat * sz)).take sz).toArray else xs.toList[j.toNat * sz]? = some v) (hg : RG ρ n t a) (h : RH ρ H w0 w) : Ok0 P o a w ρ v := by
 obtain ⟨ys, e, hr⟩ := rv_agg (hp ▸ ev_rel hg hx)
 have e2 := rv_int (hj ▸ ev_rel hg hi)
 cases b
 ·obtain ⟨y, hy, hR⟩ := hr.get _ _ (by simpa using hv)
  refine Ok.still h (v' := y) ?_ (.one (.one hR))
  simp [execOp, ho, e, e2, Instr.index, asIntOf, run_underlying hu, h0, run_sizeOf hs, part, run_isAgg hb, hy]
 ·simp only [if_true] at hv
  subst hv
  refine Ok.still h (v' := .agg ((ys.drop (j.toNat * sz)).take sz).toArray) ?_ (.one (.agg ((hr.drop _).take _)))
  simp [execOp, ho, e, e2, Instr.index, asIntOf, run_underlying hu, h0, run_sizeOf hs, part, run_isAgg hb, List.extract_eq_take_drop]
theorem ok_fld {T : TypeId} {x : Operand} {x' : Opd} {fld : Nat} {fs : Array Field} {f : Field} {xs : Array Value} {v : Value} (ho : o.op = .field T x fld) (hu : P.underlying T = some (.struct fs)) (hf : fs[fld]? = some f) (hb : isRowT P f.type = some false)
  (hx : cO n x = some x') (hp : ev t x' = .agg xs) (hv : xs.toList[f.offset]? = some v) (hg : RG ρ n t a) (h : RH ρ H w0 w) : Ok0 P o a w ρ v := by
 obtain ⟨ys, e, hr⟩ := rv_agg (hp ▸ ev_rel hg hx)
 obtain ⟨y, hy, hR⟩ := hr.get _ _ hv
 refine Ok.still h (v' := y) ?_ (.one (.one hR))
 simp [execOp, ho, e, Instr.field, asAgg, run_underlying hu, hf, part, run_isAgg hb, hy]
def cOO (n : Nat) : Option Operand → Option (Option Opd)
 | none => some none
 | some x => (cO n x).map some
theorem run_bounds {lo hi : Option Operand} {lo' hi' : Option Opd} {isS : Bool} {m cap l r : Nat} (hlo : cOO n lo = some lo') (hhi : cOO n hi = some hi') (hb : bound (lo'.map (ev t)) (hi'.map (ev t)) m = some (l, r)) (hc : m ≤ cap) (hg : RG ρ n t a) (w : World) :
  (Instr.sliceBounds isS m cap (lo.map a.eval) (hi.map a.eval) none).run P w = .ok (l, r, cap) w ∧ l ≤ r ∧ r ≤ m := by
 have one : ∀ {x : Option Operand} {x' : Option Opd}, cOO n x = some x' → (∃ k i, x'.map (ev t) = some (.int k i)) → ∃ k i, x'.map (ev t) = some (.int k i) ∧ x.map a.eval = some (.int k i) := by
  intro x x' hx ⟨k, i, h⟩
  refine ⟨k, i, h, ?_⟩
  cases x with
  | none => simp [cOO] at hx; subst hx; simp at h
  | some x =>
   simp only [cOO, Option.map_eq_some_iff] at hx
   obtain ⟨y, hy, rfl⟩ := hx
   simp only [Option.map_some, Option.some.injEq] at h ⊢
   exact rv_int (h ▸ ev_rel hg hy)
 have non : ∀ {x : Option Operand} {x' : Option Opd}, cOO n x = some x' → x'.map (ev t) = none → x.map a.eval = none := by
  intro x x' hx h
  cases x with
  | none => rfl
  | some x =>
   simp only [cOO, Option.map_eq_some_iff] at hx
   obtain ⟨y, hy, rfl⟩ := hx
   simp at h
 unfold bound at hb
 split at hb
 ·rename_i k i hh
  obtain ⟨k1, i1, e1, e2⟩ := one hhi ⟨_, _, hh⟩
  rw [e1] at hh
  injection hh with hh
  injection hh with hh1 hh2
  subst hh1 hh2
  split at hb
  ·rename_i hle
   split at hb
   ·rename_i k2 i2 hh2
    obtain ⟨k3, i3, e3, e4⟩ := one hlo ⟨_, _, hh2⟩
    rw [e3] at hh2
    injection hh2 with hh2
    injection hh2 with hh1 hh2
    subst hh1 hh2
    split at hb
    ·injection hb with hb
     injection hb with hb1 hb2
     subst hb1 hb2
     rw [e2, e4]
     refine ⟨?_, by omega, by omega⟩
     have a1 : (i1.toNat : Int) = i1 := Int.toNat_of_nonneg (by omega)
     simp [Instr.sliceBounds, run_sliceBound, hle, show i1 ≤ (cap : Int) by omega, a1, *]
    ·cases hb
   ·rename_i hh2
    injection hb with hb
    injection hb with hb1 hb2
    subst hb1 hb2
    rw [e2, non hlo hh2]
    refine ⟨?_, by omega, by omega⟩
    simp [Instr.sliceBounds, run_sliceBound, hle, show i1 ≤ (cap : Int) by omega]
   ·cases hb
  ·cases hb
 ·rename_i hh
  rw [non hhi hh]
  split at hb
  ·rename_i k2 i2 hh2
   obtain ⟨k3, i3, e3, e4⟩ := one hlo ⟨_, _, hh2⟩
   rw [e3] at hh2
   injection hh2 with hh2
   injection hh2 with hh1 hh2
   subst hh1 hh2
   split at hb
   ·injection hb with hb
    injection hb with hb1 hb2
    subst hb1 hb2
    rw [e4]
    refine ⟨?_, by omega, by omega⟩
    simp [Instr.sliceBounds, run_sliceBound, *]
   ·cases hb
  ·rename_i hh2
   injection hb with hb
   injection hb with hb1 hb2
   subst hb1 hb2
   rw [non hlo hh2]
   refine ⟨?_, by omega, by omega⟩
   simp [Instr.sliceBounds]
  ·cases hb
 ·cases hb
theorem ok_cut {T E : TypeId} {x : Operand} {x' : Opd} {lo hi : Option Operand} {lo' hi' : Option Opd} {b q m c sz l r : Nat} (ho : o.op = .slice T x lo hi none) (hu : P.underlying T = some (.slice E)) (hs : (P.info? E).map (·.size) = some sz)
  (hx : cO n x = some x') (hlo : cOO n lo = some lo') (hhi : cOO n hi = some hi') (hp : ev t x' = .slice (some ⟨b, q, none⟩) m c) (hb : bound (lo'.map (ev t)) (hi'.map (ev t)) m = some (l, r)) (hg : RG ρ n t a) (h : RH ρ H w0 w) :
  Ok0 P o a w ρ (.slice (some ⟨b, q + l * sz, none⟩) (r - l) (if c = sz ∧ (l < r ∨ l = 0) then sz else 0)) := by
 obtain ⟨p, c', e, hc, hl⟩ := rv_slice (hp ▸ ev_rel hg hx)
 obtain ⟨hrun, hlr, hrm⟩ := run_bounds (P := P) (isS := true) (cap := c') hlo hhi hb hc hg w
 refine Ok.still h (v' := .slice (some (if c' = l then p else p.add (l * sz))) (r - l) (c' - l)) ?_ (.one (.one ?_))
 ·simp only [execOp, ho, Option.map_none, Instr.sliceAt, Sem.run_bind, run_underlying hu, Result.andThen_ok, e, Instr.slice, hrun, run_sizeOf hs, Sem.run_pure]
  by_cases hcl : c' = l <;> simp [hcl]
 ·by_cases h1 : l < r
  ·obtain ⟨lc, hlc, hpa, ht⟩ := hl (.inl (by omega))
   rw [if_neg (show ¬ c' = l by omega), hpa, add_add]
   refine .slice _ _ _ _ _ lc hlc (by omega) fun hne => ?_
   split at hne
   ·rename_i hcs
    obtain ⟨hcs, _⟩ := hcs
    rw [if_pos ⟨hcs, .inl h1⟩]
    subst hcs
    obtain ⟨t1, t2⟩ := ht hne
    refine ⟨t1, ?_⟩
    have : c' * c = (c' - l) * c + l * c := by rw [← Nat.add_mul]; congr 1; omega
    omega
   ·exact absurd rfl hne
  ·have h2 : r - l = 0 := by omega
   rw [h2]
   by_cases h3 : c = sz ∧ (l < r ∨ l = 0)
   ·rw [if_pos h3]
    obtain ⟨h3, h4⟩ := h3
    have h4 : l = 0 := by omega
    subst h3 h4
    by_cases hc0 : c = 0
    ·subst hc0
     exact .slice0 _ _ _ _
    ·obtain ⟨lc, hlc, hpa, ht⟩ := hl (.inr hc0)
     subst hpa
     have : (if c' = 0 then lc.a.add q else (lc.a.add q).add (0 * c)) = lc.a.add (q + 0 * c) := by
      rw [add_add]
      split <;> simp
     rw [this]
     refine .slice _ _ _ _ _ lc hlc (by omega) fun _ => ?_
     obtain ⟨t1, t2⟩ := ht hc0
     exact ⟨t1, by simpa using t2⟩
   ·rw [if_neg h3]
    exact .slice0 _ _ _ _
theorem ok_cut_nil {T E : TypeId} {x : Operand} {x' : Opd} {lo hi : Option Operand} {lo' hi' : Option Opd} {sz : Nat} (ho : o.op = .slice T x lo hi none) (hu : P.underlying T = some (.slice E)) (hs : (P.info? E).map (·.size) = some sz)
  (hx : cO n x = some x') (hlo : cOO n lo = some lo') (hhi : cOO n hi = some hi') (hp : ev t x' = .slice none 0 0) (hb : bound (lo'.map (ev t)) (hi'.map (ev t)) 0 = some (0, 0)) (hg : RG ρ n t a) (h : RH ρ H w0 w) :
  Ok0 P o a w ρ (.slice none 0 0) := by
 obtain ⟨e, _, _⟩ := rv_nil (hp ▸ ev_rel hg hx)
 obtain ⟨hrun, _, _⟩ := run_bounds (P := P) (isS := true) (cap := 0) hlo hhi hb (Nat.le_refl _) hg w
 refine Ok.still h (v' := .slice none 0 0) ?_ (.one (.one .sliceNil))
 simp [execOp, ho, Instr.sliceAt, run_underlying hu, e, Instr.slice, hrun, run_sizeOf hs]
theorem ok_cutS {T : TypeId} {x : Operand} {x' : Opd} {lo hi : Option Operand} {lo' hi' : Option Opd} {s : ByteArray} {l r : Nat} (ho : o.op = .slice T x lo hi none) (hu : P.underlying T = some .string)
  (hx : cO n x = some x') (hlo : cOO n lo = some lo') (hhi : cOO n hi = some hi') (hp : ev t x' = .string s) (hb : bound (lo'.map (ev t)) (hi'.map (ev t)) s.size = some (l, r)) (hg : RG ρ n t a) (h : RH ρ H w0 w) :
  Ok0 P o a w ρ (.string (s.extract l r)) := by
 have e := rv_string (hp ▸ ev_rel hg hx)
 obtain ⟨hrun, _, _⟩ := run_bounds (P := P) (isS := false) (cap := s.size) hlo hhi hb (Nat.le_refl _) hg w
 refine Ok.still h (v' := .string (s.extract l r)) ?_ (.one (.one (.string _)))
 simp [execOp, ho, Instr.sliceAt, run_underlying hu, e, Instr.slice, hrun]
theorem ok_cutA {T E : TypeId} {x : Operand} {x' : Opd} {lo hi : Option Operand} {lo' hi' : Option Opd} {b q m sz l r : Nat} (ho : o.op = .slice T x lo hi none) (hu : P.underlying T = some (.array m E)) (hs : (P.info? E).map (·.size) = some sz)
  (hx : cO n x = some x') (hlo : cOO n lo = some lo') (hhi : cOO n hi = some hi') (hp : ev t x' = .pointer (some ⟨b, q, none⟩)) (hb : bound (lo'.map (ev t)) (hi'.map (ev t)) m = some (l, r)) (hg : RG ρ n t a) (h : RH ρ H w0 w) :
  Ok0 P o a w ρ (.slice (some ⟨b, q + l * sz, none⟩) (r - l) 0) := by
 obtain ⟨lc, hl, e⟩ := rv_ptr (hp ▸ ev_rel hg hx)
 obtain ⟨hrun, hlr, hrm⟩ := run_bounds (P := P) (isS := false) (cap := m) hlo hhi hb (Nat.le_refl _) hg w
 refine Ok.still h (v' := .slice (some (if m = l then lc.a.add q else (lc.a.add q).add (l * sz))) (r - l) (m - l)) ?_ (.one (.one ?_))
 ·simp only [execOp, ho, Option.map_none, Instr.sliceAt, Sem.run_bind, run_underlying hu, Result.andThen_ok, e, Instr.sureAddr, hrun, run_sizeOf hs, Sem.run_pure]
 ·by_cases h1 : l < r
  ·rw [if_neg (by omega), add_add]
   exact .slice _ _ _ _ _ lc hl (by omega) fun hne => absurd rfl hne
  ·rw [show r - l = 0 by omega]
   exact .slice0 _ _ _ _
end
section
variable {P : Program} {o : Oper} {a : Act} {n : Nat} {t : Nat → Value} {w w0 : World} {ρ : Rho} {H : Hp}
theorem Ok.newPtr {e : TypeId} {xs ys : List Value} (h : RH ρ H w0 w) (hr : (execOp a.eval o).run P w = .ok (.value (.pointer (some ⟨w.heap.size, 0, none⟩))) (w.alloc (.cells ys.toArray e))) (hx : All2 (RC ρ) xs ys) (hm : ys.length ≤ maxLen) :
  Ok P o a w ρ (.pointer (some ⟨H.nx, 0, none⟩)) (H.push ⟨true, e, xs⟩) w0 := by
 have hl := hx.length
 obtain ⟨ρ', he, hn, hR⟩ := h.push e xs ys 1 ys.length (by rw [List.take_of_length_le (by omega)]; exact hx) (by omega) (by omega) hm
 refine ⟨ρ', _, _, .inl hr, he, .one (.one ?_), hR⟩
 have := RC.ptr (ρ := ρ') H.nx 0 _ hn
 rwa [add_plain] at this
theorem Ok.newSlice {e : TypeId} {xs ys : List Value} {m sz c : Nat} {w' : World} (h : RH ρ H w0 w') (hr : (execOp a.eval o).run P w = .ok (.value (.slice (some ⟨w'.heap.size, 0, none⟩) m c)) (w'.alloc (.cells ys.toArray e))) (hx : All2 (RC ρ) xs (ys.take xs.length)) (hl : xs.length ≤ ys.length) (hc : ys.length = c * sz) (hmc : m ≤ c) (hm : c ≤ maxLen) :
  Ok P o a w ρ (.slice (some ⟨H.nx, 0, none⟩) m sz) (H.push ⟨true, e, xs⟩) w0 := by
 obtain ⟨ρ', he, hn, hR⟩ := h.push e xs ys sz c hx hl hc hm
 refine ⟨ρ', _, _, .inl hr, he, .one (.one ?_), hR⟩
 have := RC.slice (ρ := ρ') H.nx 0 m sz c _ hn hmc (fun _ => ⟨rfl, by simp⟩)
 rwa [add_plain] at this
theorem ok_box {T : TypeId} {x : Operand} {x' : Opd} (ho : o.op = .box T x) (hx : cO n x = some x') (ht : notTup (ev t x') = true) (hm : (cellsOf (ev t x')).length ≤ maxLen) (hg : RG ρ n t a) (h : RH ρ H w0 w) : Ok P o a w ρ (.pointer (some ⟨H.nx, 0, none⟩)) (H.push ⟨true, T, cellsOf (ev t x')⟩) w0 := by
 have hr := rt_cells (rt_of hx ht hg)
 refine Ok.newPtr h ?_ hr (by rw [← hr.length]; exact hm)
 simp [execOp, ho, Instr.box, newVar, newRow]
theorem okC_all {zs : List Value} (h : zs.all okC = true) (ρ : Rho) : All2 (RC ρ) zs zs := by
 induction zs with
 | nil => exact .nil
 | cons z zs ih =>
  simp only [List.all_cons, Bool.and_eq_true] at h
  exact .cons (okC_rel h.1 ρ) (ih h.2)
theorem run_zero {T : TypeId} {z : Value} (h : (P.info? T).bind (·.zero) = some z) (w : World) : (zeroValue T).run P w = .ok z w := by
 cases hq : P.info? T with
 | none => simp [hq] at h
 | some i => simp [hq] at h; simp [zeroValue, typeInfo, hq, h]
theorem ok_alloc {T : TypeId} {z : Value} {zs : List Value} (ho : o.op = .alloc T) (hz : (P.info? T).bind (·.zero) = some z) (hzs : z.cells.toList = zs) (hk : zs.all okC = true) (hm : zs.length ≤ maxLen) (h : RH ρ H w0 w) : Ok P o a w ρ (.pointer (some ⟨H.nx, 0, none⟩)) (H.push ⟨true, T, zs⟩) w0 := by
 refine Ok.newPtr h ?_ (okC_all hk ρ) hm
 simp [execOp, ho, Instr.alloc, run_zero hz, newVar, newRow, ← hzs]
theorem fold_fill (off : Nat) : ∀ (vs : List Value) (i : Nat) (cells : Array Value), off + i + vs.length ≤ cells.size →
  ((vs.zipIdx i).foldl (fun cs (p : Value × Nat) => cs.setIfInBounds (off + p.2) p.1) cells).toList = cells.toList.take (off + i) ++ vs ++ cells.toList.drop (off + i + vs.length)
 | [], i, cells, h => by simp
 | v :: vs, i, cells, h => by
  simp only [List.zipIdx_cons, List.foldl_cons]
  rw [fold_fill off vs (i + 1) _ (by simp at h ⊢; omega)]
  have e := list_seg_step cells.toList (off + i) v vs (by simp at h ⊢; omega)
  simp only [Array.toList_setIfInBounds]
  simpa [Nat.add_assoc] using e
theorem fill_rel {place : Nat → Option (Nat × Nat)} : ∀ (ps : List (Nat × Operand)) (ps' : List (Nat × Nat × Opd)) (zs xs : List Value) (cells : Array Value),
  (ps.mapM fun p => (place p.1).bind fun q => (cO n p.2).map fun x => (q.1, q.2, x)) = some ps' → fillA zs (ps'.map fun p => (p.1, p.2.1, ev t p.2.2)) = some xs → All2 (RC ρ) zs cells.toList → RG ρ n t a →
  ∃ ys : Array Value, Instr.fill place cells (ps.map fun p => (p.1, a.eval p.2)) = some ys ∧ All2 (RC ρ) xs ys.toList
 | [], ps', zs, xs, cells, hm, hf, hz, hg => by
  simp at hm
  subst hm
  simp [fillA] at hf
  subst hf
  exact ⟨cells, rfl, hz⟩
 | p :: ps, ps', zs, xs, cells, hm, hf, hz, hg => by
  simp only [List.mapM_cons, Option.bind_eq_bind, Option.pure_def] at hm
  cases hq : place p.1 with
  | none => simp [hq] at hm
  | some q =>
   cases hx : cO n p.2 with
   | none => simp [hq, hx] at hm
   | some x =>
    cases hr : ps.mapM (fun p => (place p.1).bind fun q => (cO n p.2).map fun x => (q.1, q.2, x)) with
    | none => simp [hq, hx, hr] at hm
    | some rest =>
     simp [hq, hx, hr] at hm
     subst hm
     simp only [List.map_cons, fillA] at hf
     split at hf
     ·rename_i hc
      obtain ⟨h1, h2, h3⟩ := hc
      have hv := rt_cells (rt_of hx h1 hg)
      have hl := hv.length
      have hzl := hz.length
      have e1 := fold_fill q.1 (a.eval p.2).cells.toList 0 cells (by simp at hl hzl ⊢; omega)
      have hz' : All2 (RC ρ) (zs.take q.1 ++ cellsOf (ev t x) ++ zs.drop (q.1 + q.2)) (((a.eval p.2).cells.toList.zipIdx 0).foldl (fun cs (p : Value × Nat) => cs.setIfInBounds (q.1 + p.2) p.1) cells).toList := by
       rw [e1]
       refine ((hz.take _).append hv).append ?_
       have : q.1 + 0 + (a.eval p.2).cells.toList.length = q.1 + q.2 := by omega
       rw [this]
       exact hz.drop _
      obtain ⟨ys, hy, hR⟩ := fill_rel ps rest _ xs _ hr hf hz' hg
      refine ⟨ys, ?_, hR⟩
      simp only [List.map_cons, Instr.fill, hq]
      have hs : (a.eval p.2).cells.size = q.2 := by rw [← Array.length_toList]; omega
      have hb : ¬ (q.1 + (a.eval p.2).cells.size > cells.size) := by rw [hs]; simp at hzl; omega
      rw [if_neg (by simp [hs]; simp [hs] at hb; omega)]
      have : (a.eval p.2).cells.zipIdx.foldl (fun cs (c, j) => cs.setIfInBounds (q.1 + j) c) cells = ((a.eval p.2).cells.toList.zipIdx 0).foldl (fun cs (p : Value × Nat) => cs.setIfInBounds (q.1 + p.2) p.1) cells := by
       rw [← Array.foldl_toList, Array.toList_zipIdx]
      rw [this]
      exact hy
     ·cases hf
def placesOf (P : Program) (T : TypeId) : Option (Nat → Option (Nat × Nat)) :=
 match P.underlying T with
 | some (.struct fields) => (fields.toList.mapM fun f => (P.info? f.type).map fun i => (f.offset, i.size)).map fun l => (l.toArray[·]?)
 | some (.array _ e) => (P.info? e).map fun i => fun j => some (j * i.size, i.size)
 | _ => none
theorem ok_build {T : TypeId} {parts : Array (Nat × Operand)} {parts' : List (Nat × Nat × Opd)} {z : Value} {zs xs : List Value} {place : Nat → Option (Nat × Nat)} (ho : o.op = .build T parts) (hp : placesOf P T = some place) (hz : (P.info? T).bind (·.zero) = some z) (hzs : z.cells.toList = zs) (hk : zs.all okC = true)
  (hm : (parts.toList.mapM fun p => (place p.1).bind fun q => (cO n p.2).map fun x => (q.1, q.2, x)) = some parts') (hf : fillA zs (parts'.map fun p => (p.1, p.2.1, ev t p.2.2)) = some xs) (hg : RG ρ n t a) (h : RH ρ H w0 w) : Ok0 P o a w ρ (.agg xs.toArray) := by
 obtain ⟨ys, hy, hR⟩ := fill_rel parts.toList parts' zs xs z.cells hm hf (by rw [hzs]; exact okC_all hk ρ) hg
 refine Ok.still h (v' := .agg ys) ?_ (.one ?_)
 ·have hb : P.built T (parts.map fun (i, x) => (i, a.eval x)).toList = some ys := by
   unfold placesOf at hp
   unfold Program.built
   cases hi : P.info? T with
   | none => simp [hi] at hz
   | some it =>
    simp [hi] at hz
    split at hp
    ·rename_i fields hu
     simp only [Option.map_eq_some_iff] at hp
     obtain ⟨l, hl, rfl⟩ := hp
     simp only [hu, hz, hl]
     simpa using hy
    ·rename_i m e hu
     simp only [Option.map_eq_some_iff] at hp
     obtain ⟨i, hl, rfl⟩ := hp
     simp only [hu, hz, hl]
     simpa using hy
    ·cases hp
  simp [execOp, ho, run_build w T _ ys hb]
 ·have := RT.agg hR
  simpa using this
theorem ok_lit {T E : TypeId} {parts : Array (Nat × Operand)} {parts' : List (Nat × Nat × Opd)} {z : Value} {zs xs : List Value} {m sz : Nat} (ho : o.op = .buildSlice T m parts) (hu : P.underlying T = some (.slice E)) (hs : (P.info? E).map (·.size) = some sz) (hz : (P.info? E).bind (·.zero) = some z) (hzs : z.cells.toList.length = sz) (hk : z.cells.toList.all okC = true) (h24 : m * sz ≤ 16777216) (hsz : 0 < sz)
  (hm : (parts.toList.mapM fun p => ((fun i => some (i * sz, sz)) p.1 : Option (Nat × Nat)).bind fun q => (cO n p.2).map fun x => (q.1, q.2, x)) = some parts') (hzz : mkCells z.cells.toList m = zs) (hf : fillA zs (parts'.map fun p => (p.1, p.2.1, ev t p.2.2)) = some xs) (hg : RG ρ n t a) (h : RH ρ H w0 w) :
  Ok P o a w ρ (.slice (some ⟨H.nx, 0, none⟩) m sz) (H.push ⟨true, E, xs⟩) w0 := by
 have hzl : z.cells.size = sz := by simpa using hzs
 have hcell : (Array.range (m * sz)).map (fun i => (if m * sz = 0 then #[] else z.cells)[i % (if m * sz = 0 then #[] else z.cells).size]!) = zs.toArray := by
  subst hzz
  unfold mkCells
  apply Array.ext'
  by_cases h0 : m * sz = 0
  ·simp [h0, hzl]
  ·simp only [h0, if_false, Array.toList_map, Array.toList_range, hzl, Array.length_toList]
   refine List.map_congr_left fun i _ => ?_
   have : i % sz < z.cells.size := by rw [hzl]; exact Nat.mod_lt _ hsz
   simp [this, getElem!_pos]
 have hzr : All2 (RC ρ) zs zs := by
  subst hzz
  refine okC_all (List.all_eq_true.2 fun v hv => ?_) ρ
  unfold mkCells at hv
  obtain ⟨i, hi, rfl⟩ := List.mem_map.1 hv
  have : i % z.cells.toList.length < z.cells.toList.length := Nat.mod_lt _ (by omega)
  rw [List.getD_eq_getElem?_getD, List.getElem?_eq_getElem this]
  exact List.all_eq_true.1 hk _ (List.getElem_mem _)
 have hzsl : zs.length = m * sz := by subst hzz; simp [mkCells, hzl]
 obtain ⟨ys, hy, hR⟩ := fill_rel (place := fun i => some (i * sz, sz)) parts.toList parts' zs xs zs.toArray hm hf (by simpa using hzr) hg
 have hxl := hR.length
 have hxs : ∀ (ps : List (Nat × Nat × Value)) (zs xs : List Value), fillA zs ps = some xs → xs.length = zs.length := by
  intro ps
  induction ps with
  | nil => intro zs xs h; simp [fillA] at h; rw [h]
  | cons p ps ih =>
   intro zs xs h
   simp only [fillA] at h
   split at h
   ·rw [ih _ _ h]; simp; omega
   ·cases h
 have hxx := hxs _ _ _ hf
 refine Ok.newSlice (ys := ys.toList) h ?_ (by rw [List.take_of_length_le (by omega)]; exact hR) (by omega) (by omega) (Nat.le_refl _) ?_
 ·have h24' : ¬ (m * sz > 2 ^ 24) := by omega
  have hfill : Instr.fill (fun i => some (i * sz, sz)) (Array.map (fun i => (if m * sz = 0 then #[] else z.cells)[i % (if m * sz = 0 then #[] else z.cells).size]!) (Array.range (m * sz))) (parts.map fun (i, x) => (i, a.eval x)).toList = some ys := by
   rw [hcell]
   simpa using hy
  by_cases h0 : m * sz = 0
  ·rw [h0] at hfill
   simp only [if_true] at hfill
   simp only [execOp, ho, Instr.buildSlice, Sem.run_bind, run_underlying hu, Result.andThen_ok, run_sizeOf hs, h0, Nat.not_lt_zero, gt_iff_lt, if_false, if_true, Sem.run_pure, hfill]
   simp [newRow, hfill]
  ·simp only [h0, if_false] at hfill
   simp only [execOp, ho, Instr.buildSlice, Sem.run_bind, run_underlying hu, Result.andThen_ok, run_sizeOf hs, h0, h24', if_false, Sem.run_pure, run_zero hz, hfill]
   simp [newRow, hfill]
 ·have : m ≤ m * sz := Nat.le_mul_of_pos_right _ hsz
  have hm63 : maxLen = 9223372036854775807 := by decide
  omega
end
section
variable {P : Program} {o : Oper} {a : Act} {n : Nat} {t : Nat → Value} {w w0 : World} {ρ : Rho} {H : Hp}
theorem ok_make {T E : TypeId} {x y : Operand} {x' y' : Opd} {i : TypeInfo} {z : Value} {zs : List Value} {k1 k2 : IntKind} {m r : Int} (ho : o.op = .makeSlice T x y) (hu : P.underlying T = some (.slice E)) (hi : P.info? E = some i) (hz : i.zero = some z) (hzs : z.cells.toList = zs) (hzl : zs.length = i.size) (hpos : 0 < i.size) (hk : zs.all okC = true)
    (hx : cO n x = some x') (hy : cO n y = some y') (hm : ev t x' = .int k1 m) (hr : ev t y' = .int k2 r) (h0 : 0 ≤ m) (hmr : m ≤ r) (hb : (i.bytes : Int) * r ≤ 281474976710656) (h63 : r ≤ 9223372036854775807) (hg : RG ρ n t a) (h : RH ρ H w0 w) :
    Ok P o a w ρ (.slice (some ⟨H.nx, 0, none⟩) m.toNat zs.length) (H.push ⟨true, E, mkCells zs m.toNat⟩) w0 := by
  have e1 := rv_int (hm ▸ ev_rel hg hx)
  have e2 := rv_int (hr ▸ ev_rel hg hy)
  have hrun := run_make (P := P) w T E i z hu hi hz k1 k2 m r h0 hmr hb h63
  have hzc : z.cells.size = i.size := by rw [← hzl, ← hzs]; simp
  have hcells : (madeCells z.cells (r.toNat * i.size)).toList = mkCells zs r.toNat := by
    unfold madeCells mkCells
    simp only [Array.toList_map, Array.toList_range, hzl]
    refine List.map_congr_left fun j _ => ?_
    have : j % i.size < z.cells.size := by rw [hzc]; exact Nat.mod_lt _ hpos
    rw [hzc, getElem!_pos z.cells _ this, ← hzs, List.getD_eq_getElem?_getD, Array.getElem?_toList, Array.getElem?_eq_getElem this]
    rfl
  refine Ok.newSlice (ys := mkCells zs r.toNat) (c := r.toNat) h ?_ ?_ ?_ ?_ (by omega) (by rw [show maxLen = 9223372036854775807 by decide]; omega)
  · simp only [execOp, ho, e1, e2, Sem.run_bind, hrun, Result.andThen_ok, Sem.run_pure]
    rw [← hcells, Array.toArray_toList]
  · have : (mkCells zs r.toNat).take (mkCells zs m.toNat).length = mkCells zs m.toNat := by
      unfold mkCells
      rw [← List.map_take]
      congr 1
      rw [List.length_map, List.length_range, List.take_range, Nat.min_eq_left]
      exact Nat.mul_le_mul_right _ (by omega)
    rw [this]
    refine okC_all (List.all_eq_true.2 fun v hv => ?_) ρ
    unfold mkCells at hv
    obtain ⟨j, hj, rfl⟩ := List.mem_map.1 hv
    have : j % zs.length < zs.length := Nat.mod_lt _ (by omega)
    rw [List.getD_eq_getElem?_getD, List.getElem?_eq_getElem this]
    exact List.all_eq_true.1 hk _ (List.getElem_mem _)
  · unfold mkCells
    simp only [List.length_map, List.length_range]
    exact Nat.mul_le_mul_right _ (by omega)
  · simp [mkCells]
theorem sl_rel (h : RH ρ H w0 w) {sz : Nat} {p : Option Addr} {m c : Nat} {ys : List Value} {v : Value} (hs : H.sl sz (.slice p m c) = some ys) (hv : RV ρ (.slice p m c) v) :
    ys.length = m * sz ∧ ∃ zs, All2 (RC ρ) ys zs ∧ ((p = none ∧ v = .slice none 0 0 ∧ m = 0) ∨ ∃ q c', v = .slice (some q) m c' ∧ ∀ j u, zs[j]? = some u → w.cell? (q.add j) = some u) := by
  unfold Hp.sl at hs
  split at hs
  · rename_i he
    injection he with e1 e2 e3
    subst e1 e2 e3
    injection hs with hs
    subst hs
    exact ⟨by simp, [], .nil, .inl ⟨rfl, (rv_nil hv).1, rfl⟩⟩
  · rename_i b o n c he
    injection he with e1 e2 e3
    subst e1 e2 e3
    obtain ⟨q, c', e, _, hl⟩ := rv_slice hv
    split at hs
    · rename_i h0
      injection hs with hs
      subst hs h0
      exact ⟨by simp, [], .nil, .inr ⟨q, c', e, fun j u hj => by simp at hj⟩⟩
    · obtain ⟨l, zs, hl1, hr, hlen, hc⟩ := get_rel h hs
      obtain ⟨l', hl2, hq, _⟩ := hl (.inl (by omega))
      rw [hl1] at hl2
      injection hl2 with hl2
      subst hl2 hq
      exact ⟨hlen, zs, hr, .inr ⟨_, c', e, hc⟩⟩
  · cases hs
theorem strCells_rel (ρ : Rho) (s : ByteArray) : All2 (RC ρ) (strCells s) (strCells s) := by
  unfold strCells
  generalize s.data.toList = l
  induction l with
  | nil => exact .nil
  | cons b l ih => exact .cons (.int _ _) ih
theorem strCells_length (s : ByteArray) : (strCells s).length = s.size := by simp [strCells]
theorem run_first {w1 : World} {sz k m c : Nat} {q : Addr} {zs : List Value} (hz : ∀ j u, zs[j]? = some u → w1.cell? (q.add j) = some u) (hl : zs.length = m * sz) (hk : k ≤ m) : (Builtin.firstCells sz k (.slice (some q) m c)).run P w1 = .ok (zs.take (k * sz)).toArray w1 := by
  have hkm : k * sz ≤ m * sz := Nat.mul_le_mul_right _ hk
  have := run_loadCells_list (P := P) w1 q (zs.take (k * sz)) (fun j u hj => hz j u (by
    rw [List.getElem?_take] at hj
    split at hj
    · exact hj
    · cases hj))
  rw [List.length_take, hl, Nat.min_eq_left hkm] at this
  simpa [Builtin.firstCells] using this
theorem src_rel (h : RH ρ H w0 w) {sz m : Nat} {u v : Value} {ys : List Value} (hs : H.src sz u = some (m, ys)) (hv : RV ρ u v) :
    ys.length = m * sz ∧ ∃ zs, All2 (RC ρ) ys zs ∧ (Builtin.lenOf v).run P w = .ok m w ∧ ∀ k, k ≤ m → ∀ w1 : World, (∀ q u, w.cell? q = some u → w1.cell? q = some u) → (Builtin.firstCells sz k v).run P w1 = .ok (zs.take (k * sz)).toArray w1 := by
  unfold Hp.src at hs
  split at hs
  · rename_i s
    have := rv_string hv
    subst this
    split at hs
    · rename_i h1
      injection hs with hs
      injection hs with hs1 hs2
      subst hs1 hs2 h1
      refine ⟨by rw [strCells_length]; simp, strCells s, strCells_rel ρ s, by simp [Builtin.lenOf], fun k hk w1 _ => ?_⟩
      simp only [Builtin.firstCells, Sem.run_pure]
      congr 1
      apply Array.ext'
      simp [strCells, ByteArray.data_extract, List.map_take]
    · cases hs
  · rename_i p m c
    simp only [Option.map_eq_some_iff] at hs
    obtain ⟨ys', hs, he⟩ := hs
    injection he with e1 e2
    subst e1 e2
    obtain ⟨hl, zs, hr, hor⟩ := sl_rel h hs hv
    refine ⟨hl, zs, hr, ?_, ?_⟩
    · rcases hor with ⟨_, rfl, rfl⟩ | ⟨q, c', rfl, _⟩ <;> simp [Builtin.lenOf]
    · intro k hk w1 hw
      rcases hor with ⟨_, rfl, rfl⟩ | ⟨q, c', rfl, hc⟩
      · have : k = 0 := by omega
        subst this
        simp [Builtin.firstCells]
      · exact run_first (fun j u hj => hw _ _ (hc j u hj)) (by rw [← hr.length]; exact hl) hk
  · cases hs
theorem run_append_stay {T T2 ty E : TypeId} {d : TypeDesc} {i : TypeInfo} {p : Option Addr} {n c m : Nat} {v : Value} {zs : List Value} {w' : World} (hu : P.underlying T = some (.slice E)) (hu2 : P.underlying T2 = some d) (hd : d = .string ∨ ∃ e, d = .slice e) (hi : P.info? E = some i)
    (hl : (Builtin.lenOf v).run P w = .ok m w) (hf : (Builtin.firstCells i.size m v).run P w = .ok zs.toArray w) (hroom : n + m ≤ c) (hst : match p with | some q => (storeCells (q.add (n * i.size)) zs 0).run P w = .ok () w' | none => w' = w) :
    (Builtin.append_ #[T, T2] ty #[.slice p n c, v]).run P w = .ok (.slice p (n + m) c) w' := by
  cases p with
  | none =>
    simp only at hst
    subst hst
    rcases hd with rfl | ⟨e, rfl⟩ <;> simp [Builtin.append_, run_underlying hu, run_underlying hu2, sizeOf, typeInfo, hi, hl, hroom, hf]
  | some q =>
    simp only at hst
    rcases hd with rfl | ⟨e, rfl⟩ <;> simp [Builtin.append_, run_underlying hu, run_underlying hu2, sizeOf, typeInfo, hi, hl, hroom, hf, hst]
theorem run_append_new {T T2 ty E : TypeId} {d : TypeDesc} {i : TypeInfo} {z : Value} {p : Option Addr} {n c m : Nat} {v : Value} {olds zs : List Value} (hu : P.underlying T = some (.slice E)) (hu2 : P.underlying T2 = some d) (hd : d = .string ∨ ∃ e, d = .slice e) (hi : P.info? E = some i) (hz : i.zero = some z)
    (hl : (Builtin.lenOf v).run P w = .ok m w) (hf : (Builtin.firstCells i.size m v).run P w.drew = .ok zs.toArray w.drew) (ho : (Builtin.firstCells i.size n (.slice p n c)).run P w.drew = .ok olds.toArray w.drew) (hroom : c < n + m) (h63 : n + m ≤ 9223372036854775807) (hb : (n + m) * i.bytes ≤ 140737488355328) :
    (Builtin.append_ #[T, T2] ty #[.slice p n c, v]).run P w = .ok (.slice (some ⟨w.drew.heap.size, 0, none⟩) (n + m) (grownCap w (n + m) c E)) (w.drew.alloc (.cells (olds ++ zs ++ (Builtin.zeroCells z.cells (grownCap w (n + m) c E - (n + m))).toList).toArray E)) := by
  have hn : ¬ (n + m ≤ c) := by omega
  have h63' : ¬ (9223372036854775807 < ((n : Int) + (m : Int))) := by omega
  have h48' : ¬ (281474976710656 < Builtin.nextslicecap (n + m) c * i.bytes) := by
    have := growslice_fits hroom hb
    omega
  rcases hd with rfl | ⟨e, rfl⟩ <;>
    (simp [Builtin.append_, run_underlying hu, run_underlying hu2, sizeOf, typeInfo, zeroValue, hi, hz, hl, hn, h63', h48', Question.forced, hf, ho, newRow, grownCap]
     congr 2
     apply Array.ext'
     simp)
theorem append_core {ru : Value} {E : TypeId} {i : TypeInfo} {z v u : Value} {H' : Hp} {m : Nat} {ys zs : List Value} {run : Value → Result Value} (hvx : RV ρ u ru) (hexec : ∀ {r w'}, run ru = .ok r w' → (execOp a.eval o).run P w = .ok (.value r) w') (hi : P.info? E = some i) (hz : i.zero = some z) (hzl : z.cells.size = i.size) (hpos : 0 < i.size)
    (hyl : ys.length = m * i.size) (hr : All2 (RC ρ) ys zs)
    (hstay : ∀ (p : Option Addr) (n c : Nat) (w' : World), n + m ≤ c → (match p with | some q => (storeCells (q.add (n * i.size)) zs 0).run P w = .ok () w' | none => w' = w) → run (.slice p n c) = .ok (.slice p (n + m) c) w')
    (hnew : ∀ (p : Option Addr) (n c : Nat) (olds : List Value), (Builtin.firstCells i.size n (.slice p n c)).run P w.drew = .ok olds.toArray w.drew → c < n + m → n + m ≤ 9223372036854775807 → (n + m) * i.bytes ≤ 140737488355328 →
      run (.slice p n c) = .ok (.slice (some ⟨w.drew.heap.size, 0, none⟩) (n + m) (grownCap w (n + m) c E)) (w.drew.alloc (.cells (olds ++ zs ++ (Builtin.zeroCells z.cells (grownCap w (n + m) c E - (n + m))).toList).toArray E)))
    (hv : appendTo H E i.size i.bytes m ys u = some (v, H')) (h : RH ρ H w0 w) : Ok P o a w ρ v H' w0 := by
  have h63 : maxLen = 9223372036854775807 := by decide
  have hzl' := hr.length
  have hRd : RH ρ H w0 w.drew := h.world (Below.refl _ _).drew
  unfold appendTo at hv
  split at hv
  · have e := (rv_nil hvx).1
    split at hv
    · rename_i hm0
      subst hm0
      injection hv with hv
      injection hv with hv1 hv2
      subst hv1 hv2
      have hzn : zs = [] := List.eq_nil_of_length_eq_zero (by omega)
      subst hzn
      refine Ok0.ok (Ok.still h (v' := .slice none 0 0) (hexec ?_) (.one (.one .sliceNil))) h
      rw [e]
      exact hstay none 0 0 w (by simp) rfl
    · rename_i hm0
      split at hv
      · rename_i hb
        injection hv with hv
        injection hv with hv1 hv2
        subst hv1 hv2
        have hrun := hnew none 0 0 [] (by simp [Builtin.firstCells]) (by omega) (by omega) (by simpa using hb.1)
        have hge := grownCap_ge w (0 + m) 0 E
        refine Ok.newSlice (ys := zs ++ (Builtin.zeroCells z.cells (grownCap w (0 + m) 0 E - (0 + m))).toList) (c := grownCap w (0 + m) 0 E) hRd (hexec ?_) ?_ ?_ ?_ ?_ ?_
        · rw [e, hrun]
          simp
        · rw [hzl', List.take_left']
          · exact hr
          · rfl
        · simp; omega
        · have e1 : (Builtin.zeroCells z.cells (grownCap w (0 + m) 0 E - (0 + m))).toList.length = (grownCap w (0 + m) 0 E - (0 + m)) * i.size := by rw [Array.length_toList, size_zeroCells, hzl]
          rw [List.length_append, e1, ← hzl', hyl, ← Nat.add_mul]
          congr 1
          omega
        · omega
        · exact grownCap_le_maxLen w (0 + m) 0 E (by omega)
      · cases hv
  · rename_i b n1 c
    obtain ⟨q, c', e, hnc, hloc⟩ := rv_slice hvx
    split at hv
    · rename_i k hk
      split at hv
      · rename_i hb
        obtain ⟨hrw, hke, hcs, hkl, hb1, hb2⟩ := hb
        injection hv with hv
        injection hv with hv1 hv2
        subst hv1 hv2
        have het := ET.is_eq hke
        obtain ⟨l, hl, hq, ht⟩ := hloc (.inr (by omega))
        obtain ⟨hlsz, hlc⟩ := ht (by omega)
        obtain ⟨l', hl', hcells, hown⟩ := h.cells b k hk
        rw [hl] at hl'
        injection hl' with hl'
        subst hl'
        obtain ⟨g, cur, fr, hla, hg0, hcur, hsoft, hkc, hcsz, hcm⟩ := (hown hrw).ty het
        rw [hla, add_plain] at hq
        subst hq
        have hcap : l.cap = c' := by
          have : c' * i.size = l.cap * i.size := by rw [hcs] at hlc; simpa using hlc
          exact (Nat.eq_of_mul_eq_mul_right hpos this).symm
        have hlist := own_list (w0 := w0) hla hcur hkc hcells
        by_cases hroom : n1 + m ≤ c'
        · have hfit : n1 * i.size + zs.length ≤ cur.size := by
            rw [← hzl', hyl, hcsz, hlsz, hcs, hcap, ← Nat.add_mul]
            exact Nat.mul_le_mul_right _ hroom
          have hst := run_storeCells_row (P := P) hcur hsoft (n1 * i.size) zs hfit (okV_cells hr)
          have hrun := hstay (some ⟨g, 0, none⟩) n1 c' _ hroom (by simp only [add_plain]; exact hst)
          have hsz : (cur.toList.take (n1 * i.size) ++ zs ++ cur.toList.drop (n1 * i.size + zs.length)).toArray.size = cur.size := by simp; omega
          have hput := h.put hk hl hrw cur (cur.toList.take (n1 * i.size) ++ zs ++ cur.toList.drop (n1 * i.size + zs.length)).toArray fr fr g hla het hcur (by rw [hsz]; exact hsoft) hsz (k.cells ++ ys) (by rw [List.length_append]; omega) (by
            have e1 : (cur.toList.take (n1 * i.size) ++ zs ++ cur.toList.drop (n1 * i.size + zs.length)).take (k.cells ++ ys).length = cur.toList.take (n1 * i.size) ++ zs := by
              rw [List.take_left']
              simp
              omega
            show All2 (RC ρ) (k.cells ++ ys) ((cur.toList.take (n1 * i.size) ++ zs ++ cur.toList.drop (n1 * i.size + zs.length)).take (k.cells ++ ys).length)
            rw [e1]
            rw [hkl] at hlist
            exact hlist.append hr)
          obtain ⟨ρ', he, hnx, hR⟩ := hput.renew (b := b) (k := { k with cells := k.cells ++ ys }) (by simp [Hp.set]) hl
          refine ⟨ρ', _, _, .inl (hexec (by rw [e]; exact hrun)), he, .one (.one ?_), ?_⟩
          · have := RC.slice (ρ := ρ') H.nx 0 (n1 + m) i.size c' l hnx hroom (fun _ => ⟨by rw [hlsz, hcs], by rw [hcap]; simp⟩)
            rw [hla, add_plain] at this
            exact this
          · have e2 : ((H.set b { k with cells := k.cells ++ ys }).cut b).push { k with cells := k.cells ++ ys } = (H.cut b).push ⟨true, .ty E, k.cells ++ ys⟩ := by
              obtain ⟨krw, ke, kc⟩ := k
              simp only at hrw het
              subst hrw het
              simp only [Hp.set, Hp.cut, Hp.push]
              congr 1
              funext j
              show (if j = H.nx then _ else if j = b then none else if j = b then _ else H.m j) = (if j = H.nx then _ else if j = b then none else H.m j)
              by_cases e1 : j = H.nx
              · rw [if_pos e1, if_pos e1]
              · rw [if_neg e1, if_neg e1]
                by_cases e2 : j = b
                · rw [if_pos e2, if_pos e2]
                · rw [if_neg e2, if_neg e2, if_neg e2]
            rw [← e2]
            exact hR
        · have hold : (Builtin.firstCells i.size n1 (.slice (some ⟨g, 0, none⟩) n1 c')).run P w.drew = .ok (cur.toList.take (n1 * i.size)).toArray w.drew := by
            have := run_first (P := P) (w1 := w.drew) (sz := i.size) (k := n1) (m := n1) (c := c') (q := ⟨g, 0, none⟩) (zs := cur.toList.take (n1 * i.size)) (fun j u hj => by
              rw [List.getElem?_take] at hj
              split at hj
              · rw [add_plain]
                have hcur' : w.drew.heap[g]? = some (.cells cur E fr) := hcur
                simp only [World.cell?, hcur']
                simpa using hj
              · cases hj) (by rw [List.length_take]; simp; omega) (Nat.le_refl _)
            rwa [List.take_of_length_le (by rw [List.length_take]; omega)] at this
          have hrun := hnew (some ⟨g, 0, none⟩) n1 c' _ hold (by omega) (by omega) hb1
          have hge := grownCap_ge w (n1 + m) c' E
          have hol : (cur.toList.take (n1 * i.size)).length = n1 * i.size := by rw [List.length_take]; simp; omega
          refine Ok.newSlice (ys := cur.toList.take (n1 * i.size) ++ zs ++ (Builtin.zeroCells z.cells (grownCap w (n1 + m) c' E - (n1 + m))).toList) (c := grownCap w (n1 + m) c' E) (hRd.cut b) (hexec (by rw [e]; exact hrun)) ?_ ?_ ?_ hge (grownCap_le_maxLen w _ _ _ (by omega))
          · rw [List.take_left']
            · rw [hkl] at hlist
              exact hlist.append hr
            · rw [List.length_append, List.length_append, hol, hkl, hzl']
          · rw [List.length_append, List.length_append, List.length_append, hol]; omega
          · have e1 : (Builtin.zeroCells z.cells (grownCap w (n1 + m) c' E - (n1 + m))).toList.length = (grownCap w (n1 + m) c' E - (n1 + m)) * i.size := by rw [Array.length_toList, size_zeroCells, hzl]
            rw [List.length_append, List.length_append, e1, hol, ← hzl', hyl, ← Nat.add_mul, ← Nat.add_mul]
            congr 1
            omega
      · cases hv
    · cases hv
  · cases hv
theorem ok_append {T T2 E : TypeId} {x y : Operand} {x' y' : Opd} {d : TypeDesc} {i : TypeInfo} {z v : Value} {H' : Hp} (ho : ∃ ca, o.op = .call ca ∧ ca.callee = .builtin .append ∧ ca.args = #[x, y] ∧ ca.argTypes = #[T, T2]) (hu : P.underlying T = some (.slice E)) (hu2 : P.underlying T2 = some d) (hd : d = .string ∨ ∃ e, d = .slice e) (hi : P.info? E = some i) (hz : i.zero = some z) (hzl : z.cells.size = i.size) (hpos : 0 < i.size)
    (hx : cO n x = some x') (hy : cO n y = some y') (hv : aI (.append E i.size i.bytes x' y') (ev t) H = some (v, H')) (hg : RG ρ n t a) (h : RH ρ H w0 w) : Ok P o a w ρ v H' w0 := by
  obtain ⟨ca, hop, hc1, hc2, hc3⟩ := ho
  simp only [aI] at hv
  split at hv
  · rename_i m ys hs
    obtain ⟨hyl, zs, hr, hlen, hfirst⟩ := src_rel (P := P) h hs (ev_rel hg hy)
    have hzl' := hr.length
    have hfull : ∀ w1 : World, (∀ q u, w.cell? q = some u → w1.cell? q = some u) → (Builtin.firstCells i.size m (a.eval y)).run P w1 = .ok zs.toArray w1 := fun w1 hw => by
      have := hfirst m (Nat.le_refl _) w1 hw
      rwa [List.take_of_length_le (by omega)] at this
    refine append_core (run := fun r => (Builtin.append_ #[T, T2] o.type #[r, a.eval y]).run P w) (ev_rel hg hx) (fun {r w'} hr => ?_) hi hz hzl hpos hyl hr (fun p n c w' h1 h2 => run_append_stay hu hu2 hd hi hlen (hfull w fun _ _ h => h) h1 h2) (fun p n c olds h1 h2 h3 h4 => run_append_new hu hu2 hd hi hz hlen (hfull w.drew fun q u hq => hq) h1 h2 h3 h4) hv h
    simp only [execOp, hop, resolve, hc1, hc2, hc3, Sem.run_bind, Sem.run_pure, Result.andThen_ok, invoke, builtin, List.map_toArray, List.map_cons, List.map_nil, hr]
  · cases hv
theorem run_appendZ_stay {T T2 ty E : TypeId} {k0 k : IntKind} {i : TypeInfo} {z : Value} {p : Option Addr} {n c : Nat} {j : Int} {zs : List Value} {w' : World} (hu : P.underlying T = some (.slice E)) (hu2 : P.underlying T2 = some (.int k0)) (hi : P.info? E = some i) (hz : i.zero = some z) (hpos : 0 < i.size) (h0 : 0 ≤ j) (h63 : j ≤ 9223372036854775807) (hb : j.toNat * i.bytes ≤ 140737488355328)
    (hzs : Builtin.zeroCells z.cells j.toNat = zs.toArray) (hroom : n + j.toNat ≤ c) (hst : match p with | some q => (storeCells (q.add (n * i.size)) zs 0).run P w = .ok () w' | none => w' = w) :
    (Builtin.append_ #[T, T2] ty #[.slice p n c, .int k j]).run P w = .ok (.slice p (n + j.toNat) c) w' := by
  have wj : IntKind.i64.wrap j = j := by rw [IntKind.wrap_i64]; omega
  have n1 : ¬ j < 0 := by omega
  have hbi : j * (i.bytes : Int) ≤ 140737488355328 := by
    have : ((j.toNat * i.bytes : Nat) : Int) ≤ 140737488355328 := by omega
    rwa [Int.natCast_mul, Int.toNat_of_nonneg h0] at this
  have n2 : ¬ (281474976710656 < j * (i.bytes : Int)) := by omega
  have hz0 : j.toNat * i.size = 0 → zs = [] := fun h => by
    have hj : j.toNat = 0 := by
      rcases Nat.mul_eq_zero.1 h with h | h
      · exact h
      · omega
    rw [hj] at hzs
    have := congrArg Array.toList hzs
    simpa [Builtin.zeroCells] using this.symm
  by_cases hjz : j.toNat * i.size = 0
  · have := hz0 hjz
    subst this
    cases p with
    | none =>
      simp only at hst
      subst hst
      simp [Builtin.append_, run_underlying hu, run_underlying hu2, sizeOf, typeInfo, hi, asInt, asIntOf, wj, n1, n2, hroom, hjz]
    | some q =>
      simp only at hst
      simp [Builtin.append_, run_underlying hu, run_underlying hu2, sizeOf, typeInfo, hi, asInt, asIntOf, wj, n1, n2, hroom, hjz, hst]
  · cases p with
    | none =>
      simp only at hst
      subst hst
      simp [Builtin.append_, run_underlying hu, run_underlying hu2, sizeOf, typeInfo, hi, asInt, asIntOf, wj, n1, n2, hroom, hjz, zeroValue, hz]
    | some q =>
      simp only at hst
      simp [Builtin.append_, run_underlying hu, run_underlying hu2, sizeOf, typeInfo, hi, asInt, asIntOf, wj, n1, n2, hroom, hjz, zeroValue, hz, hzs, hst]
theorem run_appendZ_new {T T2 ty E : TypeId} {k0 k : IntKind} {i : TypeInfo} {z : Value} {p : Option Addr} {n c : Nat} {j : Int} {olds zs : List Value} (hu : P.underlying T = some (.slice E)) (hu2 : P.underlying T2 = some (.int k0)) (hi : P.info? E = some i) (hz : i.zero = some z) (hpos : 0 < i.size) (h0 : 0 ≤ j) (h63 : j ≤ 9223372036854775807)
    (hzs : Builtin.zeroCells z.cells j.toNat = zs.toArray) (ho : (Builtin.firstCells i.size n (.slice p n c)).run P w.drew = .ok olds.toArray w.drew) (hroom : c < n + j.toNat) (h63' : n + j.toNat ≤ 9223372036854775807) (hb : (n + j.toNat) * i.bytes ≤ 140737488355328) :
    (Builtin.append_ #[T, T2] ty #[.slice p n c, .int k j]).run P w = .ok (.slice (some ⟨w.drew.heap.size, 0, none⟩) (n + j.toNat) (grownCap w (n + j.toNat) c E)) (w.drew.alloc (.cells (olds ++ zs ++ (Builtin.zeroCells z.cells (grownCap w (n + j.toNat) c E - (n + j.toNat))).toList).toArray E)) := by
  have wj : IntKind.i64.wrap j = j := by rw [IntKind.wrap_i64]; omega
  have n1 : ¬ j < 0 := by omega
  have hbj : j.toNat * i.bytes ≤ 140737488355328 := Nat.le_trans (Nat.mul_le_mul_right _ (by omega)) hb
  have hbi : j * (i.bytes : Int) ≤ 140737488355328 := by
    have : ((j.toNat * i.bytes : Nat) : Int) ≤ 140737488355328 := by omega
    rwa [Int.natCast_mul, Int.toNat_of_nonneg h0] at this
  have n2 : ¬ (281474976710656 < j * (i.bytes : Int)) := by omega
  have hn : ¬ (n + j.toNat ≤ c) := by omega
  have h63n : ¬ (9223372036854775807 < ((n : Int) + (j.toNat : Int))) := by omega
  have h63m : ¬ (9223372036854775807 < ((n : Int) + max j 0)) := by omega
  have h48' : ¬ (281474976710656 < Builtin.nextslicecap (n + j.toNat) c * i.bytes) := by
    have := growslice_fits hroom hb
    omega
  by_cases hjz : j.toNat * i.size = 0
  · have hj : j.toNat = 0 := by
      rcases Nat.mul_eq_zero.1 hjz with h | h
      · exact h
      · omega
    rw [hj] at hzs
    have := congrArg Array.toList hzs
    have : zs = [] := by simpa [Builtin.zeroCells] using this.symm
    subst this
    simp [Builtin.append_, run_underlying hu, run_underlying hu2, sizeOf, typeInfo, zeroValue, hi, hz, asInt, asIntOf, wj, n1, n2, hn, h63n, h63m, h48', Question.forced, ho, newRow, grownCap, hjz]
    congr 2
    apply Array.ext'
    simp
  · simp [Builtin.append_, run_underlying hu, run_underlying hu2, sizeOf, typeInfo, zeroValue, hi, hz, asInt, asIntOf, wj, n1, n2, hn, h63n, h63m, h48', Question.forced, ho, newRow, grownCap, hjz, hzs]
    congr 2
    apply Array.ext'
    simp
theorem mkCells_zero {z : Value} {zs : List Value} (hzs : z.cells.toList = zs) (hpos : 0 < zs.length) (m : Nat) : Builtin.zeroCells z.cells m = (mkCells zs m).toArray := by
  have hzc : z.cells.size = zs.length := by rw [← hzs]; simp
  apply Array.ext'
  unfold Builtin.zeroCells mkCells
  simp only [Array.toList_map, Array.toList_range, hzc]
  refine List.map_congr_left fun j _ => ?_
  have : j % zs.length < z.cells.size := by rw [hzc]; exact Nat.mod_lt _ hpos
  generalize zs.length = L at this
  rw [getElem!_pos z.cells _ this, ← hzs, List.getD_eq_getElem?_getD, Array.getElem?_toList, Array.getElem?_eq_getElem this]
  rfl
theorem ok_appendZ {T T2 E : TypeId} {x y : Operand} {x' y' : Opd} {k0 : IntKind} {i : TypeInfo} {z v : Value} {zs : List Value} {H' : Hp} (ho : ∃ ca, o.op = .call ca ∧ ca.callee = .builtin .append ∧ ca.args = #[x, y] ∧ ca.argTypes = #[T, T2]) (hu : P.underlying T = some (.slice E)) (hu2 : P.underlying T2 = some (.int k0)) (hi : P.info? E = some i) (hz : i.zero = some z) (hzs : z.cells.toList = zs) (hzl : zs.length = i.size) (hk : zs.all okC = true) (hpos : 0 < i.size)
    (hx : cO n x = some x') (hy : cO n y = some y') (hv : aI (.appendZ E i.size i.bytes zs x' y') (ev t) H = some (v, H')) (hg : RG ρ n t a) (h : RH ρ H w0 w) : Ok P o a w ρ v H' w0 := by
  obtain ⟨ca, hop, hc1, hc2, hc3⟩ := ho
  simp only [aI] at hv
  split at hv
  · rename_i k j hj
    have ey := rv_int (hj ▸ ev_rel hg hy)
    split at hv
    · rename_i hc
      obtain ⟨h0, h63⟩ := hc
      have hzc : z.cells.size = i.size := by rw [← hzl, ← hzs]; simp
      have hmk := mkCells_zero hzs (by omega) j.toNat
      refine append_core (run := fun r => (Builtin.append_ #[T, T2] o.type #[r, a.eval y]).run P w) (zs := mkCells zs j.toNat) (ev_rel hg hx) (fun {r w'} hr => ?_) hi hz hzc hpos (by simp [mkCells, hzl]) ?_ (fun p n c w' h1 h2 => ?_) (fun p n c olds h1 h2 h3 h4 => ?_) hv h
      · simp only [execOp, hop, resolve, hc1, hc2, hc3, Sem.run_bind, Sem.run_pure, Result.andThen_ok, invoke, builtin, List.map_toArray, List.map_cons, List.map_nil, hr]
      · refine okC_all (List.all_eq_true.2 fun v hv => ?_) ρ
        unfold mkCells at hv
        obtain ⟨j, hj, rfl⟩ := List.mem_map.1 hv
        have : j % zs.length < zs.length := Nat.mod_lt _ (by omega)
        rw [List.getD_eq_getElem?_getD, List.getElem?_eq_getElem this]
        exact List.all_eq_true.1 hk _ (List.getElem_mem _)
      · simp only [ey]
        have hb : j.toNat * i.bytes ≤ 140737488355328 := by
          unfold appendTo at hv
          split at hv
          · split at hv
            · rename_i hj0; rw [hj0]; simp
            · split at hv
              · rename_i hb; exact hb.1
              · cases hv
          · split at hv
            · split at hv
              · rename_i hb
                exact Nat.le_trans (Nat.mul_le_mul_right _ (by omega)) hb.2.2.2.2.1
              · cases hv
            · cases hv
          · cases hv
        exact run_appendZ_stay hu hu2 hi hz hpos h0 h63 hb hmk h1 h2
      · simp only [ey]
        exact run_appendZ_new hu hu2 hi hz hpos h0 h63 hmk h1 h2 h3 h4
    · cases hv
  · cases hv
end
end Go.Proofs.YtjmjkdelkaflmaaGreatDoor.Abs
