/- An abstract machine for the program's text, part 5: operations on memory. -/
import Derived.Test.YtloeadlmcdddnaaA4
set_option linter.unusedVariables false
set_option linter.unusedSimpArgs false
namespace Go.Proofs.Ytloeadlmcdddnaa.Abs
open Go Go.RowKit

/-! stores into a row -/
theorem setCells_row {g : Nat} {e : TypeId} {fr : Nat × Nat} : ∀ (vs : List Value) (o : Nat) (cur : Array Value) (w : World), w.heap[g]? = some (.cells cur e fr) → o + vs.length ≤ cur.size →
    w.setCells g o vs = { w with heap := w.heap.setIfInBounds g (.cells (cur.toList.take o ++ vs ++ cur.toList.drop (o + vs.length)).toArray e fr) }
  | [], o, cur, w, hg, hl => by
    simp only [World.setCells, List.append_nil, List.length_nil, Nat.add_zero, List.take_append_drop, Array.toArray_toList]
    have hlt : g < w.heap.size := (Array.getElem?_eq_some_iff.1 hg).1
    have hv : w.heap[g] = .cells cur e fr := (Array.getElem?_eq_some_iff.1 hg).2
    cases w with
    | mk heap tape drawn os output =>
      congr 1
      apply Array.ext_getElem?
      intro k
      simp only [Array.getElem?_setIfInBounds]
      split
      · rename_i hk
        subst hk
        simp only at hg hlt
        rw [hg]
      · rfl
  | v :: rest, o, cur, w, hg, hl => by
    have hlt : g < w.heap.size := (Array.getElem?_eq_some_iff.1 hg).1
    have hv : w.heap[g] = .cells cur e fr := (Array.getElem?_eq_some_iff.1 hg).2
    have h1 : w.setCell ⟨g, o, none⟩ v = { w with heap := w.heap.setIfInBounds g (.cells (cur.setIfInBounds o v) e fr) } := by
      unfold World.setCell
      congr 1
      apply Array.ext_getElem?
      intro k
      simp only [Array.getElem?_modify, Array.getElem?_setIfInBounds]
      split
      · rename_i hk
        subst hk
        rw [hg]
        simp
      · rfl
    rw [World.setCells, h1, setCells_row (e := e) (fr := fr) rest (o + 1) (cur.setIfInBounds o v) _ (by simp [hlt]) (by simp at hl ⊢; omega)]
    have e' := list_seg_step cur.toList o v rest (by simp at hl ⊢; omega)
    simp only [List.length_cons, ← e', Array.toList_setIfInBounds]
    simp
theorem run_storeCells_row {P : Program} {w : World} {g : Nat} {e : TypeId} {fr : Nat × Nat} {cur : Array Value} (hg : w.heap[g]? = some (.cells cur e fr)) (hs : Soft fr cur.size) (o : Nat) (vs : List Value) (hl : o + vs.length ≤ cur.size) (h1 : ∀ v ∈ vs, v.oneCell' = true) :
    (storeCells ⟨g, o, none⟩ vs 0).run P w = .ok () { w with heap := w.heap.setIfInBounds g (.cells (cur.toList.take o ++ vs ++ cur.toList.drop (o + vs.length)).toArray e fr) } := by
  rw [run_storeCells_cells g o vs 0 w ?_ ?_ h1, Nat.add_zero, setCells_row vs o cur w hg hl]
  · intro j hj
    simp only [World.cell?, hg]
    rw [if_neg (by simp)]
    simp
    omega
  · intro j hj
    simp only [World.frozen?, hg]
    rcases hs with hs | hs <;> simp only [Bool.and_eq_false_iff, decide_eq_false_iff_not] <;> omega
theorem okV_cells {ρ : Rho} {xs ys : List Value} (h : All2 (RC ρ) xs ys) : ∀ v ∈ ys, v.oneCell' = true := by
  induction h with
  | nil => intro v hv; cases hv
  | cons r _ ih =>
    intro v hv
    rcases List.mem_cons.1 hv with rfl | hv
    · exact r.oneCell
    · exact ih v hv
theorem take_mid {R : Value → Value → Prop} {xs ys k : List Value} {cur : List Value} {o : Nat} (h : All2 R k (cur.take k.length)) (hl : k.length ≤ cur.length) (h2 : All2 R xs ys) (ho : o + xs.length ≤ k.length) :
    All2 R (k.take o ++ xs ++ k.drop (o + xs.length)) ((cur.take o ++ ys ++ cur.drop (o + ys.length)).take (k.take o ++ xs ++ k.drop (o + xs.length)).length) := by
  have hle := h2.length
  have hlen : (k.take o ++ xs ++ k.drop (o + xs.length)).length = k.length := by simp; omega
  rw [hlen]
  have e : (cur.take o ++ ys ++ cur.drop (o + ys.length)).take k.length = (cur.take k.length).take o ++ ys ++ (cur.take k.length).drop (o + ys.length) := by
    apply List.ext_getElem?
    intro i
    simp only [List.getElem?_take, List.getElem?_append, List.length_append, List.length_take, List.getElem?_drop]
    have h1 : min o cur.length = o := by omega
    have h2 : min o (min k.length cur.length) = o := by omega
    rw [h1, h2]
    by_cases hi : i < k.length
    · rw [if_pos hi]
      by_cases a : i < o + ys.length
      · rw [if_pos a, if_pos a]
        by_cases b : i < o
        · simp [b, hi]
        · rw [if_neg b, if_neg b]
      · rw [if_neg a, if_neg a, if_pos (by omega)]
    · rw [if_neg hi, if_neg (by omega), if_neg (by omega)]
  rw [e]
  refine ((h.take o).append h2).append ?_
  rw [hle]
  exact h.drop _
/-- What lies in an own block, seen as a list. -/
theorem own_list {ρ : Rho} {w w0 : World} {k : Blk} {l : Loc} {g : Nat} {cur : Array Value} {fr : Nat × Nat} (hla : l.a = ⟨g, 0, none⟩) (hg : w.heap[g]? = some (.cells cur k.e fr)) (hl : k.cells.length ≤ cur.size)
    (hc : ∀ i u, k.cells[i]? = some u → ∃ u', w.cell? (l.a.add i) = some u' ∧ RC ρ u u') : All2 (RC ρ) k.cells (cur.toList.take k.cells.length) := by
  refine All2.of_get (by simp; omega) fun i x y hx hy => ?_
  obtain ⟨u', h1, h2⟩ := hc i x hx
  rw [hla, add_plain] at h1
  simp only [World.cell?, hg] at h1
  rw [List.getElem?_take] at hy
  split at hy
  · simp only [Array.getElem?_toList] at hy
    simp at h1
    rw [h1] at hy
    injection hy with hy
    subst hy
    exact h2
  · cases hy
/-- The cells of a stretch of a block. -/
theorem get_rel {ρ : Rho} {H : Hp} {w w0 : World} (h : RH ρ H w0 w) {b o n : Nat} {xs : List Value} (hx : H.get b o n = some xs) :
    ∃ l ys, ρ b = some l ∧ All2 (RC ρ) xs ys ∧ xs.length = n ∧ ∀ j v, ys[j]? = some v → w.cell? ((l.a.add o).add j) = some v := by
  unfold Hp.get at hx
  split at hx
  · rename_i k hk
    split at hx
    · injection hx with hx
      rename_i hle
      obtain ⟨l, hl, hc, _⟩ := h.cells b k hk
      have hlen : xs.length = n := by rw [← hx]; simp; omega
      refine ⟨l, xs.mapIdx (fun j _ => (w.cell? (l.a.add (o + j))).getD undef), hl, All2.of_get (by simp) fun i x y h1 h2 => ?_, hlen, fun j v hj => ?_⟩
      · simp only [List.getElem?_mapIdx] at h2
        rw [h1] at h2
        simp at h2
        rw [← hx, List.getElem?_take] at h1
        split at h1
        · rw [List.getElem?_drop] at h1
          obtain ⟨u', a, r⟩ := hc _ x h1
          rw [a] at h2
          simp at h2
          rw [← h2]
          exact r
        · cases h1
      · simp only [List.getElem?_mapIdx] at hj
        cases hq : xs[j]? with
        | none => rw [hq] at hj; cases hj
        | some x =>
          rw [hq] at hj
          simp at hj
          rw [← hx, List.getElem?_take] at hq
          split at hq
          · rw [List.getElem?_drop] at hq
            obtain ⟨u', a, r⟩ := hc _ x hq
            rw [a] at hj
            simp at hj
            rw [add_add, a, hj]
          · cases hq
    · cases hx
  · cases hx
/-- A stretch of an own block is written. -/
theorem put_rel {ρ : Rho} {H H' : Hp} {w w0 : World} (h : RH ρ H w0 w) {b o : Nat} {xs ys : List Value} (hp : H.put b o xs = some H') (hx : All2 (RC ρ) xs ys) (h1 : ∀ v ∈ ys, v.oneCell' = true) :
    ∃ l g w', ρ b = some l ∧ l.a = ⟨g, 0, none⟩ ∧ (∀ P, (storeCells ⟨g, o, none⟩ ys 0).run P w = .ok () w') ∧ RH ρ H' w0 w' := by
  unfold Hp.put at hp
  split at hp
  · rename_i k hk
    split at hp
    · rename_i hrw
      split at hp
      · rename_i hle
        injection hp with hp
        obtain ⟨l, hl, hc, ho⟩ := h.cells b k hk
        obtain ⟨g, cur, fr, hla, hg0, hg, hs, hkl, hcs, hm⟩ := ho hrw
        have hyl := hx.length
        refine ⟨l, g, _, hl, hla, fun P => run_storeCells_row hg hs o ys (by omega) h1, ?_⟩
        subst hp
        have hsz : (cur.toList.take o ++ ys ++ cur.toList.drop (o + ys.length)).toArray.size = cur.size := by simp; omega
        refine h.put hk hl hrw cur _ fr fr g hla hg (by rw [hsz]; exact hs) hsz _ (by simp; omega) ?_
        have := take_mid (own_list (w0 := w0) hla hg hkl hc) (by simpa using hkl) hx hle
        simpa using this
      · cases hp
    · cases hp
  · cases hp

section
variable {P : Program} {o : Oper} {a : Act} {n : Nat} {t : Nat → Value} {w w0 : World} {ρ : Rho} {H : Hp}
theorem run_load_of {w : World} {a : Addr} {v : Value} (h : w.cell? a = some v) : (load a).run P w = .ok v w := by rw [run_load, h]
def isRowT (P : Program) (T : TypeId) : Option Bool :=
  match P.underlying T with
  | some (.struct _) | some (.array _ _) => some true
  | some _ => some false
  | none => none
theorem run_isAgg {T : TypeId} {b : Bool} (h : isRowT P T = some b) (w : World) : (isAgg T).run P w = .ok b w := by
  unfold isRowT at h
  split at h
  · rename_i hu; injection h with h; subst h; simp [isAgg, run_underlying hu]
  · rename_i hu; injection h with h; subst h; simp [isAgg, run_underlying hu]
  · rename_i d h1 h2 hu
    injection h with h
    subst h
    simp only [isAgg, Sem.run_bind, run_underlying hu, Result.andThen_ok]
    cases d <;> simp_all
  · cases h
theorem run_sizeOf {T : TypeId} {n : Nat} (h : (P.info? T).map (·.size) = some n) (w : World) : (sizeOf T).run P w = .ok n w := by
  cases hq : P.info? T with
  | none => simp [hq] at h
  | some i => simp [hq] at h; simp [sizeOf, typeInfo, hq, h]
theorem ok_load {T : TypeId} {x : Operand} {x' : Opd} {b q : Nat} {v : Value} (ho : o.op = .load T x) (ht : isRowT P T = some false) (hx : cO n x = some x') (hp : ev t x' = .pointer (some ⟨b, q, none⟩)) (hv : H.get b q 1 = some [v]) (hg : RG ρ n t a) (h : RH ρ H w0 w) : Ok0 P o a w ρ v := by
  obtain ⟨l, hl, e⟩ := rv_ptr (hp ▸ ev_rel hg hx)
  obtain ⟨l', ys, hl', h2, _, hc⟩ := get_rel h hv
  rw [hl] at hl'
  injection hl' with hl'
  subst hl'
  cases h2 with
  | cons r rest =>
    rename_i y ys
    have := hc 0 y rfl
    rw [add_add, Nat.add_zero] at this
    refine Ok.still h (v' := y) ?_ (.one (.one r))
    simp [execOp, ho, e, Instr.loadAt, Instr.sureAddr, loadVar, run_isAgg ht, this]
theorem ok_loadA {T : TypeId} {x : Operand} {x' : Opd} {b q m : Nat} {xs : List Value} (ho : o.op = .load T x) (ht : isRowT P T = some true) (hs : (P.info? T).map (·.size) = some m) (hx : cO n x = some x') (hp : ev t x' = .pointer (some ⟨b, q, none⟩)) (hv : H.get b q m = some xs) (hg : RG ρ n t a) (h : RH ρ H w0 w) : Ok0 P o a w ρ (.agg xs.toArray) := by
  obtain ⟨l, hl, e⟩ := rv_ptr (hp ▸ ev_rel hg hx)
  obtain ⟨l', ys, hl', h2, hn, hc⟩ := get_rel h hv
  rw [hl] at hl'
  injection hl' with hl'
  subst hl'
  refine Ok.still h (v' := .agg ys.toArray) ?_ (.one (.agg h2))
  have hlo := run_loadCells_list (P := P) w (l.a.add q) ys hc
  rw [← h2.length, hn] at hlo
  simp [execOp, ho, e, Instr.loadAt, Instr.sureAddr, loadVar, run_isAgg ht, run_sizeOf hs, hlo]
theorem rt_of {x : Operand} {x' : Opd} (hx : cO n x = some x') (hn : notTup (ev t x') = true) (hg : RG ρ n t a) : RT ρ (ev t x') (a.eval x) := by
  have := ev_rel hg hx
  generalize ev t x' = u at this hn ⊢
  generalize a.eval x = u' at this ⊢
  cases this with
  | one h => exact h
  | tuple h => cases hn
theorem ok_store {T : TypeId} {x y : Operand} {x' y' : Opd} {b q m : Nat} {H' : Hp} (ho : o.op = .store T x y) (hs : (P.info? T).map (·.size) = some m) (hx : cO n x = some x') (hy : cO n y = some y') (hp : ev t x' = .pointer (some ⟨b, q, none⟩))
    (hm : (cellsOf (ev t y')).length = m) (hst : notTup (ev t y') = true) (hv : H.put b q (cellsOf (ev t y')) = some H') (hg : RG ρ n t a) (h : RH ρ H w0 w) : Ok P o a w ρ undef H' w0 := by
  obtain ⟨l, hl, e⟩ := rv_ptr (hp ▸ ev_rel hg hx)
  have h2 := rt_cells (rt_of hy hst hg)
  have h1 := okV_cells h2
  obtain ⟨l', g, w', hl', hla, hw, hR⟩ := put_rel h hv h2 h1
  rw [hl] at hl'
  injection hl' with hl'
  subst hl'
  rw [hla, add_plain] at e
  refine ⟨ρ, undef, w', .inr ⟨?_, rfl⟩, Ext.refl _, rv_undef _, hR⟩
  have hsz : (a.eval y).cells.size = m := by rw [← hm, h2.length, Array.length_toList]
  simp [execOp, ho, e, Instr.storeAt, Instr.sureAddr, storeVar, run_sizeOf hs, hsz, hw P]
end
end Go.Proofs.Ytloeadlmcdddnaa.Abs
