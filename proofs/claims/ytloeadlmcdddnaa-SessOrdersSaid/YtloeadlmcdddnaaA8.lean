/- An abstract machine for the program's text, part 8: make, conversions, append, copy, len, min and max, '==' of structs. -/
import Derived.Test.YtloeadlmcdddnaaA7
set_option linter.unusedVariables false
set_option linter.unusedSimpArgs false
namespace Go.Proofs.Ytloeadlmcdddnaa.Abs
open Go Go.RowKit
section
variable {P : Program} {o : Oper} {a : Act} {n : Nat} {t : Nat → Value} {w w0 : World} {ρ : Rho} {H : Hp}
theorem ok_make {T E : TypeId} {x y : Operand} {x' y' : Opd} {i : TypeInfo} {z : Value} {zs : List Value} {k1 k2 : IntKind} {m r : Int} (ho : o.op = .makeSlice T x y) (hu : P.underlying T = some (.slice E)) (hi : P.info? E = some i) (hz : i.zero = some z) (hzs : z.cells.toList = zs) (hzl : zs.length = i.size) (hpos : 0 < i.size) (hk : zs.all okC = true)
    (hx : cO n x = some x') (hy : cO n y = some y') (hm : ev t x' = .int k1 m) (hr : ev t y' = .int k2 r) (h0 : 0 ≤ m) (hmr : m ≤ r) (hb : (i.bytes : Int) * r ≤ 281474976710656) (h63 : r ≤ 9223372036854775807) (hg : RG ρ n t a) (h : RH ρ H w0 w) :
    Ok P o a w ρ (.slice (some ⟨H.nx, 0, none⟩) m.toNat zs.length) (H.push ⟨true, E, mkCells zs m.toNat⟩) w0 := by
  have e1 := rv_int (hm ▸ ev_rel hg hx)
  have e2 := rv_int (hr ▸ ev_rel hg hy)
  have hrun := run_make (P := P) w T E i z hu hi hz k1 k2 m r h0 hmr hb h63
  have hzc : z.cells.size = i.size := by rw [← hzl, ← hzs]; simp
  have hcells : (madeCells z.cells (r.toNat * i.size)).toList = mkCells zs r.toNat := by
    unfold madeCells mkCells
    simp only [Array.toList_map, Array.toList_range, hzl]
    refine List.map_congr_left fun j _ => ?_
    have : j % i.size < z.cells.size := by rw [hzc]; exact Nat.mod_lt _ hpos
    rw [hzc, getElem!_pos z.cells _ this, ← hzs, List.getD_eq_getElem?_getD, Array.getElem?_toList, Array.getElem?_eq_getElem this]
    rfl
  refine Ok.newSlice (ys := mkCells zs r.toNat) (c := r.toNat) h ?_ ?_ ?_ ?_ (by omega) (by rw [show maxLen = 9223372036854775807 by decide]; omega)
  · simp only [execOp, ho, e1, e2, Sem.run_bind, hrun, Result.andThen_ok, Sem.run_pure]
    rw [← hcells, Array.toArray_toList]
  · have : (mkCells zs r.toNat).take (mkCells zs m.toNat).length = mkCells zs m.toNat := by
      unfold mkCells
      rw [← List.map_take]
      congr 1
      rw [List.length_map, List.length_range, List.take_range, Nat.min_eq_left]
      exact Nat.mul_le_mul_right _ (by omega)
    rw [this]
    refine okC_all (List.all_eq_true.2 fun v hv => ?_) ρ
    unfold mkCells at hv
    obtain ⟨j, hj, rfl⟩ := List.mem_map.1 hv
    have : j % zs.length < zs.length := Nat.mod_lt _ (by omega)
    rw [List.getD_eq_getElem?_getD, List.getElem?_eq_getElem this]
    exact List.all_eq_true.1 hk _ (List.getElem_mem _)
  · unfold mkCells
    simp only [List.length_map, List.length_range]
    exact Nat.mul_le_mul_right _ (by omega)
  · simp [mkCells]
/-! what a slice or a string gives -/
theorem sl_rel (h : RH ρ H w0 w) {sz : Nat} {p : Option Addr} {m c : Nat} {ys : List Value} {v : Value} (hs : H.sl sz (.slice p m c) = some ys) (hv : RV ρ (.slice p m c) v) :
    ys.length = m * sz ∧ ∃ zs, All2 (RC ρ) ys zs ∧ ((p = none ∧ v = .slice none 0 0 ∧ m = 0) ∨ ∃ q c', v = .slice (some q) m c' ∧ ∀ j u, zs[j]? = some u → w.cell? (q.add j) = some u) := by
  unfold Hp.sl at hs
  split at hs
  · rename_i he
    injection he with e1 e2 e3
    subst e1 e2 e3
    injection hs with hs
    subst hs
    exact ⟨by simp, [], .nil, .inl ⟨rfl, (rv_nil hv).1, rfl⟩⟩
  · rename_i b o n c he
    injection he with e1 e2 e3
    subst e1 e2 e3
    obtain ⟨q, c', e, _, hl⟩ := rv_slice hv
    split at hs
    · rename_i h0
      injection hs with hs
      subst hs h0
      exact ⟨by simp, [], .nil, .inr ⟨q, c', e, fun j u hj => by simp at hj⟩⟩
    · obtain ⟨l, zs, hl1, hr, hlen, hc⟩ := get_rel h hs
      obtain ⟨l', hl2, hq, _⟩ := hl (.inl (by omega))
      rw [hl1] at hl2
      injection hl2 with hl2
      subst hl2 hq
      exact ⟨hlen, zs, hr, .inr ⟨_, c', e, hc⟩⟩
  · cases hs
theorem strCells_rel (ρ : Rho) (s : ByteArray) : All2 (RC ρ) (strCells s) (strCells s) := by
  unfold strCells
  generalize s.data.toList = l
  induction l with
  | nil => exact .nil
  | cons b l ih => exact .cons (.int _ _) ih
theorem strCells_length (s : ByteArray) : (strCells s).length = s.size := by simp [strCells]
theorem run_first {w1 : World} {sz k m c : Nat} {q : Addr} {zs : List Value} (hz : ∀ j u, zs[j]? = some u → w1.cell? (q.add j) = some u) (hl : zs.length = m * sz) (hk : k ≤ m) : (Builtin.firstCells sz k (.slice (some q) m c)).run P w1 = .ok (zs.take (k * sz)).toArray w1 := by
  have hkm : k * sz ≤ m * sz := Nat.mul_le_mul_right _ hk
  have := run_loadCells_list (P := P) w1 q (zs.take (k * sz)) (fun j u hj => hz j u (by
    rw [List.getElem?_take] at hj
    split at hj
    · exact hj
    · cases hj))
  rw [List.length_take, hl, Nat.min_eq_left hkm] at this
  simpa [Builtin.firstCells] using this
theorem src_rel (h : RH ρ H w0 w) {sz m : Nat} {u v : Value} {ys : List Value} (hs : H.src sz u = some (m, ys)) (hv : RV ρ u v) :
    ys.length = m * sz ∧ ∃ zs, All2 (RC ρ) ys zs ∧ (Builtin.lenOf v).run P w = .ok m w ∧ ∀ k, k ≤ m → ∀ w1 : World, (∀ q u, w.cell? q = some u → w1.cell? q = some u) → (Builtin.firstCells sz k v).run P w1 = .ok (zs.take (k * sz)).toArray w1 := by
  unfold Hp.src at hs
  split at hs
  · rename_i s
    have := rv_string hv
    subst this
    split at hs
    · rename_i h1
      injection hs with hs
      injection hs with hs1 hs2
      subst hs1 hs2 h1
      refine ⟨by rw [strCells_length]; simp, strCells s, strCells_rel ρ s, by simp [Builtin.lenOf], fun k hk w1 _ => ?_⟩
      simp only [Builtin.firstCells, Sem.run_pure]
      congr 1
      apply Array.ext'
      simp [strCells, ByteArray.data_extract, List.map_take]
    · cases hs
  · rename_i p m c
    simp only [Option.map_eq_some_iff] at hs
    obtain ⟨ys', hs, he⟩ := hs
    injection he with e1 e2
    subst e1 e2
    obtain ⟨hl, zs, hr, hor⟩ := sl_rel h hs hv
    refine ⟨hl, zs, hr, ?_, ?_⟩
    · rcases hor with ⟨_, rfl, rfl⟩ | ⟨q, c', rfl, _⟩ <;> simp [Builtin.lenOf]
    · intro k hk w1 hw
      rcases hor with ⟨_, rfl, rfl⟩ | ⟨q, c', rfl, hc⟩
      · have : k = 0 := by omega
        subst this
        simp [Builtin.firstCells]
      · exact run_first (fun j u hj => hw _ _ (hc j u hj)) (by rw [← hr.length]; exact hl) hk
  · cases hs
/-! append -/
theorem run_append_stay {T T2 ty E : TypeId} {d : TypeDesc} {i : TypeInfo} {p : Option Addr} {n c m : Nat} {v : Value} {zs : List Value} {w' : World} (hu : P.underlying T = some (.slice E)) (hu2 : P.underlying T2 = some d) (hd : d = .string ∨ ∃ e, d = .slice e) (hi : P.info? E = some i)
    (hl : (Builtin.lenOf v).run P w = .ok m w) (hf : (Builtin.firstCells i.size m v).run P w = .ok zs.toArray w) (hroom : n + m ≤ c) (hst : match p with | some q => (storeCells (q.add (n * i.size)) zs 0).run P w = .ok () w' | none => w' = w) :
    (Builtin.append_ #[T, T2] ty #[.slice p n c, v]).run P w = .ok (.slice p (n + m) c) w' := by
  cases p with
  | none =>
    simp only at hst
    subst hst
    rcases hd with rfl | ⟨e, rfl⟩ <;> simp [Builtin.append_, run_underlying hu, run_underlying hu2, sizeOf, typeInfo, hi, hl, hroom, hf]
  | some q =>
    simp only at hst
    rcases hd with rfl | ⟨e, rfl⟩ <;> simp [Builtin.append_, run_underlying hu, run_underlying hu2, sizeOf, typeInfo, hi, hl, hroom, hf, hst]
theorem run_append_new {T T2 ty E : TypeId} {d : TypeDesc} {i : TypeInfo} {z : Value} {p : Option Addr} {n c m : Nat} {v : Value} {olds zs : List Value} (hu : P.underlying T = some (.slice E)) (hu2 : P.underlying T2 = some d) (hd : d = .string ∨ ∃ e, d = .slice e) (hi : P.info? E = some i) (hz : i.zero = some z)
    (hl : (Builtin.lenOf v).run P w = .ok m w) (hf : (Builtin.firstCells i.size m v).run P w.drew = .ok zs.toArray w.drew) (ho : (Builtin.firstCells i.size n (.slice p n c)).run P w.drew = .ok olds.toArray w.drew) (hroom : c < n + m) (h63 : n + m ≤ 9223372036854775807) (hb : (n + m) * i.bytes ≤ 140737488355328) :
    (Builtin.append_ #[T, T2] ty #[.slice p n c, v]).run P w = .ok (.slice (some ⟨w.drew.heap.size, 0, none⟩) (n + m) (grownCap w (n + m) c E)) (w.drew.alloc (.cells (olds ++ zs ++ (Builtin.zeroCells z.cells (grownCap w (n + m) c E - (n + m))).toList).toArray E)) := by
  have hn : ¬ (n + m ≤ c) := by omega
  have h63' : ¬ (9223372036854775807 < ((n : Int) + (m : Int))) := by omega
  have h48' : ¬ (281474976710656 < Builtin.nextslicecap (n + m) c * i.bytes) := by
    have := growslice_fits hroom hb
    omega
  rcases hd with rfl | ⟨e, rfl⟩ <;>
    (simp [Builtin.append_, run_underlying hu, run_underlying hu2, sizeOf, typeInfo, zeroValue, hi, hz, hl, hn, h63', h48', Question.forced, hf, ho, newRow, grownCap]
     congr 2
     apply Array.ext'
     simp)
theorem append_core {ru : Value} {E : TypeId} {i : TypeInfo} {z v u : Value} {H' : Hp} {m : Nat} {ys zs : List Value} {run : Value → Result Value} (hvx : RV ρ u ru) (hexec : ∀ {r w'}, run ru = .ok r w' → (execOp a.eval o).run P w = .ok (.value r) w') (hi : P.info? E = some i) (hz : i.zero = some z) (hzl : z.cells.size = i.size) (hpos : 0 < i.size)
    (hyl : ys.length = m * i.size) (hr : All2 (RC ρ) ys zs)
    (hstay : ∀ (p : Option Addr) (n c : Nat) (w' : World), n + m ≤ c → (match p with | some q => (storeCells (q.add (n * i.size)) zs 0).run P w = .ok () w' | none => w' = w) → run (.slice p n c) = .ok (.slice p (n + m) c) w')
    (hnew : ∀ (p : Option Addr) (n c : Nat) (olds : List Value), (Builtin.firstCells i.size n (.slice p n c)).run P w.drew = .ok olds.toArray w.drew → c < n + m → n + m ≤ 9223372036854775807 → (n + m) * i.bytes ≤ 140737488355328 →
      run (.slice p n c) = .ok (.slice (some ⟨w.drew.heap.size, 0, none⟩) (n + m) (grownCap w (n + m) c E)) (w.drew.alloc (.cells (olds ++ zs ++ (Builtin.zeroCells z.cells (grownCap w (n + m) c E - (n + m))).toList).toArray E)))
    (hv : appendTo H E i.size i.bytes m ys u = some (v, H')) (h : RH ρ H w0 w) : Ok P o a w ρ v H' w0 := by
  have h63 : maxLen = 9223372036854775807 := by decide
  have hzl' := hr.length
  have hRd : RH ρ H w0 w.drew := h.world (Below.refl _ _).drew
  unfold appendTo at hv
  split at hv
  · have e := (rv_nil hvx).1
    split at hv
    · rename_i hm0
      subst hm0
      injection hv with hv
      injection hv with hv1 hv2
      subst hv1 hv2
      have hzn : zs = [] := List.eq_nil_of_length_eq_zero (by omega)
      subst hzn
      refine Ok0.ok (Ok.still h (v' := .slice none 0 0) (hexec ?_) (.one (.one .sliceNil))) h
      rw [e]
      exact hstay none 0 0 w (by simp) rfl
    · rename_i hm0
      split at hv
      · rename_i hb
        injection hv with hv
        injection hv with hv1 hv2
        subst hv1 hv2
        have hrun := hnew none 0 0 [] (by simp [Builtin.firstCells]) (by omega) (by omega) (by simpa using hb.1)
        have hge := grownCap_ge w (0 + m) 0 E
        refine Ok.newSlice (ys := zs ++ (Builtin.zeroCells z.cells (grownCap w (0 + m) 0 E - (0 + m))).toList) (c := grownCap w (0 + m) 0 E) hRd (hexec ?_) ?_ ?_ ?_ ?_ ?_
        · rw [e, hrun]
          simp
        · rw [hzl', List.take_left']
          · exact hr
          · rfl
        · simp; omega
        · have e1 : (Builtin.zeroCells z.cells (grownCap w (0 + m) 0 E - (0 + m))).toList.length = (grownCap w (0 + m) 0 E - (0 + m)) * i.size := by rw [Array.length_toList, size_zeroCells, hzl]
          rw [List.length_append, e1, ← hzl', hyl, ← Nat.add_mul]
          congr 1
          omega
        · omega
        · exact grownCap_le_maxLen w (0 + m) 0 E (by omega)
      · cases hv
  · rename_i b n1 c
    obtain ⟨q, c', e, hnc, hloc⟩ := rv_slice hvx
    split at hv
    · rename_i k hk
      split at hv
      · rename_i hb
        obtain ⟨hrw, hke, hcs, hkl, hb1, hb2⟩ := hb
        injection hv with hv
        injection hv with hv1 hv2
        subst hv1 hv2 hke
        obtain ⟨l, hl, hq, ht⟩ := hloc (.inr (by omega))
        obtain ⟨hlsz, hlc⟩ := ht (by omega)
        obtain ⟨l', hl', hcells, hown⟩ := h.cells b k hk
        rw [hl] at hl'
        injection hl' with hl'
        subst hl'
        obtain ⟨g, cur, fr, hla, hg0, hcur, hsoft, hkc, hcsz, hcm⟩ := hown hrw
        rw [hla, add_plain] at hq
        subst hq
        have hcap : l.cap = c' := by
          have : c' * i.size = l.cap * i.size := by rw [hcs] at hlc; simpa using hlc
          exact (Nat.eq_of_mul_eq_mul_right hpos this).symm
        have hlist := own_list (w0 := w0) hla hcur hkc hcells
        by_cases hroom : n1 + m ≤ c'
        · have hfit : n1 * i.size + zs.length ≤ cur.size := by
            rw [← hzl', hyl, hcsz, hlsz, hcs, hcap, ← Nat.add_mul]
            exact Nat.mul_le_mul_right _ hroom
          have hst := run_storeCells_row (P := P) hcur hsoft (n1 * i.size) zs hfit (okV_cells hr)
          have hrun := hstay (some ⟨g, 0, none⟩) n1 c' _ hroom (by simp only [add_plain]; exact hst)
          have hsz : (cur.toList.take (n1 * i.size) ++ zs ++ cur.toList.drop (n1 * i.size + zs.length)).toArray.size = cur.size := by simp; omega
          have hput := h.put hk hl hrw cur (cur.toList.take (n1 * i.size) ++ zs ++ cur.toList.drop (n1 * i.size + zs.length)).toArray fr fr g hla hcur (by rw [hsz]; exact hsoft) hsz (k.cells ++ ys) (by rw [List.length_append]; omega) (by
            have e1 : (cur.toList.take (n1 * i.size) ++ zs ++ cur.toList.drop (n1 * i.size + zs.length)).take (k.cells ++ ys).length = cur.toList.take (n1 * i.size) ++ zs := by
              rw [List.take_left']
              simp
              omega
            show All2 (RC ρ) (k.cells ++ ys) ((cur.toList.take (n1 * i.size) ++ zs ++ cur.toList.drop (n1 * i.size + zs.length)).take (k.cells ++ ys).length)
            rw [e1]
            rw [hkl] at hlist
            exact hlist.append hr)
          obtain ⟨ρ', he, hnx, hR⟩ := hput.renew (b := b) (k := { k with cells := k.cells ++ ys }) (by simp [Hp.set]) hl
          refine ⟨ρ', _, _, .inl (hexec (by rw [e]; exact hrun)), he, .one (.one ?_), ?_⟩
          · have := RC.slice (ρ := ρ') H.nx 0 (n1 + m) i.size c' l hnx hroom (fun _ => ⟨by rw [hlsz, hcs], by rw [hcap]; simp⟩)
            rw [hla, add_plain] at this
            exact this
          · have e2 : ((H.set b { k with cells := k.cells ++ ys }).cut b).push { k with cells := k.cells ++ ys } = (H.cut b).push ⟨true, k.e, k.cells ++ ys⟩ := by
              obtain ⟨krw, ke, kc⟩ := k
              simp only at hrw
              subst hrw
              simp only [Hp.set, Hp.cut, Hp.push]
              congr 1
              funext j
              show (if j = H.nx then _ else if j = b then none else if j = b then _ else H.m j) = (if j = H.nx then _ else if j = b then none else H.m j)
              by_cases e1 : j = H.nx
              · rw [if_pos e1, if_pos e1]
              · rw [if_neg e1, if_neg e1]
                by_cases e2 : j = b
                · rw [if_pos e2, if_pos e2]
                · rw [if_neg e2, if_neg e2, if_neg e2]
            rw [← e2]
            exact hR
        · have hold : (Builtin.firstCells i.size n1 (.slice (some ⟨g, 0, none⟩) n1 c')).run P w.drew = .ok (cur.toList.take (n1 * i.size)).toArray w.drew := by
            have := run_first (P := P) (w1 := w.drew) (sz := i.size) (k := n1) (m := n1) (c := c') (q := ⟨g, 0, none⟩) (zs := cur.toList.take (n1 * i.size)) (fun j u hj => by
              rw [List.getElem?_take] at hj
              split at hj
              · rw [add_plain]
                have hcur' : w.drew.heap[g]? = some (.cells cur k.e fr) := hcur
                simp only [World.cell?, hcur']
                simpa using hj
              · cases hj) (by rw [List.length_take]; simp; omega) (Nat.le_refl _)
            rwa [List.take_of_length_le (by rw [List.length_take]; omega)] at this
          have hrun := hnew (some ⟨g, 0, none⟩) n1 c' _ hold (by omega) (by omega) hb1
          have hge := grownCap_ge w (n1 + m) c' k.e
          have hol : (cur.toList.take (n1 * i.size)).length = n1 * i.size := by rw [List.length_take]; simp; omega
          refine Ok.newSlice (ys := cur.toList.take (n1 * i.size) ++ zs ++ (Builtin.zeroCells z.cells (grownCap w (n1 + m) c' k.e - (n1 + m))).toList) (c := grownCap w (n1 + m) c' k.e) (hRd.cut b) (hexec (by rw [e]; exact hrun)) ?_ ?_ ?_ hge (grownCap_le_maxLen w _ _ _ (by omega))
          · rw [List.take_left']
            · rw [hkl] at hlist
              exact hlist.append hr
            · rw [List.length_append, List.length_append, hol, hkl, hzl']
          · rw [List.length_append, List.length_append, List.length_append, hol]; omega
          · have e1 : (Builtin.zeroCells z.cells (grownCap w (n1 + m) c' k.e - (n1 + m))).toList.length = (grownCap w (n1 + m) c' k.e - (n1 + m)) * i.size := by rw [Array.length_toList, size_zeroCells, hzl]
            rw [List.length_append, List.length_append, e1, hol, ← hzl', hyl, ← Nat.add_mul, ← Nat.add_mul]
            congr 1
            omega
      · cases hv
    · cases hv
  · cases hv
theorem ok_append {T T2 E : TypeId} {x y : Operand} {x' y' : Opd} {d : TypeDesc} {i : TypeInfo} {z v : Value} {H' : Hp} (ho : ∃ ca, o.op = .call ca ∧ ca.callee = .builtin .append ∧ ca.args = #[x, y] ∧ ca.argTypes = #[T, T2]) (hu : P.underlying T = some (.slice E)) (hu2 : P.underlying T2 = some d) (hd : d = .string ∨ ∃ e, d = .slice e) (hi : P.info? E = some i) (hz : i.zero = some z) (hzl : z.cells.size = i.size) (hpos : 0 < i.size)
    (hx : cO n x = some x') (hy : cO n y = some y') (hv : aI (.append E i.size i.bytes x' y') (ev t) H = some (v, H')) (hg : RG ρ n t a) (h : RH ρ H w0 w) : Ok P o a w ρ v H' w0 := by
  obtain ⟨ca, hop, hc1, hc2, hc3⟩ := ho
  simp only [aI] at hv
  split at hv
  · rename_i m ys hs
    obtain ⟨hyl, zs, hr, hlen, hfirst⟩ := src_rel (P := P) h hs (ev_rel hg hy)
    have hzl' := hr.length
    have hfull : ∀ w1 : World, (∀ q u, w.cell? q = some u → w1.cell? q = some u) → (Builtin.firstCells i.size m (a.eval y)).run P w1 = .ok zs.toArray w1 := fun w1 hw => by
      have := hfirst m (Nat.le_refl _) w1 hw
      rwa [List.take_of_length_le (by omega)] at this
    refine append_core (run := fun r => (Builtin.append_ #[T, T2] o.type #[r, a.eval y]).run P w) (ev_rel hg hx) (fun {r w'} hr => ?_) hi hz hzl hpos hyl hr (fun p n c w' h1 h2 => run_append_stay hu hu2 hd hi hlen (hfull w fun _ _ h => h) h1 h2) (fun p n c olds h1 h2 h3 h4 => run_append_new hu hu2 hd hi hz hlen (hfull w.drew fun q u hq => hq) h1 h2 h3 h4) hv h
    simp only [execOp, hop, resolve, hc1, hc2, hc3, Sem.run_bind, Sem.run_pure, Result.andThen_ok, invoke, builtin, List.map_toArray, List.map_cons, List.map_nil, hr]
  · cases hv
theorem run_appendZ_stay {T T2 ty E : TypeId} {k0 k : IntKind} {i : TypeInfo} {z : Value} {p : Option Addr} {n c : Nat} {j : Int} {zs : List Value} {w' : World} (hu : P.underlying T = some (.slice E)) (hu2 : P.underlying T2 = some (.int k0)) (hi : P.info? E = some i) (hz : i.zero = some z) (hpos : 0 < i.size) (h0 : 0 ≤ j) (h63 : j ≤ 9223372036854775807) (hb : j.toNat * i.bytes ≤ 140737488355328)
    (hzs : Builtin.zeroCells z.cells j.toNat = zs.toArray) (hroom : n + j.toNat ≤ c) (hst : match p with | some q => (storeCells (q.add (n * i.size)) zs 0).run P w = .ok () w' | none => w' = w) :
    (Builtin.append_ #[T, T2] ty #[.slice p n c, .int k j]).run P w = .ok (.slice p (n + j.toNat) c) w' := by
  have wj : IntKind.i64.wrap j = j := by rw [IntKind.wrap_i64]; omega
  have n1 : ¬ j < 0 := by omega
  have hbi : j * (i.bytes : Int) ≤ 140737488355328 := by
    have : ((j.toNat * i.bytes : Nat) : Int) ≤ 140737488355328 := by omega
    rwa [Int.natCast_mul, Int.toNat_of_nonneg h0] at this
  have n2 : ¬ (281474976710656 < j * (i.bytes : Int)) := by omega
  have hz0 : j.toNat * i.size = 0 → zs = [] := fun h => by
    have hj : j.toNat = 0 := by
      rcases Nat.mul_eq_zero.1 h with h | h
      · exact h
      · omega
    rw [hj] at hzs
    have := congrArg Array.toList hzs
    simpa [Builtin.zeroCells] using this.symm
  by_cases hjz : j.toNat * i.size = 0
  · have := hz0 hjz
    subst this
    cases p with
    | none =>
      simp only at hst
      subst hst
      simp [Builtin.append_, run_underlying hu, run_underlying hu2, sizeOf, typeInfo, hi, asInt, asIntOf, wj, n1, n2, hroom, hjz]
    | some q =>
      simp only at hst
      simp [Builtin.append_, run_underlying hu, run_underlying hu2, sizeOf, typeInfo, hi, asInt, asIntOf, wj, n1, n2, hroom, hjz, hst]
  · cases p with
    | none =>
      simp only at hst
      subst hst
      simp [Builtin.append_, run_underlying hu, run_underlying hu2, sizeOf, typeInfo, hi, asInt, asIntOf, wj, n1, n2, hroom, hjz, zeroValue, hz]
    | some q =>
      simp only at hst
      simp [Builtin.append_, run_underlying hu, run_underlying hu2, sizeOf, typeInfo, hi, asInt, asIntOf, wj, n1, n2, hroom, hjz, zeroValue, hz, hzs, hst]
theorem run_appendZ_new {T T2 ty E : TypeId} {k0 k : IntKind} {i : TypeInfo} {z : Value} {p : Option Addr} {n c : Nat} {j : Int} {olds zs : List Value} (hu : P.underlying T = some (.slice E)) (hu2 : P.underlying T2 = some (.int k0)) (hi : P.info? E = some i) (hz : i.zero = some z) (hpos : 0 < i.size) (h0 : 0 ≤ j) (h63 : j ≤ 9223372036854775807)
    (hzs : Builtin.zeroCells z.cells j.toNat = zs.toArray) (ho : (Builtin.firstCells i.size n (.slice p n c)).run P w.drew = .ok olds.toArray w.drew) (hroom : c < n + j.toNat) (h63' : n + j.toNat ≤ 9223372036854775807) (hb : (n + j.toNat) * i.bytes ≤ 140737488355328) :
    (Builtin.append_ #[T, T2] ty #[.slice p n c, .int k j]).run P w = .ok (.slice (some ⟨w.drew.heap.size, 0, none⟩) (n + j.toNat) (grownCap w (n + j.toNat) c E)) (w.drew.alloc (.cells (olds ++ zs ++ (Builtin.zeroCells z.cells (grownCap w (n + j.toNat) c E - (n + j.toNat))).toList).toArray E)) := by
  have wj : IntKind.i64.wrap j = j := by rw [IntKind.wrap_i64]; omega
  have n1 : ¬ j < 0 := by omega
  have hbj : j.toNat * i.bytes ≤ 140737488355328 := Nat.le_trans (Nat.mul_le_mul_right _ (by omega)) hb
  have hbi : j * (i.bytes : Int) ≤ 140737488355328 := by
    have : ((j.toNat * i.bytes : Nat) : Int) ≤ 140737488355328 := by omega
    rwa [Int.natCast_mul, Int.toNat_of_nonneg h0] at this
  have n2 : ¬ (281474976710656 < j * (i.bytes : Int)) := by omega
  have hn : ¬ (n + j.toNat ≤ c) := by omega
  have h63n : ¬ (9223372036854775807 < ((n : Int) + (j.toNat : Int))) := by omega
  have h63m : ¬ (9223372036854775807 < ((n : Int) + max j 0)) := by omega
  have h48' : ¬ (281474976710656 < Builtin.nextslicecap (n + j.toNat) c * i.bytes) := by
    have := growslice_fits hroom hb
    omega
  by_cases hjz : j.toNat * i.size = 0
  · have hj : j.toNat = 0 := by
      rcases Nat.mul_eq_zero.1 hjz with h | h
      · exact h
      · omega
    rw [hj] at hzs
    have := congrArg Array.toList hzs
    have : zs = [] := by simpa [Builtin.zeroCells] using this.symm
    subst this
    simp [Builtin.append_, run_underlying hu, run_underlying hu2, sizeOf, typeInfo, zeroValue, hi, hz, asInt, asIntOf, wj, n1, n2, hn, h63n, h63m, h48', Question.forced, ho, newRow, grownCap, hjz]
    congr 2
    apply Array.ext'
    simp
  · simp [Builtin.append_, run_underlying hu, run_underlying hu2, sizeOf, typeInfo, zeroValue, hi, hz, asInt, asIntOf, wj, n1, n2, hn, h63n, h63m, h48', Question.forced, ho, newRow, grownCap, hjz, hzs]
    congr 2
    apply Array.ext'
    simp
theorem mkCells_zero {z : Value} {zs : List Value} (hzs : z.cells.toList = zs) (hpos : 0 < zs.length) (m : Nat) : Builtin.zeroCells z.cells m = (mkCells zs m).toArray := by
  have hzc : z.cells.size = zs.length := by rw [← hzs]; simp
  apply Array.ext'
  unfold Builtin.zeroCells mkCells
  simp only [Array.toList_map, Array.toList_range, hzc]
  refine List.map_congr_left fun j _ => ?_
  have : j % zs.length < z.cells.size := by rw [hzc]; exact Nat.mod_lt _ hpos
  generalize zs.length = L at this
  rw [getElem!_pos z.cells _ this, ← hzs, List.getD_eq_getElem?_getD, Array.getElem?_toList, Array.getElem?_eq_getElem this]
  rfl
theorem ok_appendZ {T T2 E : TypeId} {x y : Operand} {x' y' : Opd} {k0 : IntKind} {i : TypeInfo} {z v : Value} {zs : List Value} {H' : Hp} (ho : ∃ ca, o.op = .call ca ∧ ca.callee = .builtin .append ∧ ca.args = #[x, y] ∧ ca.argTypes = #[T, T2]) (hu : P.underlying T = some (.slice E)) (hu2 : P.underlying T2 = some (.int k0)) (hi : P.info? E = some i) (hz : i.zero = some z) (hzs : z.cells.toList = zs) (hzl : zs.length = i.size) (hk : zs.all okC = true) (hpos : 0 < i.size)
    (hx : cO n x = some x') (hy : cO n y = some y') (hv : aI (.appendZ E i.size i.bytes zs x' y') (ev t) H = some (v, H')) (hg : RG ρ n t a) (h : RH ρ H w0 w) : Ok P o a w ρ v H' w0 := by
  obtain ⟨ca, hop, hc1, hc2, hc3⟩ := ho
  simp only [aI] at hv
  split at hv
  · rename_i k j hj
    have ey := rv_int (hj ▸ ev_rel hg hy)
    split at hv
    · rename_i hc
      obtain ⟨h0, h63⟩ := hc
      have hzc : z.cells.size = i.size := by rw [← hzl, ← hzs]; simp
      have hmk := mkCells_zero hzs (by omega) j.toNat
      refine append_core (run := fun r => (Builtin.append_ #[T, T2] o.type #[r, a.eval y]).run P w) (zs := mkCells zs j.toNat) (ev_rel hg hx) (fun {r w'} hr => ?_) hi hz hzc hpos (by simp [mkCells, hzl]) ?_ (fun p n c w' h1 h2 => ?_) (fun p n c olds h1 h2 h3 h4 => ?_) hv h
      · simp only [execOp, hop, resolve, hc1, hc2, hc3, Sem.run_bind, Sem.run_pure, Result.andThen_ok, invoke, builtin, List.map_toArray, List.map_cons, List.map_nil, hr]
      · refine okC_all (List.all_eq_true.2 fun v hv => ?_) ρ
        unfold mkCells at hv
        obtain ⟨j, hj, rfl⟩ := List.mem_map.1 hv
        have : j % zs.length < zs.length := Nat.mod_lt _ (by omega)
        rw [List.getD_eq_getElem?_getD, List.getElem?_eq_getElem this]
        exact List.all_eq_true.1 hk _ (List.getElem_mem _)
      · simp only [ey]
        have hb : j.toNat * i.bytes ≤ 140737488355328 := by
          unfold appendTo at hv
          split at hv
          · split at hv
            · rename_i hj0; rw [hj0]; simp
            · split at hv
              · rename_i hb; exact hb.1
              · cases hv
          · split at hv
            · split at hv
              · rename_i hb
                exact Nat.le_trans (Nat.mul_le_mul_right _ (by omega)) hb.2.2.2.2.1
              · cases hv
            · cases hv
          · cases hv
        exact run_appendZ_stay hu hu2 hi hz hpos h0 h63 hb hmk h1 h2
      · simp only [ey]
        exact run_appendZ_new hu hu2 hi hz hpos h0 h63 hmk h1 h2 h3 h4
    · cases hv
  · cases hv
end
end Go.Proofs.Ytloeadlmcdddnaa.Abs
