/- An abstract machine for the program's text, part 7: what makes blocks; builtins. -/
import Derived.Test.YtloeadlmcdddnaaA6
set_option linter.unusedVariables false
set_option linter.unusedSimpArgs false
namespace Go.Proofs.Ytloeadlmcdddnaa.Abs
open Go Go.RowKit
section
variable {P : Program} {o : Oper} {a : Act} {n : Nat} {t : Nat → Value} {w w0 : World} {ρ : Rho} {H : Hp}
/-- A pointer to a new block. -/
theorem Ok.newPtr {e : TypeId} {xs ys : List Value} (h : RH ρ H w0 w) (hr : (execOp a.eval o).run P w = .ok (.value (.pointer (some ⟨w.heap.size, 0, none⟩))) (w.alloc (.cells ys.toArray e))) (hx : All2 (RC ρ) xs ys) (hm : ys.length ≤ maxLen) :
    Ok P o a w ρ (.pointer (some ⟨H.nx, 0, none⟩)) (H.push ⟨true, e, xs⟩) w0 := by
  have hl := hx.length
  obtain ⟨ρ', he, hn, hR⟩ := h.push e xs ys 1 ys.length (by rw [List.take_of_length_le (by omega)]; exact hx) (by omega) (by omega) hm
  refine ⟨ρ', _, _, .inl hr, he, .one (.one ?_), hR⟩
  have := RC.ptr (ρ := ρ') H.nx 0 _ hn
  rwa [add_plain] at this
/-- A slice of a new block. -/
theorem Ok.newSlice {e : TypeId} {xs ys : List Value} {m sz c : Nat} {w' : World} (h : RH ρ H w0 w') (hr : (execOp a.eval o).run P w = .ok (.value (.slice (some ⟨w'.heap.size, 0, none⟩) m c)) (w'.alloc (.cells ys.toArray e))) (hx : All2 (RC ρ) xs (ys.take xs.length)) (hl : xs.length ≤ ys.length) (hc : ys.length = c * sz) (hmc : m ≤ c) (hm : c ≤ maxLen) :
    Ok P o a w ρ (.slice (some ⟨H.nx, 0, none⟩) m sz) (H.push ⟨true, e, xs⟩) w0 := by
  obtain ⟨ρ', he, hn, hR⟩ := h.push e xs ys sz c hx hl hc hm
  refine ⟨ρ', _, _, .inl hr, he, .one (.one ?_), hR⟩
  have := RC.slice (ρ := ρ') H.nx 0 m sz c _ hn hmc (fun _ => ⟨rfl, by simp⟩)
  rwa [add_plain] at this
theorem ok_box {T : TypeId} {x : Operand} {x' : Opd} (ho : o.op = .box T x) (hx : cO n x = some x') (ht : notTup (ev t x') = true) (hm : (cellsOf (ev t x')).length ≤ maxLen) (hg : RG ρ n t a) (h : RH ρ H w0 w) : Ok P o a w ρ (.pointer (some ⟨H.nx, 0, none⟩)) (H.push ⟨true, T, cellsOf (ev t x')⟩) w0 := by
  have hr := rt_cells (rt_of hx ht hg)
  refine Ok.newPtr h ?_ hr (by rw [← hr.length]; exact hm)
  simp [execOp, ho, Instr.box, newVar, newRow]
theorem okC_all {zs : List Value} (h : zs.all okC = true) (ρ : Rho) : All2 (RC ρ) zs zs := by
  induction zs with
  | nil => exact .nil
  | cons z zs ih =>
    simp only [List.all_cons, Bool.and_eq_true] at h
    exact .cons (okC_rel h.1 ρ) (ih h.2)
theorem run_zero {T : TypeId} {z : Value} (h : (P.info? T).bind (·.zero) = some z) (w : World) : (zeroValue T).run P w = .ok z w := by
  cases hq : P.info? T with
  | none => simp [hq] at h
  | some i => simp [hq] at h; simp [zeroValue, typeInfo, hq, h]
theorem ok_alloc {T : TypeId} {z : Value} {zs : List Value} (ho : o.op = .alloc T) (hz : (P.info? T).bind (·.zero) = some z) (hzs : z.cells.toList = zs) (hk : zs.all okC = true) (hm : zs.length ≤ maxLen) (h : RH ρ H w0 w) : Ok P o a w ρ (.pointer (some ⟨H.nx, 0, none⟩)) (H.push ⟨true, T, zs⟩) w0 := by
  refine Ok.newPtr h ?_ (okC_all hk ρ) hm
  simp [execOp, ho, Instr.alloc, run_zero hz, newVar, newRow, ← hzs]
/-! structs and arrays out of parts -/
theorem fold_set (cs : List Value) (off : Nat) : ∀ (vs : List Value) (i : Nat) (cells : Array Value), (vs.zipIdx i).foldl (fun cs (c, j) => cs.setIfInBounds (off + j) c) cells = (vs.zipIdx i).foldl (fun cs (p : Value × Nat) => cs.setIfInBounds (off + p.2) p.1) cells := fun _ _ _ => rfl
theorem fold_fill (off : Nat) : ∀ (vs : List Value) (i : Nat) (cells : Array Value), off + i + vs.length ≤ cells.size →
    ((vs.zipIdx i).foldl (fun cs (p : Value × Nat) => cs.setIfInBounds (off + p.2) p.1) cells).toList = cells.toList.take (off + i) ++ vs ++ cells.toList.drop (off + i + vs.length)
  | [], i, cells, h => by simp
  | v :: vs, i, cells, h => by
    simp only [List.zipIdx_cons, List.foldl_cons]
    rw [fold_fill off vs (i + 1) _ (by simp at h ⊢; omega)]
    have e := list_seg_step cells.toList (off + i) v vs (by simp at h ⊢; omega)
    simp only [Array.toList_setIfInBounds]
    simpa [Nat.add_assoc] using e
theorem fill_rel {place : Nat → Option (Nat × Nat)} : ∀ (ps : List (Nat × Operand)) (ps' : List (Nat × Nat × Opd)) (zs xs : List Value) (cells : Array Value),
    (ps.mapM fun p => (place p.1).bind fun q => (cO n p.2).map fun x => (q.1, q.2, x)) = some ps' → fillA zs (ps'.map fun p => (p.1, p.2.1, ev t p.2.2)) = some xs → All2 (RC ρ) zs cells.toList → RG ρ n t a →
    ∃ ys : Array Value, Instr.fill place cells (ps.map fun p => (p.1, a.eval p.2)) = some ys ∧ All2 (RC ρ) xs ys.toList
  | [], ps', zs, xs, cells, hm, hf, hz, hg => by
    simp at hm
    subst hm
    simp [fillA] at hf
    subst hf
    exact ⟨cells, rfl, hz⟩
  | p :: ps, ps', zs, xs, cells, hm, hf, hz, hg => by
    simp only [List.mapM_cons, Option.bind_eq_bind, Option.pure_def] at hm
    cases hq : place p.1 with
    | none => simp [hq] at hm
    | some q =>
      cases hx : cO n p.2 with
      | none => simp [hq, hx] at hm
      | some x =>
        cases hr : ps.mapM (fun p => (place p.1).bind fun q => (cO n p.2).map fun x => (q.1, q.2, x)) with
        | none => simp [hq, hx, hr] at hm
        | some rest =>
          simp [hq, hx, hr] at hm
          subst hm
          simp only [List.map_cons, fillA] at hf
          split at hf
          · rename_i hc
            obtain ⟨h1, h2, h3⟩ := hc
            have hv := rt_cells (rt_of hx h1 hg)
            have hl := hv.length
            have hzl := hz.length
            have e1 := fold_fill q.1 (a.eval p.2).cells.toList 0 cells (by simp at hl hzl ⊢; omega)
            have hz' : All2 (RC ρ) (zs.take q.1 ++ cellsOf (ev t x) ++ zs.drop (q.1 + q.2)) (((a.eval p.2).cells.toList.zipIdx 0).foldl (fun cs (p : Value × Nat) => cs.setIfInBounds (q.1 + p.2) p.1) cells).toList := by
              rw [e1]
              refine ((hz.take _).append hv).append ?_
              have : q.1 + 0 + (a.eval p.2).cells.toList.length = q.1 + q.2 := by omega
              rw [this]
              exact hz.drop _
            obtain ⟨ys, hy, hR⟩ := fill_rel ps rest _ xs _ hr hf hz' hg
            refine ⟨ys, ?_, hR⟩
            simp only [List.map_cons, Instr.fill, hq]
            have hs : (a.eval p.2).cells.size = q.2 := by rw [← Array.length_toList]; omega
            have hb : ¬ (q.1 + (a.eval p.2).cells.size > cells.size) := by rw [hs]; simp at hzl; omega
            rw [if_neg (by simp [hs]; simp [hs] at hb; omega)]
            have : (a.eval p.2).cells.zipIdx.foldl (fun cs (c, j) => cs.setIfInBounds (q.1 + j) c) cells = ((a.eval p.2).cells.toList.zipIdx 0).foldl (fun cs (p : Value × Nat) => cs.setIfInBounds (q.1 + p.2) p.1) cells := by
              rw [← Array.foldl_toList, Array.toList_zipIdx]
            rw [this]
            exact hy
          · cases hf
/-- The places of a type's parts. -/
def placesOf (P : Program) (T : TypeId) : Option (Nat → Option (Nat × Nat)) :=
  match P.underlying T with
  | some (.struct fields) => (fields.toList.mapM fun f => (P.info? f.type).map fun i => (f.offset, i.size)).map fun l => (l.toArray[·]?)
  | some (.array _ e) => (P.info? e).map fun i => fun j => some (j * i.size, i.size)
  | _ => none
theorem ok_build {T : TypeId} {parts : Array (Nat × Operand)} {parts' : List (Nat × Nat × Opd)} {z : Value} {zs xs : List Value} {place : Nat → Option (Nat × Nat)} (ho : o.op = .build T parts) (hp : placesOf P T = some place) (hz : (P.info? T).bind (·.zero) = some z) (hzs : z.cells.toList = zs) (hk : zs.all okC = true)
    (hm : (parts.toList.mapM fun p => (place p.1).bind fun q => (cO n p.2).map fun x => (q.1, q.2, x)) = some parts') (hf : fillA zs (parts'.map fun p => (p.1, p.2.1, ev t p.2.2)) = some xs) (hg : RG ρ n t a) (h : RH ρ H w0 w) : Ok0 P o a w ρ (.agg xs.toArray) := by
  obtain ⟨ys, hy, hR⟩ := fill_rel parts.toList parts' zs xs z.cells hm hf (by rw [hzs]; exact okC_all hk ρ) hg
  refine Ok.still h (v' := .agg ys) ?_ (.one ?_)
  · have hb : P.built T (parts.map fun (i, x) => (i, a.eval x)).toList = some ys := by
      unfold placesOf at hp
      unfold Program.built
      cases hi : P.info? T with
      | none => simp [hi] at hz
      | some it =>
        simp [hi] at hz
        split at hp
        · rename_i fields hu
          simp only [Option.map_eq_some_iff] at hp
          obtain ⟨l, hl, rfl⟩ := hp
          simp only [hu, hz, hl]
          simpa using hy
        · rename_i m e hu
          simp only [Option.map_eq_some_iff] at hp
          obtain ⟨i, hl, rfl⟩ := hp
          simp only [hu, hz, hl]
          simpa using hy
        · cases hp
    simp [execOp, ho, run_build w T _ ys hb]
  · have := RT.agg hR
    simpa using this
theorem run_zeros {E : TypeId} {z : Value} {zs : List Value} (hz : (P.info? E).bind (·.zero) = some z) (hzs : z.cells.toList = zs) (w : World) (m : Nat) : (do if m = 0 then pure #[] else do pure (← zeroValue E).cells : Sem (Array Value)).run P w = .ok (if m = 0 then #[] else z.cells) w := by
  split <;> simp [run_zero hz, *]
theorem ok_lit {T E : TypeId} {parts : Array (Nat × Operand)} {parts' : List (Nat × Nat × Opd)} {z : Value} {zs xs : List Value} {m sz : Nat} (ho : o.op = .buildSlice T m parts) (hu : P.underlying T = some (.slice E)) (hs : (P.info? E).map (·.size) = some sz) (hz : (P.info? E).bind (·.zero) = some z) (hzs : z.cells.toList.length = sz) (hk : z.cells.toList.all okC = true) (h24 : m * sz ≤ 16777216) (hsz : 0 < sz)
    (hm : (parts.toList.mapM fun p => ((fun i => some (i * sz, sz)) p.1 : Option (Nat × Nat)).bind fun q => (cO n p.2).map fun x => (q.1, q.2, x)) = some parts') (hzz : mkCells z.cells.toList m = zs) (hf : fillA zs (parts'.map fun p => (p.1, p.2.1, ev t p.2.2)) = some xs) (hg : RG ρ n t a) (h : RH ρ H w0 w) :
    Ok P o a w ρ (.slice (some ⟨H.nx, 0, none⟩) m sz) (H.push ⟨true, E, xs⟩) w0 := by
  have hzl : z.cells.size = sz := by simpa using hzs
  have hcell : (Array.range (m * sz)).map (fun i => (if m * sz = 0 then #[] else z.cells)[i % (if m * sz = 0 then #[] else z.cells).size]!) = zs.toArray := by
    subst hzz
    unfold mkCells
    apply Array.ext'
    by_cases h0 : m * sz = 0
    · simp [h0, hzl]
    · simp only [h0, if_false, Array.toList_map, Array.toList_range, hzl, Array.length_toList]
      refine List.map_congr_left fun i _ => ?_
      have : i % sz < z.cells.size := by rw [hzl]; exact Nat.mod_lt _ hsz
      simp [this, getElem!_pos]
  have hzr : All2 (RC ρ) zs zs := by
    subst hzz
    refine okC_all (List.all_eq_true.2 fun v hv => ?_) ρ
    unfold mkCells at hv
    obtain ⟨i, hi, rfl⟩ := List.mem_map.1 hv
    have : i % z.cells.toList.length < z.cells.toList.length := Nat.mod_lt _ (by omega)
    rw [List.getD_eq_getElem?_getD, List.getElem?_eq_getElem this]
    exact List.all_eq_true.1 hk _ (List.getElem_mem _)
  have hzsl : zs.length = m * sz := by subst hzz; simp [mkCells, hzl]
  obtain ⟨ys, hy, hR⟩ := fill_rel (place := fun i => some (i * sz, sz)) parts.toList parts' zs xs zs.toArray hm hf (by simpa using hzr) hg
  have hxl := hR.length
  have hxs : ∀ (ps : List (Nat × Nat × Value)) (zs xs : List Value), fillA zs ps = some xs → xs.length = zs.length := by
    intro ps
    induction ps with
    | nil => intro zs xs h; simp [fillA] at h; rw [h]
    | cons p ps ih =>
      intro zs xs h
      simp only [fillA] at h
      split at h
      · rw [ih _ _ h]; simp; omega
      · cases h
  have hxx := hxs _ _ _ hf
  refine Ok.newSlice (ys := ys.toList) h ?_ (by rw [List.take_of_length_le (by omega)]; exact hR) (by omega) (by omega) (Nat.le_refl _) ?_
  · have h24' : ¬ (m * sz > 2 ^ 24) := by omega
    have hfill : Instr.fill (fun i => some (i * sz, sz)) (Array.map (fun i => (if m * sz = 0 then #[] else z.cells)[i % (if m * sz = 0 then #[] else z.cells).size]!) (Array.range (m * sz))) (parts.map fun (i, x) => (i, a.eval x)).toList = some ys := by
      rw [hcell]
      simpa using hy
    by_cases h0 : m * sz = 0
    · rw [h0] at hfill
      simp only [if_true] at hfill
      simp only [execOp, ho, Instr.buildSlice, Sem.run_bind, run_underlying hu, Result.andThen_ok, run_sizeOf hs, h0, Nat.not_lt_zero, gt_iff_lt, if_false, if_true, Sem.run_pure, hfill]
      simp [newRow, hfill]
    · simp only [h0, if_false] at hfill
      simp only [execOp, ho, Instr.buildSlice, Sem.run_bind, run_underlying hu, Result.andThen_ok, run_sizeOf hs, h0, h24', if_false, Sem.run_pure, run_zero hz, hfill]
      simp [newRow, hfill]
  · have : m ≤ m * sz := Nat.le_mul_of_pos_right _ hsz
    have hm63 : maxLen = 9223372036854775807 := by decide
    omega
end
end Go.Proofs.Ytloeadlmcdddnaa.Abs
