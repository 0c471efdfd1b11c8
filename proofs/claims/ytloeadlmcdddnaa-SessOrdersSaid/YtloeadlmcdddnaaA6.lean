/- An abstract machine for the program's text, part 6: addresses, cuts, new blocks. -/
import Derived.Test.YtloeadlmcdddnaaA5
set_option linter.unusedVariables false
set_option linter.unusedSimpArgs false
namespace Go.Proofs.Ytloeadlmcdddnaa.Abs
open Go Go.RowKit
section
variable {P : Program} {o : Oper} {a : Act} {n : Nat} {t : Nat → Value} {w w0 : World} {ρ : Rho} {H : Hp}
theorem ok_nilck {x : Operand} {x' : Opd} {p : Addr} (ho : o.op = .nilCheck x) (hx : cO n x = some x') (hp : ev t x' = .pointer (some p)) (hg : RG ρ n t a) (h : RH ρ H w0 w) : Ok0 P o a w ρ (.pointer (some p)) := by
  have hr := hp ▸ ev_rel hg hx
  obtain ⟨q, e⟩ := rv_ptr_some hr
  refine Ok.still h (v' := a.eval x) ?_ hr
  simp [execOp, ho, e]
theorem ok_fadr {T : TypeId} {x : Operand} {x' : Opd} {fld b q : Nat} {fs : Array Field} {f : Field} {m : Nat} (ho : o.op = .fieldAddr T x fld) (hu : P.underlying T = some (.struct fs)) (hf : fs[fld]? = some f) (hs : (P.info? f.type).map (·.size) = some m) (hm : m ≠ 0)
    (hx : cO n x = some x') (hp : ev t x' = .pointer (some ⟨b, q, none⟩)) (hg : RG ρ n t a) (h : RH ρ H w0 w) : Ok0 P o a w ρ (.pointer (some ⟨b, q + f.offset, none⟩)) := by
  obtain ⟨l, hl, e⟩ := rv_ptr (hp ▸ ev_rel hg hx)
  refine Ok.still h (v' := .pointer (some (l.a.add (q + f.offset)))) ?_ (.one (.one (.ptr _ _ l hl)))
  simp [execOp, ho, e, Instr.fieldAt, run_underlying hu, hf, Instr.sureAddr, fieldPlace, run_sizeOf hs, hm, add_add]
theorem ok_iadr {T E : TypeId} {x i : Operand} {x' i' : Opd} {b q m c sz : Nat} {k : IntKind} {j : Int} (ho : o.op = .indexAddr T x i) (hu : P.underlying T = some (.slice E)) (hs : (P.info? E).map (·.size) = some sz)
    (hx : cO n x = some x') (hi : cO n i = some i') (hp : ev t x' = .slice (some ⟨b, q, none⟩) m c) (hj : ev t i' = .int k j) (h0 : 0 ≤ j ∧ j < m) (hg : RG ρ n t a) (h : RH ρ H w0 w) : Ok0 P o a w ρ (.pointer (some ⟨b, q + j.toNat * sz, none⟩)) := by
  obtain ⟨p, c', e, _, hl1⟩ := rv_slice (hp ▸ ev_rel hg hx)
  obtain ⟨l, hl, hp', _⟩ := hl1 (.inl (by omega))
  have e2 := rv_int (hj ▸ ev_rel hg hi)
  subst hp'
  refine Ok.still h (v' := .pointer (some (l.a.add (q + j.toNat * sz)))) ?_ (.one (.one (.ptr _ _ l hl)))
  simp [execOp, ho, e, e2, Instr.indexAt, asIntOf, run_underlying hu, h0, run_sizeOf hs, add_add]
theorem ok_iadrA {T E : TypeId} {x i : Operand} {x' i' : Opd} {b q m sz : Nat} {k : IntKind} {j : Int} (ho : o.op = .indexAddr T x i) (hu : P.underlying T = some (.array m E)) (hs : (P.info? E).map (·.size) = some sz)
    (hx : cO n x = some x') (hi : cO n i = some i') (hp : ev t x' = .pointer (some ⟨b, q, none⟩)) (hj : ev t i' = .int k j) (h0 : 0 ≤ j ∧ j < m) (hg : RG ρ n t a) (h : RH ρ H w0 w) : Ok0 P o a w ρ (.pointer (some ⟨b, q + j.toNat * sz, none⟩)) := by
  obtain ⟨l, hl, e⟩ := rv_ptr (hp ▸ ev_rel hg hx)
  have e2 := rv_int (hj ▸ ev_rel hg hi)
  refine Ok.still h (v' := .pointer (some (l.a.add (q + j.toNat * sz)))) ?_ (.one (.one (.ptr _ _ l hl)))
  simp [execOp, ho, e, e2, Instr.indexAt, Instr.sureAddr, asIntOf, run_underlying hu, h0, run_sizeOf hs, add_add]
theorem ok_idxS {T : TypeId} {x i : Operand} {x' i' : Opd} {s : ByteArray} {k : IntKind} {j : Int} {c : UInt8} (ho : o.op = .index T x i) (hu : P.underlying T = some .string)
    (hx : cO n x = some x') (hi : cO n i = some i') (hp : ev t x' = .string s) (hj : ev t i' = .int k j) (h0 : 0 ≤ j) (hc : s[j.toNat]? = some c) (hg : RG ρ n t a) (h : RH ρ H w0 w) : Ok0 P o a w ρ (.int .u8 c.toNat) := by
  have e := rv_string (hp ▸ ev_rel hg hx)
  have e2 := rv_int (hj ▸ ev_rel hg hi)
  refine Ok.still h ?_ (.one (.one (.int _ _)))
  simp [execOp, ho, e, e2, Instr.index, asIntOf, run_underlying hu, h0, hc]
theorem ok_idxA {T E : TypeId} {x i : Operand} {x' i' : Opd} {m sz : Nat} {k : IntKind} {j : Int} {xs : Array Value} {b : Bool} {v : Value} (ho : o.op = .index T x i) (hu : P.underlying T = some (.array m E)) (hb : isRowT P E = some b) (hs : (P.info? E).map (·.size) = some sz)
    (hx : cO n x = some x') (hi : cO n i = some i') (hp : ev t x' = .agg xs) (hj : ev t i' = .int k j) (h0 : 0 ≤ j ∧ j < m) (hv : if b = true then v = .agg ((xs.toList.drop (j.toNat * sz)).take sz).toArray else xs.toList[j.toNat * sz]? = some v) (hg : RG ρ n t a) (h : RH ρ H w0 w) : Ok0 P o a w ρ v := by
  obtain ⟨ys, e, hr⟩ := rv_agg (hp ▸ ev_rel hg hx)
  have e2 := rv_int (hj ▸ ev_rel hg hi)
  cases b
  · obtain ⟨y, hy, hR⟩ := hr.get _ _ (by simpa using hv)
    refine Ok.still h (v' := y) ?_ (.one (.one hR))
    simp [execOp, ho, e, e2, Instr.index, asIntOf, run_underlying hu, h0, run_sizeOf hs, part, run_isAgg hb, hy]
  · simp only [if_true] at hv
    subst hv
    refine Ok.still h (v' := .agg ((ys.drop (j.toNat * sz)).take sz).toArray) ?_ (.one (.agg ((hr.drop _).take _)))
    simp [execOp, ho, e, e2, Instr.index, asIntOf, run_underlying hu, h0, run_sizeOf hs, part, run_isAgg hb, List.extract_eq_take_drop]
/-! cuts -/
def cOO (n : Nat) : Option Operand → Option (Option Opd)
  | none => some none
  | some x => (cO n x).map some
theorem run_bounds {lo hi : Option Operand} {lo' hi' : Option Opd} {isS : Bool} {m cap l r : Nat} (hlo : cOO n lo = some lo') (hhi : cOO n hi = some hi') (hb : bound (lo'.map (ev t)) (hi'.map (ev t)) m = some (l, r)) (hc : m ≤ cap) (hg : RG ρ n t a) (w : World) :
    (Instr.sliceBounds isS m cap (lo.map a.eval) (hi.map a.eval) none).run P w = .ok (l, r, cap) w ∧ l ≤ r ∧ r ≤ m := by
  have one : ∀ {x : Option Operand} {x' : Option Opd}, cOO n x = some x' → (∃ k i, x'.map (ev t) = some (.int k i)) → ∃ k i, x'.map (ev t) = some (.int k i) ∧ x.map a.eval = some (.int k i) := by
    intro x x' hx ⟨k, i, h⟩
    refine ⟨k, i, h, ?_⟩
    cases x with
    | none => simp [cOO] at hx; subst hx; simp at h
    | some x =>
      simp only [cOO, Option.map_eq_some_iff] at hx
      obtain ⟨y, hy, rfl⟩ := hx
      simp only [Option.map_some, Option.some.injEq] at h ⊢
      exact rv_int (h ▸ ev_rel hg hy)
  have non : ∀ {x : Option Operand} {x' : Option Opd}, cOO n x = some x' → x'.map (ev t) = none → x.map a.eval = none := by
    intro x x' hx h
    cases x with
    | none => rfl
    | some x =>
      simp only [cOO, Option.map_eq_some_iff] at hx
      obtain ⟨y, hy, rfl⟩ := hx
      simp at h
  unfold bound at hb
  split at hb
  · rename_i k i hh
    obtain ⟨k1, i1, e1, e2⟩ := one hhi ⟨_, _, hh⟩
    rw [e1] at hh
    injection hh with hh
    injection hh with hh1 hh2
    subst hh1 hh2
    split at hb
    · rename_i hle
      split at hb
      · rename_i k2 i2 hh2
        obtain ⟨k3, i3, e3, e4⟩ := one hlo ⟨_, _, hh2⟩
        rw [e3] at hh2
        injection hh2 with hh2
        injection hh2 with hh1 hh2
        subst hh1 hh2
        split at hb
        · injection hb with hb
          injection hb with hb1 hb2
          subst hb1 hb2
          rw [e2, e4]
          refine ⟨?_, by omega, by omega⟩
          have a1 : (i1.toNat : Int) = i1 := Int.toNat_of_nonneg (by omega)
          simp [Instr.sliceBounds, run_sliceBound, hle, show i1 ≤ (cap : Int) by omega, a1, *]
        · cases hb
      · rename_i hh2
        injection hb with hb
        injection hb with hb1 hb2
        subst hb1 hb2
        rw [e2, non hlo hh2]
        refine ⟨?_, by omega, by omega⟩
        simp [Instr.sliceBounds, run_sliceBound, hle, show i1 ≤ (cap : Int) by omega]
      · cases hb
    · cases hb
  · rename_i hh
    rw [non hhi hh]
    split at hb
    · rename_i k2 i2 hh2
      obtain ⟨k3, i3, e3, e4⟩ := one hlo ⟨_, _, hh2⟩
      rw [e3] at hh2
      injection hh2 with hh2
      injection hh2 with hh1 hh2
      subst hh1 hh2
      split at hb
      · injection hb with hb
        injection hb with hb1 hb2
        subst hb1 hb2
        rw [e4]
        refine ⟨?_, by omega, by omega⟩
        simp [Instr.sliceBounds, run_sliceBound, *]
      · cases hb
    · rename_i hh2
      injection hb with hb
      injection hb with hb1 hb2
      subst hb1 hb2
      rw [non hlo hh2]
      refine ⟨?_, by omega, by omega⟩
      simp [Instr.sliceBounds]
    · cases hb
  · cases hb
theorem ok_cut {T E : TypeId} {x : Operand} {x' : Opd} {lo hi : Option Operand} {lo' hi' : Option Opd} {b q m c sz l r : Nat} (ho : o.op = .slice T x lo hi none) (hu : P.underlying T = some (.slice E)) (hs : (P.info? E).map (·.size) = some sz)
    (hx : cO n x = some x') (hlo : cOO n lo = some lo') (hhi : cOO n hi = some hi') (hp : ev t x' = .slice (some ⟨b, q, none⟩) m c) (hb : bound (lo'.map (ev t)) (hi'.map (ev t)) m = some (l, r)) (hg : RG ρ n t a) (h : RH ρ H w0 w) :
    Ok0 P o a w ρ (.slice (some ⟨b, q + l * sz, none⟩) (r - l) (if c = sz ∧ (l < r ∨ l = 0) then sz else 0)) := by
  obtain ⟨p, c', e, hc, hl⟩ := rv_slice (hp ▸ ev_rel hg hx)
  obtain ⟨hrun, hlr, hrm⟩ := run_bounds (P := P) (isS := true) (cap := c') hlo hhi hb hc hg w
  refine Ok.still h (v' := .slice (some (if c' = l then p else p.add (l * sz))) (r - l) (c' - l)) ?_ (.one (.one ?_))
  · simp only [execOp, ho, Option.map_none, Instr.sliceAt, Sem.run_bind, run_underlying hu, Result.andThen_ok, e, Instr.slice, hrun, run_sizeOf hs, Sem.run_pure]
    by_cases hcl : c' = l <;> simp [hcl]
  · by_cases h1 : l < r
    · obtain ⟨lc, hlc, hpa, ht⟩ := hl (.inl (by omega))
      rw [if_neg (show ¬ c' = l by omega), hpa, add_add]
      refine .slice _ _ _ _ _ lc hlc (by omega) fun hne => ?_
      split at hne
      · rename_i hcs
        obtain ⟨hcs, _⟩ := hcs
        rw [if_pos ⟨hcs, .inl h1⟩]
        subst hcs
        obtain ⟨t1, t2⟩ := ht hne
        refine ⟨t1, ?_⟩
        have : c' * c = (c' - l) * c + l * c := by rw [← Nat.add_mul]; congr 1; omega
        omega
      · exact absurd rfl hne
    · have h2 : r - l = 0 := by omega
      rw [h2]
      by_cases h3 : c = sz ∧ (l < r ∨ l = 0)
      · rw [if_pos h3]
        obtain ⟨h3, h4⟩ := h3
        have h4 : l = 0 := by omega
        subst h3 h4
        by_cases hc0 : c = 0
        · subst hc0
          exact .slice0 _ _ _ _
        · obtain ⟨lc, hlc, hpa, ht⟩ := hl (.inr hc0)
          subst hpa
          have : (if c' = 0 then lc.a.add q else (lc.a.add q).add (0 * c)) = lc.a.add (q + 0 * c) := by
            rw [add_add]
            split <;> simp
          rw [this]
          refine .slice _ _ _ _ _ lc hlc (by omega) fun _ => ?_
          obtain ⟨t1, t2⟩ := ht hc0
          exact ⟨t1, by simpa using t2⟩
      · rw [if_neg h3]
        exact .slice0 _ _ _ _
theorem ok_cut_nil {T E : TypeId} {x : Operand} {x' : Opd} {lo hi : Option Operand} {lo' hi' : Option Opd} {sz : Nat} (ho : o.op = .slice T x lo hi none) (hu : P.underlying T = some (.slice E)) (hs : (P.info? E).map (·.size) = some sz)
    (hx : cO n x = some x') (hlo : cOO n lo = some lo') (hhi : cOO n hi = some hi') (hp : ev t x' = .slice none 0 0) (hb : bound (lo'.map (ev t)) (hi'.map (ev t)) 0 = some (0, 0)) (hg : RG ρ n t a) (h : RH ρ H w0 w) :
    Ok0 P o a w ρ (.slice none 0 0) := by
  obtain ⟨e, _, _⟩ := rv_nil (hp ▸ ev_rel hg hx)
  obtain ⟨hrun, _, _⟩ := run_bounds (P := P) (isS := true) (cap := 0) hlo hhi hb (Nat.le_refl _) hg w
  refine Ok.still h (v' := .slice none 0 0) ?_ (.one (.one .sliceNil))
  simp [execOp, ho, Instr.sliceAt, run_underlying hu, e, Instr.slice, hrun, run_sizeOf hs]
theorem ok_cutS {T : TypeId} {x : Operand} {x' : Opd} {lo hi : Option Operand} {lo' hi' : Option Opd} {s : ByteArray} {l r : Nat} (ho : o.op = .slice T x lo hi none) (hu : P.underlying T = some .string)
    (hx : cO n x = some x') (hlo : cOO n lo = some lo') (hhi : cOO n hi = some hi') (hp : ev t x' = .string s) (hb : bound (lo'.map (ev t)) (hi'.map (ev t)) s.size = some (l, r)) (hg : RG ρ n t a) (h : RH ρ H w0 w) :
    Ok0 P o a w ρ (.string (s.extract l r)) := by
  have e := rv_string (hp ▸ ev_rel hg hx)
  obtain ⟨hrun, _, _⟩ := run_bounds (P := P) (isS := false) (cap := s.size) hlo hhi hb (Nat.le_refl _) hg w
  refine Ok.still h (v' := .string (s.extract l r)) ?_ (.one (.one (.string _)))
  simp [execOp, ho, Instr.sliceAt, run_underlying hu, e, Instr.slice, hrun]
theorem ok_cutA {T E : TypeId} {x : Operand} {x' : Opd} {lo hi : Option Operand} {lo' hi' : Option Opd} {b q m sz l r : Nat} (ho : o.op = .slice T x lo hi none) (hu : P.underlying T = some (.array m E)) (hs : (P.info? E).map (·.size) = some sz)
    (hx : cO n x = some x') (hlo : cOO n lo = some lo') (hhi : cOO n hi = some hi') (hp : ev t x' = .pointer (some ⟨b, q, none⟩)) (hb : bound (lo'.map (ev t)) (hi'.map (ev t)) m = some (l, r)) (hg : RG ρ n t a) (h : RH ρ H w0 w) :
    Ok0 P o a w ρ (.slice (some ⟨b, q + l * sz, none⟩) (r - l) 0) := by
  obtain ⟨lc, hl, e⟩ := rv_ptr (hp ▸ ev_rel hg hx)
  obtain ⟨hrun, hlr, hrm⟩ := run_bounds (P := P) (isS := false) (cap := m) hlo hhi hb (Nat.le_refl _) hg w
  refine Ok.still h (v' := .slice (some (if m = l then lc.a.add q else (lc.a.add q).add (l * sz))) (r - l) (m - l)) ?_ (.one (.one ?_))
  · simp only [execOp, ho, Option.map_none, Instr.sliceAt, Sem.run_bind, run_underlying hu, Result.andThen_ok, e, Instr.sureAddr, hrun, run_sizeOf hs, Sem.run_pure]
  · by_cases h1 : l < r
    · rw [if_neg (by omega), add_add]
      exact .slice _ _ _ _ _ lc hl (by omega) fun hne => absurd rfl hne
    · rw [show r - l = 0 by omega]
      exact .slice0 _ _ _ _
end
end Go.Proofs.Ytloeadlmcdddnaa.Abs
