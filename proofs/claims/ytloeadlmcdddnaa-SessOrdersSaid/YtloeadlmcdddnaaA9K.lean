/- An abstract machine for the program's text, part 9K: '==' of structs and arrays, also of such in such. -/
import Derived.Test.YtloeadlmcdddnaaA9
import Derived.DeepKeys
set_option linter.unusedVariables false
set_option linter.unusedSimpArgs false
namespace Go.Proofs.Ytloeadlmcdddnaa.Abs
open Go Go.RowKit
def kindsF (P : Program) (g : TypeId → Option (List Nat)) : List Field → Nat → Option (List Nat)
  | [], _ => some []
  | f :: fs, off => if f.name != "_" && f.offset == off then match g f.type with
      | some ks => if P.cellsOf f.type = ks.length then (kindsF P g fs (off + ks.length)).map (ks ++ ·) else none
      | none => none
    else none
/-- The kinds of a type's cells, if all of them are simple. -/
def kindsT (P : Program) : Nat → TypeId → Option (List Nat)
  | 0, _ => none
  | d + 1, T => match P.underlying T with
    | some .bool => some [1]
    | some .string => some [2]
    | some (.int _) => some [5]
    | some (.array n e) => match kindsT P d e with
      | some ks => if P.cellsOf e = ks.length ∧ (P.info? e).isSome = true ∧ n * ks.length ≤ 4096 then some (List.replicate n ks).flatten else none
      | none => none
    | some (.struct fs) => if P.stoodInHeld T = false then kindsF P (kindsT P d) fs.toList 0 else none
    | _ => none
def deepKinds (P : Program) (T : TypeId) : Option (List Nat) :=
  match P.underlying T with
  | some (.struct _) | some (.array _ _) => if P.eqGuardType P.depth T = false then kindsT P 9 T else none
  | _ => none
section
variable {P : Program} {o : Oper} {a : Act} {n : Nat} {t : Nat → Value} {w w0 : World} {ρ : Rho} {H : Hp}
def valOf (P : Program) (T : TypeId) (cs : List Value) : Value :=
  match isRowT P T with
  | some true => .agg cs.toArray
  | _ => cs.headD undef
theorem eqL_len : ∀ {ks : List Nat} {us vs : List Value} {b : Bool}, eqL ks us vs = some b → us.length = ks.length ∧ vs.length = ks.length
  | [], [], [], _, _ => ⟨rfl, rfl⟩
  | [], _ :: _, _, _, h => by simp [eqL] at h
  | [], [], _ :: _, _, h => by simp [eqL] at h
  | _ :: _, [], _, _, h => by simp [eqL] at h
  | _ :: _, _ :: _, [], _, h => by simp [eqL] at h
  | k :: ks, u :: us, v :: vs, b, h => by
    simp only [eqL] at h
    split at h
    · rename_i b1 b2 h1 h2
      obtain ⟨e1, e2⟩ := eqL_len h2
      simp [e1, e2]
    · cases h
theorem eqL_app : ∀ {k1 k2 : List Nat} {us vs : List Value} {b : Bool}, eqL (k1 ++ k2) us vs = some b → ∃ b1 b2, eqL k1 (us.take k1.length) (vs.take k1.length) = some b1 ∧ eqL k2 (us.drop k1.length) (vs.drop k1.length) = some b2 ∧ b = (b1 && b2)
  | [], k2, us, vs, b, h => ⟨true, b, rfl, by simpa using h, by simp⟩
  | k :: k1, k2, us, vs, b, h => by
    cases us with
    | nil => simp [eqL] at h
    | cons u us => cases vs with
      | nil => simp [eqL] at h
      | cons v vs =>
        simp only [List.cons_append, eqL] at h
        split at h
        · rename_i b1 b2 h1 h2
          injection h with h
          subst h
          obtain ⟨c1, c2, e1, e2, rfl⟩ := eqL_app h2
          refine ⟨b1 && c1, c2, ?_, by simpa using e2, by simp [Bool.and_assoc]⟩
          simp [eqL, h1, e1]
        · cases h
/-- Values of a type are compared as their cells are. -/
def EqT (P : Program) (ρ : Rho) (m : Nat) (T : TypeId) (ks : List Nat) : Prop :=
  ∀ (w : World) (us vs us' vs' : List Value) (b : Bool), eqL ks us vs = some b → All2 (RC ρ) us us' → All2 (RC ρ) vs vs' → (Op.equalIn m T (valOf P T us') (valOf P T vs')).run P w = .ok b w
theorem run_part {T : TypeId} {xs : Array Value} {off : Nat} {tb : Bool} (hr : isRowT P T = some tb) (hc : tb = false → P.cellsOf T = 1 ∧ off < xs.size) (w : World) : (part T xs off).run P w = .ok (valOf P T ((xs.toList.drop off).take (P.cellsOf T))) w := by
  have hr' := hr
  unfold isRowT at hr
  have agg : ∀ {k : TypeDesc}, P.underlying T = some k → isRowT P T = some true → (part T xs off).run P w = .ok (valOf P T ((xs.toList.drop off).take (P.cellsOf T))) w := by
    intro k hu hrow
    obtain ⟨i, hi⟩ := info_of_underlying hu
    have hl : (xs.extract off (off + P.cellsOf T)) = ((xs.toList.drop off).take (P.cellsOf T)).toArray := by
      apply Array.ext'
      rw [Array.toList_extract]
      simp [List.extract]
    have hs : (sizeOf T).run P w = .ok (P.cellsOf T) w := Go.run_sizeOf w hi
    simp only [valOf, hrow, ← hl]
    simp [part, run_isAgg hrow, hs]
  cases tb with
  | true =>
    cases hu : P.underlying T with
    | none => rw [hu] at hr; cases hr
    | some k => exact agg hu hr'
  | false =>
    obtain ⟨hone, hlt⟩ := hc rfl
    have e : (xs.toList.drop off).take 1 = [xs[off]] := by
      rw [List.drop_eq_getElem_cons (by simpa using hlt)]
      simp
    rw [hone]
    simp only [valOf, hr', e, List.headD_cons]
    simp [part, run_isAgg hr', hlt]
theorem fields_run {g : TypeId → Option (List Nat)} {m : Nat} (hg : ∀ T ks, g T = some ks → EqT P ρ m T ks ∧ ∃ tb, isRowT P T = some tb ∧ (tb = false → ks.length = 1)) (xs ys : Array Value) (w : World) : ∀ (fs : List Field) (off : Nat) (ks : List Nat) (us vs : List Value) (b : Bool), kindsF P g fs off = some ks → eqL ks us vs = some b →
    All2 (RC ρ) us (xs.toList.drop off) → All2 (RC ρ) vs (ys.toList.drop off) → (Op.eqFields m xs ys fs).run P w = .ok b w
  | [], off, ks, us, vs, b, hk, he, hx, hy => by
    injection hk with hk
    subst hk
    obtain ⟨h1, h2⟩ := eqL_len he
    obtain rfl := List.eq_nil_of_length_eq_zero h1
    obtain rfl := List.eq_nil_of_length_eq_zero h2
    injection he with he
    subst he
    simp [Op.eqFields]
  | f :: fs, off, ks, us, vs, b, hk, he, hx, hy => by
    simp only [kindsF] at hk
    split at hk
    · rename_i hn
      simp only [Bool.and_eq_true, bne_iff_ne, ne_eq, beq_iff_eq] at hn
      obtain ⟨hn, ho⟩ := hn
      split at hk
      · rename_i k1 hk1
        split at hk
        · rename_i hc
          obtain ⟨k2, hk2, rfl⟩ := Option.map_eq_some_iff.1 hk
          obtain ⟨b1, b2, e1, e2, rfl⟩ := eqL_app he
          obtain ⟨hE, tb, htb, hone⟩ := hg _ _ hk1
          obtain ⟨l1, l2⟩ := eqL_len he
          have lx := hx.length
          have ly := hy.length
          rw [List.length_append] at l1 l2
          rw [List.length_drop] at lx ly
          have lxs : xs.toList.length = xs.size := by simp
          have lys : ys.toList.length = ys.size := by simp
          have px := run_part (P := P) (xs := xs) (off := off) htb (fun h => ⟨by rw [hc]; exact hone h, by have := hone h; omega⟩) w
          have py := run_part (P := P) (xs := ys) (off := off) htb (fun h => ⟨by rw [hc]; exact hone h, by have := hone h; omega⟩) w
          rw [hc] at px py
          have h1 := hE w _ _ _ _ b1 e1 (hx.take k1.length) (hy.take k1.length)
          have dx := hx.drop k1.length
          have dy := hy.drop k1.length
          rw [List.drop_drop] at dx dy
          have ih := fields_run hg xs ys w fs (off + k1.length) k2 _ _ b2 hk2 e2 dx dy
          rw [Op.eqFields]
          simp only [if_pos hn, Sem.run_bind, ho, px, py, h1, Result.andThen_ok]
          cases b1
          · simp
          · simpa using ih
        · cases hk
      · cases hk
    · cases hk
theorem items_run {e : TypeId} {m : Nat} {ks : List Nat} (hE : EqT P ρ m e ks) {tb : Bool} (htb : isRowT P e = some tb) (hone : tb = false → ks.length = 1) (hc : P.cellsOf e = ks.length) (xs ys : Array Value) (w : World) : ∀ (k i : Nat) (us vs : List Value) (b : Bool), eqL (List.replicate k ks).flatten us vs = some b →
    All2 (RC ρ) us (xs.toList.drop (i * ks.length)) → All2 (RC ρ) vs (ys.toList.drop (i * ks.length)) → (Op.eqItems m e (P.cellsOf e) xs ys (List.range' i k)).run P w = .ok b w
  | 0, i, us, vs, b, he, hx, hy => by
    obtain ⟨h1, h2⟩ := eqL_len he
    obtain rfl := List.eq_nil_of_length_eq_zero h1
    obtain rfl := List.eq_nil_of_length_eq_zero h2
    injection he with he
    subst he
    simp [Op.eqItems]
  | k + 1, i, us, vs, b, he, hx, hy => by
    rw [List.replicate_succ, List.flatten_cons] at he
    obtain ⟨l1, l2⟩ := eqL_len he
    obtain ⟨b1, b2, e1, e2, rfl⟩ := eqL_app he
    have lx := hx.length
    have ly := hy.length
    rw [List.length_append] at l1 l2
    rw [List.length_drop] at lx ly
    have lxs : xs.toList.length = xs.size := by simp
    have lys : ys.toList.length = ys.size := by simp
    have px := run_part (P := P) (xs := xs) (off := i * ks.length) htb (fun h => ⟨by rw [hc]; exact hone h, by have := hone h; omega⟩) w
    have py := run_part (P := P) (xs := ys) (off := i * ks.length) htb (fun h => ⟨by rw [hc]; exact hone h, by have := hone h; omega⟩) w
    rw [hc] at px py
    have h1 := hE w _ _ _ _ b1 e1 (hx.take ks.length) (hy.take ks.length)
    have dx := hx.drop ks.length
    have dy := hy.drop ks.length
    rw [List.drop_drop, show i * ks.length + ks.length = (i + 1) * ks.length by rw [Nat.add_mul, Nat.one_mul]] at dx dy
    have ih := items_run hE htb hone hc xs ys w k (i + 1) _ _ b2 e2 dx dy
    rw [List.range'_succ, Op.eqItems]
    simp only [Sem.run_bind, hc, px, py, h1, Result.andThen_ok]
    rw [hc] at ih
    cases b1
    · simp
    · simpa using ih
theorem kinds_run : ∀ (d : Nat) (T : TypeId) (ks : List Nat), kindsT P d T = some ks → (∀ m, EqT P ρ (m + d) T ks) ∧ ∃ tb, isRowT P T = some tb ∧ (tb = false → ks.length = 1)
  | 0, T, ks, h => by cases h
  | d + 1, T, ks, h => by
    unfold kindsT at h
    have one : ∀ {k : Nat} {q : TypeDesc}, P.underlying T = some q → isRowT P T = some false → ks = [k] → (∀ (m : Nat) (w : World) (u v u' v' : Value) (b : Bool), eqV k u v = some b → RC ρ u u' → RC ρ v v' → (Op.equalIn (m + (d + 1)) T u' v').run P w = .ok b w) → (∀ m, EqT P ρ (m + (d + 1)) T ks) ∧ ∃ tb, isRowT P T = some tb ∧ (tb = false → ks.length = 1) := by
      intro k q hu hrow hks hone
      subst hks
      refine ⟨fun m w us vs us' vs' b he hx hy => ?_, false, hrow, fun _ => rfl⟩
      obtain ⟨l1, l2⟩ := eqL_len he
      cases hx with
      | nil => simp at l1
      | cons ru su => cases hy with
        | nil => simp at l2
        | cons rv sv =>
          simp only [eqL] at he
          split at he
          · rename_i b1 b2 h1 h2
            injection he with he
            cases su with
            | cons _ _ => simp at l1
            | nil => cases sv with
              | cons _ _ => simp at l2
              | nil =>
                injection h2 with h2
                subst h2
                rw [Bool.and_true] at he
                subst he
                simp only [valOf, hrow, List.headD_cons]
                exact hone m w _ _ _ _ _ h1 ru rv
          · cases he
    split at h
    · rename_i hu
      injection h with h
      refine one hu (by simp [isRowT, hu]) h.symm fun m w u v u' v' b he ru rv => ?_
      unfold eqV at he
      split at he
      · split at he
        · rename_i hc; exact absurd hc.1 (by decide)
        · cases he
      · injection he with he
        subst he
        cases ru; cases rv
        exact run_equalIn_bool w (m + d) T _ _ hu
      · cases he
      · cases he
    · rename_i hu
      injection h with h
      refine one hu (by simp [isRowT, hu]) h.symm fun m w u v u' v' b he ru rv => ?_
      unfold eqV at he
      split at he
      · split at he
        · rename_i hc; exact absurd hc.1 (by decide)
        · cases he
      · cases he
      · injection he with he
        subst he
        cases ru; cases rv
        rw [beq_toListBytes]
        exact run_equalIn_string w (m + d) T _ _ hu
      · cases he
    · rename_i q hu
      injection h with h
      refine one hu (by simp [isRowT, hu]) h.symm fun m w u v u' v' b he ru rv => ?_
      unfold eqV at he
      split at he
      · split at he
        · rename_i hc
          obtain ⟨_, rfl⟩ := hc
          injection he with he
          subst he
          cases ru; cases rv
          exact run_equalIn_int w (m + d) T _ q _ _ hu
        · cases he
      · cases he
      · cases he
      · cases he
    · rename_i k e hu
      split at h
      · rename_i k1 hk1
        split at h
        · rename_i hc
          obtain ⟨hc, hi, _⟩ := hc
          injection h with h
          subst h
          obtain ⟨hE, tb, htb, hone⟩ := kinds_run d e k1 hk1
          obtain ⟨i, hi⟩ := Option.isSome_iff_exists.1 hi
          have hrow : isRowT P T = some true := by simp [isRowT, hu]
          refine ⟨fun m w us vs us' vs' b he hx hy => ?_, true, hrow, fun h => by cases h⟩
          simp only [valOf, hrow]
          rw [show m + (d + 1) = (m + d) + 1 from rfl, run_equalIn_array w (m + d) _ _ hu hi, List.range_eq_range']
          exact items_run (hE m) htb hone hc _ _ w k 0 us vs b he (by simpa using hx) (by simpa using hy)
        · cases h
      · cases h
    · rename_i fs hu
      split at h
      · rename_i hst
        have hrow : isRowT P T = some true := by simp [isRowT, hu]
        refine ⟨fun m w us vs us' vs' b he hx hy => ?_, true, hrow, fun h => by cases h⟩
        have hf : P.fieldsOf T = fs := by simp [Program.fieldsOf, hu]
        simp only [valOf, hrow]
        rw [show m + (d + 1) = (m + d) + 1 from rfl, run_equalIn_struct (P := P) w (m + d) T _ _ (by rw [hf]; exact hu) hst, hf]
        exact fields_run (g := kindsT P d) (fun T ks hk => ⟨(kinds_run d T ks hk).1 m, (kinds_run d T ks hk).2⟩) _ _ w fs.toList 0 ks us vs b h he (by simpa using hx) (by simpa using hy)
      · cases h
    · cases h
theorem ok_eqD {op : BinOp} {T yT : TypeId} {x y : Operand} {x' y' : Opd} {ks : List Nat} {xs ys : Array Value} {b : Bool} (ho : o.op = .binOp op T x y yT) (hop : op = .eql ∨ op = .neq) (hk : deepKinds P T = some ks) (hx : cO n x = some x') (hy : cO n y = some y') (h1 : ev t x' = .agg xs) (h2 : ev t y' = .agg ys) (he : eqL ks xs.toList ys.toList = some b) (hg : RG ρ n t a) (h : RH ρ H w0 w) :
    Ok0 P o a w ρ (.bool (if op = .neq then !b else b)) := by
  obtain ⟨us, e1, hu⟩ := rv_agg (h1 ▸ ev_rel hg hx)
  obtain ⟨vs, e2, hv⟩ := rv_agg (h2 ▸ ev_rel hg hy)
  have hT : P.eqGuardType P.depth T = false ∧ kindsT P 9 T = some ks ∧ isRowT P T = some true := by
    unfold deepKinds at hk
    split at hk
    · rename_i hu
      split at hk
      · rename_i hc; exact ⟨hc, hk, by simp [isRowT, hu]⟩
      · cases hk
    · rename_i hu
      split at hk
      · rename_i hc; exact ⟨hc, hk, by simp [isRowT, hu]⟩
      · cases hk
    · cases hk
  obtain ⟨c2, hkd, hrow⟩ := hT
  have heq := (kinds_run (ρ := ρ) 9 T ks hkd).1 9991 w _ _ _ _ b he hu hv
  simp only [valOf, hrow] at heq
  have hq : (eqGuard op T x y (.agg us.toArray) (.agg vs.toArray)).run P w = .ok () w := run_eqGuard_agg w op T x y _ _ c2
  refine Ok.still h (v' := .bool (if op = .neq then !b else b)) ?_ (.one (.one (.bool _)))
  simp only [execOp, ho, e1, e2, Sem.run_bind, hq, Result.andThen_ok]
  rcases hop with rfl | rfl
  · simp only [run_eql_struct, heq, Result.andThen_ok, Sem.run_pure]
    rfl
  · simp only [run_neq_struct, heq, Result.andThen_ok, Sem.run_pure]
    rfl
end
end Go.Proofs.Ytloeadlmcdddnaa.Abs
