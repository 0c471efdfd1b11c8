/- An abstract machine for the program's text, part 3: operations told as instructions, and that the machine does what the instruction says. -/
import Derived.Test.YtloeadlmcdddnaaA2
set_option linter.unusedVariables false
set_option linter.unusedSimpArgs false
namespace Go.Proofs.Ytloeadlmcdddnaa.Abs
open Go Go.RowKit

def okC : Value → Bool
  | .bool _ | .int _ _ | .string _ | .nilIface | .nilFunc | .pointer none | .slice none 0 0 => true
  | _ => false
theorem okC_rel {v : Value} (h : okC v = true) (ρ : Rho) : RC ρ v v := by
  match v, h with
  | .bool b, _ => exact .bool b
  | .int k n, _ => exact .int k n
  | .string s, _ => exact .string s
  | .nilIface, _ => exact .nilIface
  | .nilFunc, _ => exact .nilFunc
  | .pointer none, _ => exact .ptrNil
  | .slice none 0 0, _ => exact .sliceNil
def cO (n : Nat) : Operand → Option Opd
  | .tmp t => if t < n then some (.s t) else none
  | .const v => if okC v = true then some (.c v) else none
  | _ => none
def ev (t : Nat → Value) : Opd → Value
  | .s i => t i
  | .c v => v
structure RG (ρ : Rho) (n : Nat) (t : Nat → Value) (a : Act) : Prop where
  size : a.tmps.size = n
  val : ∀ i, i < n → RV ρ (t i) (a.tmps.getD i undef)
theorem ev_rel {ρ : Rho} {n : Nat} {t : Nat → Value} {a : Act} (h : RG ρ n t a) {x : Operand} {x' : Opd} (hc : cO n x = some x') : RV ρ (ev t x') (a.eval x) := by
  match x, hc with
  | .tmp i, hc =>
    simp only [cO] at hc
    split at hc
    · injection hc with hc
      subst hc
      exact h.val i (by assumption)
    · cases hc
  | .const v, hc =>
    simp only [cO] at hc
    split at hc
    · injection hc with hc
      subst hc
      exact .one (.one (okC_rel (by assumption) ρ))
    · cases hc
/-- The operation ends as told. -/
def Ok (P : Program) (o : Oper) (a : Act) (w : World) (ρ : Rho) (v : Value) (H' : Hp) (w0 : World) : Prop :=
  ∃ ρ' v' w', ((execOp a.eval o).run P w = .ok (.value v') w' ∨ ((execOp a.eval o).run P w = .ok .skip w' ∧ v' = undef)) ∧ Ext ρ ρ' ∧ RV ρ' v v' ∧ RH ρ' H' w0 w'
/-- The operation ends as told, and the world stands. -/
def Ok0 (P : Program) (o : Oper) (a : Act) (w : World) (ρ : Rho) (v : Value) : Prop := ∃ v', (execOp a.eval o).run P w = .ok (.value v') w ∧ RV ρ v v'
theorem Ok.still {P : Program} {o : Oper} {a : Act} {w w0 : World} {ρ : Rho} {v v' : Value} {H : Hp} (h : RH ρ H w0 w) (hr : (execOp a.eval o).run P w = .ok (.value v') w) (hv : RV ρ v v') : Ok0 P o a w ρ v := ⟨v', hr, hv⟩
theorem Ok0.ok {P : Program} {o : Oper} {a : Act} {w w0 : World} {ρ : Rho} {v : Value} {H : Hp} (h0 : Ok0 P o a w ρ v) (h : RH ρ H w0 w) : Ok P o a w ρ v H w0 :=
  let ⟨v', hr, hv⟩ := h0
  ⟨ρ, v', w, .inl hr, Ext.refl _, hv, h⟩

/-! what a related value looks like -/
theorem rv_bool {ρ : Rho} {b : Bool} {v : Value} (h : RV ρ (.bool b) v) : v = .bool b := by
  cases h with | one h => cases h with | one h => cases h; rfl
theorem rv_int {ρ : Rho} {k : IntKind} {n : Int} {v : Value} (h : RV ρ (.int k n) v) : v = .int k n := by
  cases h with | one h => cases h with | one h => cases h; rfl
theorem rv_string {ρ : Rho} {s : ByteArray} {v : Value} (h : RV ρ (.string s) v) : v = .string s := by
  cases h with | one h => cases h with | one h => cases h; rfl
theorem rv_ptr {ρ : Rho} {b o : Nat} {v : Value} (h : RV ρ (.pointer (some ⟨b, o, none⟩)) v) : ∃ l, ρ b = some l ∧ v = .pointer (some (l.a.add o)) := by
  cases h with | one h => cases h with | one h => cases h with | ptr b o l h => exact ⟨l, h, rfl⟩
theorem rv_ptr_some {ρ : Rho} {p : Addr} {v : Value} (h : RV ρ (.pointer (some p)) v) : ∃ q, v = .pointer (some q) := by
  cases h with | one h => cases h with | one h => cases h with | ptr b o l h => exact ⟨_, rfl⟩
theorem rv_ptr_none {ρ : Rho} {v : Value} (h : RV ρ (.pointer none) v) : v = .pointer none := by
  cases h with | one h => cases h with | one h => cases h; rfl
theorem rv_nil {ρ : Rho} {n c : Nat} {v : Value} (h : RV ρ (.slice none n c) v) : v = .slice none 0 0 ∧ n = 0 ∧ c = 0 := by
  cases h with | one h => cases h with | one h => cases h; exact ⟨rfl, rfl, rfl⟩
theorem rv_slice {ρ : Rho} {b o n c : Nat} {v : Value} (h : RV ρ (.slice (some ⟨b, o, none⟩) n c) v) :
    ∃ a c', v = .slice (some a) n c' ∧ n ≤ c' ∧ (0 < n ∨ c ≠ 0 → ∃ l, ρ b = some l ∧ a = l.a.add o ∧ (c ≠ 0 → l.sz = c ∧ c' * c + o = l.cap * c)) := by
  cases h with | one h => cases h with | one h => cases h with
    | slice b o n c c' l h hn ht => exact ⟨_, _, rfl, hn, fun _ => ⟨l, h, rfl, ht⟩⟩
    | slice0 b o c' a => exact ⟨_, _, rfl, Nat.zero_le _, fun hh => by omega⟩
theorem rv_slice_some {ρ : Rho} {p : Addr} {n c : Nat} {v : Value} (h : RV ρ (.slice (some p) n c) v) : ∃ a c', v = .slice (some a) n c' := by
  cases h with | one h => cases h with | one h => cases h with
    | slice b o n c c' l h hn ht => exact ⟨_, _, rfl⟩
    | slice0 b o c' a => exact ⟨_, _, rfl⟩
theorem rv_agg {ρ : Rho} {xs : Array Value} {v : Value} (h : RV ρ (.agg xs) v) : ∃ ys : List Value, v = .agg ys.toArray ∧ All2 (RC ρ) xs.toList ys := by
  generalize hu : Value.agg xs = u at h
  cases h with
  | one h =>
    cases h with
    | one h => subst hu; cases h
    | agg h =>
      injection hu with hu
      subst hu
      exact ⟨_, rfl, by simpa using h⟩
  | tuple h => cases hu
theorem rv_tuple {ρ : Rho} {xs : Array Value} {v : Value} (h : RV ρ (.tuple xs) v) : ∃ ys : List Value, v = .tuple ys.toArray ∧ All2 (RT ρ) xs.toList ys := by
  generalize hu : Value.tuple xs = u at h
  cases h with
  | one h =>
    cases h with
    | one h => subst hu; cases h
    | agg h => cases hu
  | tuple h =>
    injection hu with hu
    subst hu
    exact ⟨_, rfl, by simpa using h⟩
theorem rv_undef (ρ : Rho) : RV ρ undef undef := .tuple .nil
theorem RC.cell {ρ : Rho} {u v : Value} (h : RC ρ u v) : cellsOf u = [u] ∧ v.cells = #[v] := by cases h <;> exact ⟨rfl, rfl⟩
theorem RC.oneCell {ρ : Rho} {u v : Value} (h : RC ρ u v) : v.oneCell' = true := by cases h <;> rfl
theorem rt_cells {ρ : Rho} {u v : Value} (h : RT ρ u v) : All2 (RC ρ) (cellsOf u) v.cells.toList := by
  cases h with
  | one h => rw [h.cell.1, h.cell.2]; exact .cons h .nil
  | agg h => simpa [cellsOf, Value.cells] using h

section
variable {P : Program} {o : Oper} {a : Act} {n : Nat} {t : Nat → Value} {w w0 : World} {ρ : Rho} {H : Hp}
theorem ok_mov {x : Operand} {x' : Opd} (ho : o.op = .move x ∨ o.op = .assign x) (hc : cO n x = some x') (hg : RG ρ n t a) (h : RH ρ H w0 w) : Ok0 P o a w ρ (ev t x') :=
  Ok.still h (by rcases ho with ho | ho <;> simp [execOp, ho]) (ev_rel hg hc)
theorem ok_pick {c x y : Operand} {c' x' y' : Opd} {b : Bool} (ho : o.op = .pick c x y) (hc : cO n c = some c') (hx : cO n x = some x') (hy : cO n y = some y') (hb : ev t c' = .bool b) (hg : RG ρ n t a) (h : RH ρ H w0 w) :
    Ok0 P o a w ρ (if b = true then ev t x' else ev t y') := by
  have h1 := rv_bool (hb ▸ ev_rel hg hc)
  refine Ok.still h (v' := if b = true then a.eval x else a.eval y) ?_ ?_
  · simp [execOp, ho, h1, asBool]
  · cases b
    · exact ev_rel hg hy
    · exact ev_rel hg hx
theorem ok_ext {x : Operand} {x' : Opd} {j : Nat} {vs : Array Value} {v : Value} (ho : o.op = .extract x j) (hc : cO n x = some x') (hx : ev t x' = .tuple vs) (hv : vs.toList[j]? = some v) (hg : RG ρ n t a) (h : RH ρ H w0 w) : Ok0 P o a w ρ v := by
  obtain ⟨ys, hy, hr⟩ := rv_tuple (hx ▸ ev_rel hg hc)
  obtain ⟨u, hu, hR⟩ := hr.get j v hv
  refine Ok.still h (v' := u) ?_ (.one hR)
  simp [execOp, ho, hy, Instr.extract, hu]
theorem ok_un {op : UnOp} {T : TypeId} {x : Operand} {x' : Opd} {v : Value} (ho : o.op = .unOp op T x) (hc : cO n x = some x') (hv : aUn op (ev t x') = some v) (hg : RG ρ n t a) (h : RH ρ H w0 w) : Ok0 P o a w ρ v := by
  have hr := ev_rel hg hc
  generalize ev t x' = u at hv hr
  unfold aUn at hv
  split at hv
  · rename_i k m
    have := rv_int hr
    split at hv
    · injection hv with hv
      subst hv
      exact Ok.still h (by simp [execOp, ho, this, Op.unary, Op.intArith]) (.one (.one (.int _ _)))
    · injection hv with hv
      subst hv
      exact Ok.still h (by simp [execOp, ho, this, Op.unary, Op.intBits, bits]) (.one (.one (.int _ _)))
    · cases hv
  · rename_i b
    have := rv_bool hr
    split at hv
    · injection hv with hv
      subst hv
      exact Ok.still h (by simp [execOp, ho, this, Op.unary]) (.one (.one (.bool _)))
    · cases hv
  · cases hv
theorem ok_conv {s d : TypeId} {k : IntKind} {x : Operand} {x' : Opd} {j : IntKind} {m : Int} (ho : o.op = .convert s d x) (hs : (P.underlying s).isSome = true) (hd : P.underlying d = some (.int k)) (hc : cO n x = some x') (hx : ev t x' = .int j m) (hg : RG ρ n t a) (h : RH ρ H w0 w) :
    Ok0 P o a w ρ (.int k (k.wrap m)) := by
  have h1 := rv_int (hx ▸ ev_rel hg hc)
  obtain ⟨u, hu⟩ := Option.isSome_iff_exists.mp hs
  refine Ok.still h ?_ (.one (.one (.int _ _)))
  simp [execOp, ho, h1, convert, run_underlying hu, run_underlying hd, Conv.intToInt]
theorem run_aInt {op : BinOp} {T : TypeId} {k : IntKind} {x y : Int} {v : Value} (hs : op ≠ .shl ∧ op ≠ .shr) (hv : aInt op k x y = some v) (w : World) : (binOp op T (.int k x) (.int k y)).run P w = .ok v w := by
  cases op <;> simp [aInt] at hv <;> simp at hs <;> first
    | (subst hv; simp [binOp, Op.intArith, Op.intCmp, Op.intBits, bits]; done)
    | (obtain ⟨h0, hv⟩ := hv; subst hv; simp [binOp, Op.intDiv, h0]; done)
theorem run_aShift {op : BinOp} {T : TypeId} {k j : IntKind} {x y : Int} {v : Value} (hs : op = .shl ∨ op = .shr) (hv : aShift op k x y = some v) (w : World) : (binOp op T (.int k x) (.int j y)).run P w = .ok v w := by
  unfold aShift at hv
  split at hv
  · cases hv
  · rename_i h0
    rcases hs with rfl | rfl
    · injection hv with hv
      subst hv
      simp [binOp, Op.shift, h0]
    · injection hv with hv
      subst hv
      simp [binOp, Op.shift, h0]
theorem run_aStr {op : BinOp} {T : TypeId} {x y : ByteArray} {v : Value} (hv : aStr op x y = some v) (w : World) : (binOp op T (.string x) (.string y)).run P w = .ok v w := by
  cases op <;> simp [aStr] at hv
  case add =>
    obtain ⟨h0, hv⟩ := hv
    subst hv
    have : ¬ (IntKind.i64.max < (x.size : Int) + (y.size : Int)) := by simp [IntKind.max, IntKind.signed, IntKind.bits]; omega
    simp only [binOp, Op.stringOp, Int.natCast_add, gt_iff_lt, if_neg this]
    rfl
  all_goals
    subst hv
    simp [binOp, Op.stringOp]
end
end Go.Proofs.Ytloeadlmcdddnaa.Abs
