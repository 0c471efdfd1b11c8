/- What a law is handed, in plain words. -/
import Derived.Test.YtloeadlmcdddnaaN1
import Derived.KernelRfl
set_option linter.unusedVariables false
set_option linter.unusedSimpArgs false
namespace Go.Proofs.Ytloeadlmcdddnaa.Abs
open Go Go.RowKit
theorem aMax {P : Program} {R : Tm → Hp → Prop} {t : Tm} {H : Hp} {d : Option Nat} {x y : Opd} {k : IntKind} {a b : Int} (hx : ev t x = .int k a) (hy : ev t y = .int k b) (kk : R (upd t d (.int k (if a < b then b else a))) H) : aStep P ⟨d, .minmax true x y, none⟩ R t H := ⟨_, H, by simp only [aI, hx, hy, if_true], kk⟩
theorem aMin {P : Program} {R : Tm → Hp → Prop} {t : Tm} {H : Hp} {d : Option Nat} {x y : Opd} {k : IntKind} {a b : Int} (hx : ev t x = .int k a) (hy : ev t y = .int k b) (kk : R (upd t d (.int k (if b < a then b else a))) H) : aStep P ⟨d, .minmax false x y, none⟩ R t H := ⟨_, H, by simp only [aI, hx, hy, if_true, Bool.false_eq_true, if_false], kk⟩
section
variable {P : Program} {H : Hp} {B D : Nat}
theorem datV_row {T : TypeId} {x : Value} (hr : isRowT P T = some true) (h : datV P H B D T x) : ∃ us : List Value, x = .agg us.toArray ∧ dat P H B D T us := by
  unfold datV at h
  rwa [hr] at h
theorem datV_cell {T : TypeId} {x : Value} (hr : isRowT P T = some false) (h : datV P H B D T x) : dat P H B D T [x] := by
  unfold datV at h
  rwa [hr] at h
theorem dat_int {T : TypeId} {k : IntKind} {us : List Value} (hu : P.underlying T = some (.int k)) (h : dat P H B (D + 1) T us) : ∃ n, us = [.int k n] ∧ (Lit.int k n).wf = true := by
  unfold dat at h
  rwa [hu] at h
theorem dat_bool {T : TypeId} {us : List Value} (hu : P.underlying T = some .bool) (h : dat P H B (D + 1) T us) : ∃ b, us = [.bool b] := by
  unfold dat at h
  rwa [hu] at h
theorem dat_string {T : TypeId} {us : List Value} (hu : P.underlying T = some .string) (h : dat P H B (D + 1) T us) : ∃ s : ByteArray, us = [.string s] ∧ s.size ≤ 140737488351232 ∧ s.size ≤ B := by
  unfold dat at h
  rwa [hu] at h
theorem arg_int {T : TypeId} {k : IntKind} {x : Value} (hu : P.underlying T = some (.int k)) (h : datV P H B (D + 1) T x) : ∃ n, x = .int k n ∧ (Lit.int k n).wf = true := by
  obtain ⟨n, hn, hw⟩ := dat_int hu (datV_cell (by simp [isRowT, hu]) h)
  injection hn with hn
  exact ⟨n, hn, hw⟩
theorem arg_bool {T : TypeId} {x : Value} (hu : P.underlying T = some .bool) (h : datV P H B (D + 1) T x) : ∃ b, x = .bool b := by
  obtain ⟨b, hb⟩ := dat_bool hu (datV_cell (by simp [isRowT, hu]) h)
  injection hb with hb
  exact ⟨b, hb⟩
theorem arg_string {T : TypeId} {x : Value} (hu : P.underlying T = some .string) (h : datV P H B (D + 1) T x) : ∃ s : ByteArray, x = .string s ∧ s.size ≤ 140737488351232 ∧ s.size ≤ B := by
  obtain ⟨b, hb, h1⟩ := dat_string hu (datV_cell (by simp [isRowT, hu]) h)
  injection hb with hb
  exact ⟨b, hb, h1⟩
/-- A slice: its cells, and each element's. -/
theorem dat_slice {T e : TypeId} {c : Nat} {x : Value} (hu : P.underlying T = some (.slice e)) (hc : P.cellsOf e = c) (h : dat P H B (D + 1) T [x]) : ∃ n cs, Sl H c n cs x ∧ n * P.bytesOf e ≤ 140737488351232 ∧ n ≤ B ∧ ∀ i, i < n → dat P H B D e ((cs.drop (i * c)).take c) := by
  unfold dat at h
  rw [hu] at h
  subst hc
  rcases h with h | ⟨b, h⟩ | ⟨b, n, k, h, hn, hk, hrw, hl, hb, hB, hd⟩
  · injection h with h
    exact ⟨0, [], ⟨by simp, .inl ⟨rfl, .inl h⟩⟩, by simp, Nat.zero_le _, fun i hi => by omega⟩
  · injection h with h
    exact ⟨0, [], ⟨by simp, .inl ⟨rfl, .inr ⟨b, 0, 0, h⟩⟩⟩, by simp, Nat.zero_le _, fun i hi => by omega⟩
  · injection h with h
    refine ⟨n, k.cells, ⟨hl, .inr ⟨hn, b, 0, 0, h, ?_⟩⟩, hb, hB, hd⟩
    rw [get_of hk (by omega), List.drop_zero, List.take_of_length_le (by omega)]
theorem arg_slice {T e : TypeId} {c : Nat} {x : Value} (hu : P.underlying T = some (.slice e)) (hc : P.cellsOf e = c) (h : datV P H B (D + 1) T x) : ∃ n cs, Sl H c n cs x ∧ n * P.bytesOf e ≤ 140737488351232 ∧ n ≤ B ∧ ∀ i, i < n → dat P H B D e ((cs.drop (i * c)).take c) :=
  dat_slice hu hc (datV_cell (by simp [isRowT, hu]) h)
theorem ints_of {e : TypeId} {k : IntKind} (he : P.underlying e = some (.int k)) : ∀ (n : Nat) (cs : List Value), cs.length = n → (∀ i, i < n → dat P H B (D + 1) e ((cs.drop i).take 1)) → ∃ xs : List Int, cs = xs.map (Value.int k) ∧ ∀ z ∈ xs, (Lit.int k z).wf = true
  | 0, cs, hl, _ => ⟨[], List.eq_nil_of_length_eq_zero hl, fun z hz => by cases hz⟩
  | n + 1, [], hl, _ => by cases hl
  | n + 1, c :: cs, hl, h => by
    obtain ⟨z, hz, hw⟩ := dat_int he (h 0 (by omega))
    obtain ⟨xs, rfl, hx⟩ := ints_of he n cs (by simpa using hl) fun i hi => by simpa using h (i + 1) (by omega)
    simp at hz
    subst hz
    exact ⟨z :: xs, rfl, fun y hy => by rcases List.mem_cons.1 hy with rfl | hy; exact hw; exact hx y hy⟩
/-- A slice of numbers. -/
theorem dat_ints {T e : TypeId} {k : IntKind} {x : Value} (hu : P.underlying T = some (.slice e)) (he : P.underlying e = some (.int k)) (hc : P.cellsOf e = 1) (h : dat P H B (D + 2) T [x]) : ∃ xs : List Int, Sl H 1 xs.length (xs.map (Value.int k)) x ∧ (∀ z ∈ xs, (Lit.int k z).wf = true) ∧ xs.length * P.bytesOf e ≤ 140737488351232 ∧ xs.length ≤ B := by
  obtain ⟨n, cs, hs, hb, hB, hd⟩ := dat_slice hu hc h
  have hl := hs.1
  rw [Nat.mul_one] at hl
  obtain ⟨xs, rfl, hx⟩ := ints_of he n cs hl fun i hi => by simpa using hd i hi
  rw [List.length_map] at hl
  subst hl
  exact ⟨xs, hs, hx, hb, hB⟩
theorem arg_ints {T e : TypeId} {k : IntKind} {x : Value} (hu : P.underlying T = some (.slice e)) (he : P.underlying e = some (.int k)) (hc : P.cellsOf e = 1) (h : datV P H B (D + 2) T x) : ∃ xs : List Int, Sl H 1 xs.length (xs.map (Value.int k)) x ∧ (∀ z ∈ xs, (Lit.int k z).wf = true) ∧ xs.length * P.bytesOf e ≤ 140737488351232 ∧ xs.length ≤ B :=
  dat_ints hu he hc (datV_cell (by simp [isRowT, hu]) h)
theorem wf_bytes {xs : List Int} (h : ∀ z ∈ xs, (Lit.int .u8 z).wf = true) : ByteL xs := fun z hz => by
  have := h z hz
  simp [Lit.wf, IntKind.min, IntKind.max, IntKind.signed, IntKind.bits] at this
  omega
/-- An array of bytes. -/
theorem dat_bytes {T e : TypeId} {n : Nat} {us : List Value} (hu : P.underlying T = some (.array n e)) (he : P.underlying e = some (.int .u8)) (hc : P.cellsOf e = 1) (hn : P.cellsOf T = n) (h : dat P H B (D + 2) T us) : ∃ xs : List Int, us = xs.map (Value.int .u8) ∧ xs.length = n ∧ ByteL xs := by
  unfold dat at h
  simp only [hu] at h
  obtain ⟨h1, h2⟩ := h
  rw [hn] at h1
  obtain ⟨xs, rfl, hx⟩ := ints_of (D := D) he n us h1 fun i hi => by
    have := h2 i hi
    rwa [hc, Nat.mul_one] at this
  exact ⟨xs, rfl, by simpa using h1, wf_bytes hx⟩
theorem dat_intArr {T e : TypeId} {n : Nat} {k : IntKind} {us : List Value} (hu : P.underlying T = some (.array n e)) (he : P.underlying e = some (.int k)) (hc : P.cellsOf e = 1) (hn : P.cellsOf T = n) (h : dat P H B (D + 2) T us) : ∃ xs : List Int, us = xs.map (Value.int k) ∧ xs.length = n ∧ ∀ z ∈ xs, (Lit.int k z).wf = true := by
  unfold dat at h
  simp only [hu] at h
  obtain ⟨h1, h2⟩ := h
  rw [hn] at h1
  obtain ⟨xs, rfl, hx⟩ := ints_of (D := D) he n us h1 fun i hi => by
    have := h2 i hi
    rwa [hc, Nat.mul_one] at this
  exact ⟨xs, rfl, by simpa using h1, hx⟩
theorem dat_struct {T : TypeId} {fs : Array Field} {us : List Value} (hu : P.underlying T = some (.struct fs)) (h : dat P H B (D + 1) T us) : us.length = P.cellsOf T ∧ ∀ (i : Nat) (f : Field), fs[i]? = some f → dat P H B D f.type ((us.drop f.offset).take (P.cellsOf f.type)) := by
  unfold dat at h
  rwa [hu] at h
theorem dat_field {T ft : TypeId} {us : List Value} (i off c : Nat) (hu : P.underlying T = some (.struct (P.fieldsOf T))) (hf : ((P.fieldsOf T)[i]?).map (fun f => (f.offset, f.type)) = some (off, ft)) (hc : P.cellsOf ft = c) (h : dat P H B (D + 1) T us) : dat P H B D ft ((us.drop off).take c) := by
  obtain ⟨f, hf', he⟩ := Option.map_eq_some_iff.1 hf
  injection he with e1 e2
  subst e1 e2 hc
  exact (dat_struct hu h).2 i f hf'
theorem dat_len {T : TypeId} {us : List Value} {c : Nat} (hu : P.underlying T = some (.struct (P.fieldsOf T))) (hc : P.cellsOf T = c) (h : dat P H B (D + 1) T us) : us.length = c := by rw [← hc]; exact (dat_struct hu h).1
/-- Elements that are all told by something. -/
theorem parts_of {α : Type} (enc : α → List Value) (ok : α → Prop) (c : Nat) (hc : ∀ a, ok a → (enc a).length = c) : ∀ (n : Nat) (cs : List Value), cs.length = n * c → (∀ i, i < n → ∃ a, ok a ∧ (cs.drop (i * c)).take c = enc a) → ∃ zs : List α, zs.length = n ∧ cs = zs.flatMap enc ∧ ∀ a ∈ zs, ok a
  | 0, cs, hl, _ => ⟨[], rfl, List.eq_nil_of_length_eq_zero (by simpa using hl), fun a ha => by cases ha⟩
  | n + 1, cs, hl, h => by
    obtain ⟨a, ha, he⟩ := h 0 (by omega)
    rw [Nat.zero_mul, List.drop_zero] at he
    rw [Nat.add_mul, Nat.one_mul] at hl
    obtain ⟨zs, h1, h2, h3⟩ := parts_of enc ok c hc n (cs.drop c) (by rw [List.length_drop]; omega) fun i hi => by
      obtain ⟨b, hb, hb2⟩ := h (i + 1) (by omega)
      refine ⟨b, hb, ?_⟩
      rw [List.drop_drop, ← hb2]
      congr 2
      rw [Nat.add_mul, Nat.one_mul]
      omega
    refine ⟨a :: zs, by simp [h1], ?_, fun b hb => by rcases List.mem_cons.1 hb with rfl | hb; exact ha; exact h3 b hb⟩
    rw [List.flatMap_cons, ← h2, ← he, List.take_append_drop]
end
theorem one_of {us : List Value} {v : Value} {i : Nat} (h : (us.drop i).take 1 = [v]) : us[i]? = some v := by
  have := congrArg (fun l : List Value => l[0]?) h
  simpa [List.getElem?_take, List.getElem?_drop] using this
theorem r8 {n : Int} (h : (Lit.int .u8 n).wf = true) : 0 ≤ n ∧ n < 256 := by
  simp [Lit.wf, IntKind.min, IntKind.max, IntKind.signed, IntKind.bits] at h
  omega
theorem r16 {n : Int} (h : (Lit.int .u16 n).wf = true) : 0 ≤ n ∧ n < 65536 := by
  simp [Lit.wf, IntKind.min, IntKind.max, IntKind.signed, IntKind.bits] at h
  omega
theorem r32 {n : Int} (h : (Lit.int .u32 n).wf = true) : 0 ≤ n ∧ n < 4294967296 := by
  simp [Lit.wf, IntKind.min, IntKind.max, IntKind.signed, IntKind.bits] at h
  omega
theorem r64 {n : Int} (h : (Lit.int .u64 n).wf = true) : 0 ≤ n ∧ n < 18446744073709551616 := by
  simp [Lit.wf, IntKind.min, IntKind.max, IntKind.signed, IntKind.bits] at h
  omega
theorem ri64 {n : Int} (h : (Lit.int .i64 n).wf = true) : -9223372036854775808 ≤ n ∧ n < 9223372036854775808 := by
  simp [Lit.wf, IntKind.min, IntKind.max, IntKind.signed, IntKind.bits] at h
  omega
end Go.Proofs.Ytloeadlmcdddnaa.Abs
