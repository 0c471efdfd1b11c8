/- Numbers: what the machine's arithmetic is, in plain words; numbers as bytes. -/
import Derived.Test.YtjmjkdelkaflmaaGreatDoorXG
import Derived.Laws.BitsAllLaws
import Derived.Laws.Strings
import Derived.KernelRfl
import Derived.Laws.LoneSync
import Derived.MapKept
set_option linter.unusedVariables false
set_option linter.unusedSimpArgs false
namespace Go.Proofs.YtjmjkdelkaflmaaGreatDoor.Abs
open Go Go.RowKit
def ByteL (xs : List Int) : Prop := ∀ x ∈ xs, 0 ≤ x ∧ x ≤ 255
theorem w8 (n : Int) : IntKind.u8.wrap n = n % 256 := IntKind.wrap_u8' n
theorem w16 (n : Int) : IntKind.u16.wrap n = n % 65536 := IntKind.wrap_u16 n
theorem w32 (n : Int) : IntKind.u32.wrap n = n % 4294967296 := IntKind.wrap_u32' n
theorem w64 (n : Int) : IntKind.u64.wrap n = n % 18446744073709551616 := by simp [IntKind.wrap, IntKind.bits, IntKind.signed]
theorem wi (n : Int) (h : -9223372036854775808 ≤ n ∧ n < 9223372036854775808) : IntKind.i64.wrap n = n := by
 rw [IntKind.wrap_i64]
 omega
theorem shr_eq (n : Int) (s : Int) (k : IntKind) : n.fdiv (2 ^ min s.toNat k.bits) = n / (2 ^ min s.toNat k.bits) := Int.fdiv_eq_ediv_of_nonneg _ (Int.le_of_lt (Int.pow_pos (by decide)))
def beB : Nat → Int → List Int
 | 0, _ => []
 | n + 1, v => beB n (v / 256) ++ [v % 256]
def beN (bs : List Int) : Int := bs.foldl (fun v b => v * 256 + b) 0
theorem beB_len (n : Nat) (v : Int) : (beB n v).length = n := by
 induction n generalizing v with
 | zero => rfl
 | succ n ih => simp [beB, ih]
theorem beB_bytes (n : Nat) (v : Int) : ByteL (beB n v) := by
 induction n generalizing v with
 | zero => intro x hx; cases hx
 | succ n ih =>
  intro x hx
  simp only [beB, List.mem_append, List.mem_singleton] at hx
  rcases hx with hx | rfl
  ·exact ih _ x hx
  ·omega
theorem beB_cons (n : Nat) (v : Int) : beB (n + 1) v = (v / 256 ^ n % 256) :: beB n v := by
 induction n generalizing v with
 | zero => simp [beB]
 | succ n ih =>
  rw [beB, ih, beB]
  simp only [List.cons_append]
  congr 2
  rw [Int.pow_succ, Int.mul_comm, Int.ediv_ediv_of_nonneg (by decide)]
theorem beN_append (xs : List Int) (b : Int) : beN (xs ++ [b]) = beN xs * 256 + b := by simp [beN]
theorem beN_beB (n : Nat) (v : Int) : beN (beB n v) = v % 256 ^ n := by
 induction n generalizing v with
 | zero => simp [beB, beN, Int.emod_one]
 | succ n ih =>
  rw [beB, beN_append, ih, Int.pow_succ]
  have hp : (0 : Int) < 256 ^ n := Int.pow_pos (by decide)
  have h1 := Int.emod_add_mul_ediv (v / 256) (256 ^ n)
  have h2 := Int.emod_nonneg (v / 256) (Int.ne_of_gt hp)
  have h3 := Int.emod_lt_of_pos (v / 256) hp
  generalize v / 256 % 256 ^ n = m at *
  generalize v / 256 / 256 ^ n = d at *
  generalize hq : (256 : Int) ^ n = q at *
  have h4 : v = (m * 256 + v % 256) + (q * 256) * d := by
   have : q * 256 * d = 256 * (q * d) := by rw [Int.mul_comm q 256, Int.mul_assoc]
   rw [this]
   omega
  have h5 : v % (q * 256) = (m * 256 + v % 256) % (q * 256) := by
   generalize v % 256 = r at *
   subst h4
   rw [Int.add_mul_emod_self_left]
  exact (h5.trans (Int.emod_eq_of_lt (by omega) (by omega))).symm
theorem beN_nonneg {xs : List Int} (h : ByteL xs) : 0 ≤ beN xs := by
 have : ∀ (l : List Int) (v : Int), ByteL l → 0 ≤ v → 0 ≤ l.foldl (fun v b => v * 256 + b) v := by
  intro l
  induction l with
  | nil => intro v _ hv; exact hv
  | cons b l ih =>
   intro v hb hv
   have := hb b (by simp)
   exact ih _ (fun y hy => hb y (List.mem_cons_of_mem _ hy)) (show 0 ≤ v * 256 + b by omega)
 exact this xs 0 h (by decide)
theorem beN_lt {xs : List Int} (h : ByteL xs) : beN xs < 256 ^ xs.length := by
 have : ∀ (l : List Int) (v : Int), ByteL l → l.foldl (fun v b => v * 256 + b) v < (v + 1) * 256 ^ l.length := by
  intro l
  induction l with
  | nil => intro v _; simp; omega
  | cons b l ih =>
   intro v hb
   have hx := hb b (by simp)
   have h1 := ih (v * 256 + b) (fun y hy => hb y (List.mem_cons_of_mem _ hy))
   simp only [List.foldl_cons, List.length_cons, Int.pow_succ]
   have hp : (0 : Int) < 256 ^ l.length := Int.pow_pos (by decide)
   have : (v * 256 + b + 1) * 256 ^ l.length ≤ (v + 1) * 256 * 256 ^ l.length := Int.mul_le_mul_of_nonneg_right (by omega) (Int.le_of_lt hp)
   rw [show (v + 1) * (256 ^ l.length * 256) = (v + 1) * 256 * 256 ^ l.length by rw [Int.mul_assoc, Int.mul_comm 256]]
   omega
 have := this xs 0 h
 simpa [beN] using this
theorem ByteL.app {xs ys : List Int} (h : ByteL xs) (k : ByteL ys) : ByteL (xs ++ ys) := fun x hx => (List.mem_append.1 hx).elim (h x) (k x)
theorem ByteL.drop {xs : List Int} (h : ByteL xs) (n : Nat) : ByteL (xs.drop n) := fun x hx => h x (List.mem_of_mem_drop hx)
theorem ByteL.take {xs : List Int} (h : ByteL xs) (n : Nat) : ByteL (xs.take n) := fun x hx => h x (List.mem_of_mem_take hx)
theorem ByteL.getD {xs : List Int} (h : ByteL xs) (i : Nat) : 0 ≤ xs.getD i 0 ∧ xs.getD i 0 ≤ 255 := by
 rw [List.getD_eq_getElem?_getD]
 rcases hx : xs[i]? with _ | x
 ·simp
 ·exact h x (List.mem_of_getElem? hx)
theorem ByteL.nil : ByteL [] := fun x hx => by cases hx
theorem ByteL.cons {x : Int} {xs : List Int} (h : 0 ≤ x ∧ x ≤ 255) (k : ByteL xs) : ByteL (x :: xs) := fun y hy => by
 rcases List.mem_cons.1 hy with rfl | hy
 ·exact h
 ·exact k y hy
theorem byteL_cons {x : Int} {xs : List Int} : ByteL (x :: xs) ↔ (0 ≤ x ∧ x ≤ 255) ∧ ByteL xs := ⟨fun h => ⟨h x (by simp), fun y hy => h y (List.mem_cons_of_mem _ hy)⟩, fun h => ByteL.cons h.1 h.2⟩
theorem byteL_nil : ByteL [] ↔ True := ⟨fun _ => trivial, fun _ => ByteL.nil⟩
theorem or_add {k : IntKind} {a b : Int} (s : Nat) (hk : k = .u8 ∨ k = .u16 ∨ k = .u32 ∨ k = .u64) (ha : 0 ≤ a) (hb : 0 ≤ b) (h1 : a % 2 ^ s = 0) (h2 : b < 2 ^ s) (h3 : a + b < 2 ^ k.bits) : bits .or k a b = a + b := by
 obtain ⟨A, rfl⟩ := Int.eq_ofNat_of_zero_le ha
 obtain ⟨B, rfl⟩ := Int.eq_ofNat_of_zero_le hb
 have e1 : A % 2 ^ s = 0 := by
  have : ((A % 2 ^ s : Nat) : Int) = 0 := by simpa using h1
  omega
 have e2 : B < 2 ^ s := by
  have : ((B : Nat) : Int) < ((2 ^ s : Nat) : Int) := by simpa using h2
  omega
 have hj := nat_join s A B e1 e2
 rcases hk with rfl | rfl | rfl | rfl <;> simp only [IntKind.bits] at h3
 ·rw [u8_or_nat _ _ (by omega) (by omega), hj]; omega
 ·rw [u16_or_nat _ _ (by omega) (by omega), hj]; omega
 ·rw [u32_or_nat _ _ (by omega) (by omega), hj]; omega
 ·rw [u64_or_nat _ _ (by omega) (by omega), hj]; omega
theorem intsOf_len : ∀ {cs : List Value} {xs : List Int}, intsOf cs = some xs → cs = xs.map (Value.int .u8)
 | [], xs, h => by simp [intsOf] at h; subst h; rfl
 | c :: cs, xs, h => by
  cases c with
  | int k n =>
   cases k <;> simp [intsOf] at h
   obtain ⟨ys, hy, rfl⟩ := h
   simp [intsOf_len hy]
  | _ => simp [intsOf] at h
theorem Stt.toI {X : List Nat} {H0 H : Hp} {L : List Ent} {ob : Option Nat} {ok rw0 : Bool} {e0 : TypeId} {cs : List Value} {xs xs' : List Int} (st : Stt X H0 H L) (j : Nat) (hi : L[j]? = some ⟨ob, ok, ⟨rw0, e0, cs⟩⟩) (h : intsOf cs = some xs) (nf : NfL xs xs') : Stt X H0 H (L.set j ⟨ob, ok, ⟨rw0, e0, xs'.map (Value.int .u8)⟩⟩) := by
 have e : L.set j ⟨ob, ok, ⟨rw0, e0, xs'.map (Value.int .u8)⟩⟩ = L := by
  rw [← nf.eq, ← intsOf_len h]
  apply List.ext_getElem?
  intro i
  rw [List.getElem?_set]
  split
  ·rename_i hij; subst hij
   rw [if_pos (List.getElem?_eq_some_iff.1 hi).1, hi]
  ·rfl
 rw [e]; exact st
theorem ofInts_toList (xs : List Int) : (ofInts xs).data.toList = xs.map fun n => UInt8.ofNat n.toNat := by
 have : ∀ (xs : List Int) (r : ByteArray), (xs.foldl (fun r n => r.push (UInt8.ofNat n.toNat)) r).data.toList = r.data.toList ++ xs.map fun n => UInt8.ofNat n.toNat := by
  intro xs
  induction xs with
  | nil => intro r; simp
  | cons x xs ih => intro r; rw [List.foldl_cons, ih]; simp [ByteArray.push]
 simpa [ofInts] using this xs ByteArray.empty
theorem aMax {P : Program} {R : Tm → Hp → Prop} {t : Tm} {H : Hp} {d : Option Nat} {x y : Opd} {k : IntKind} {a b : Int} (hx : ev t x = .int k a) (hy : ev t y = .int k b) (kk : R (upd t d (.int k (if a < b then b else a))) H) : aStep P ⟨d, .minmax true x y, none⟩ R t H := ⟨_, H, by simp only [aI, hx, hy, if_true], kk⟩
theorem aMin {P : Program} {R : Tm → Hp → Prop} {t : Tm} {H : Hp} {d : Option Nat} {x y : Opd} {k : IntKind} {a b : Int} (hx : ev t x = .int k a) (hy : ev t y = .int k b) (kk : R (upd t d (.int k (if b < a then b else a))) H) : aStep P ⟨d, .minmax false x y, none⟩ R t H := ⟨_, H, by simp only [aI, hx, hy, if_true, Bool.false_eq_true, if_false], kk⟩
section
variable {P : Program} {H : Hp} {B D : Nat}
theorem datV_cell {T : TypeId} {x : Value} (hr : isRowT P T = some false) (h : datV P H B D T x) : dat P H B D T [x] := by
 unfold datV at h
 rwa [hr] at h
theorem dat_int {T : TypeId} {k : IntKind} {us : List Value} (hu : P.underlying T = some (.int k)) (h : dat P H B (D + 1) T us) : ∃ n, us = [.int k n] ∧ (Lit.int k n).wf = true := by
 unfold dat at h
 rwa [hu] at h
theorem dat_bool {T : TypeId} {us : List Value} (hu : P.underlying T = some .bool) (h : dat P H B (D + 1) T us) : ∃ b, us = [.bool b] := by
 unfold dat at h
 rwa [hu] at h
theorem dat_slice {T e : TypeId} {c : Nat} {x : Value} (hu : P.underlying T = some (.slice e)) (hc : P.cellsOf e = c) (h : dat P H B (D + 1) T [x]) : ∃ n cs, Sl H c n cs x ∧ n * P.bytesOf e ≤ 140737488351232 ∧ n ≤ B ∧ ∀ i, i < n → dat P H B D e ((cs.drop (i * c)).take c) := by
 unfold dat at h
 rw [hu] at h
 subst hc
 rcases h with h | ⟨b, h⟩ | ⟨b, n, k, h, hn, hk, hrw, hl, hb, hB, hd⟩
 ·injection h with h
  exact ⟨0, [], ⟨by simp, .inl ⟨rfl, .inl h⟩⟩, by simp, Nat.zero_le _, fun i hi => by omega⟩
 ·injection h with h
  exact ⟨0, [], ⟨by simp, .inl ⟨rfl, .inr ⟨b, 0, 0, h⟩⟩⟩, by simp, Nat.zero_le _, fun i hi => by omega⟩
 ·injection h with h
  refine ⟨n, k.cells, ⟨hl, .inr ⟨hn, b, 0, 0, h, ?_⟩⟩, hb, hB, hd⟩
  rw [get_of hk (by omega), List.drop_zero, List.take_of_length_le (by omega)]
theorem arg_slice {T e : TypeId} {c : Nat} {x : Value} (hu : P.underlying T = some (.slice e)) (hc : P.cellsOf e = c) (h : datV P H B (D + 1) T x) : ∃ n cs, Sl H c n cs x ∧ n * P.bytesOf e ≤ 140737488351232 ∧ n ≤ B ∧ ∀ i, i < n → dat P H B D e ((cs.drop (i * c)).take c) :=
 dat_slice hu hc (datV_cell (by simp [isRowT, hu]) h)
theorem dat_struct {T : TypeId} {fs : Array Field} {us : List Value} (hu : P.underlying T = some (.struct fs)) (h : dat P H B (D + 1) T us) : us.length = P.cellsOf T ∧ ∀ (i : Nat) (f : Field), fs[i]? = some f → dat P H B D f.type ((us.drop f.offset).take (P.cellsOf f.type)) := by
 unfold dat at h
 rwa [hu] at h
theorem dat_field {T ft : TypeId} {us : List Value} (i off c : Nat) (hu : P.underlying T = some (.struct (P.fieldsOf T))) (hf : ((P.fieldsOf T)[i]?).map (fun f => (f.offset, f.type)) = some (off, ft)) (hc : P.cellsOf ft = c) (h : dat P H B (D + 1) T us) : dat P H B D ft ((us.drop off).take c) := by
 obtain ⟨f, hf', he⟩ := Option.map_eq_some_iff.1 hf
 injection he with e1 e2
 subst e1 e2 hc
 exact (dat_struct hu h).2 i f hf'
theorem dat_len {T : TypeId} {us : List Value} {c : Nat} (hu : P.underlying T = some (.struct (P.fieldsOf T))) (hc : P.cellsOf T = c) (h : dat P H B (D + 1) T us) : us.length = c := by rw [← hc]; exact (dat_struct hu h).1
theorem parts_of {α : Type} (enc : α → List Value) (ok : α → Prop) (c : Nat) (hc : ∀ a, ok a → (enc a).length = c) : ∀ (n : Nat) (cs : List Value), cs.length = n * c → (∀ i, i < n → ∃ a, ok a ∧ (cs.drop (i * c)).take c = enc a) → ∃ zs : List α, zs.length = n ∧ cs = zs.flatMap enc ∧ ∀ a ∈ zs, ok a
 | 0, cs, hl, _ => ⟨[], rfl, List.eq_nil_of_length_eq_zero (by simpa using hl), fun a ha => by cases ha⟩
 | n + 1, cs, hl, h => by
  obtain ⟨a, ha, he⟩ := h 0 (by omega)
  rw [Nat.zero_mul, List.drop_zero] at he
  rw [Nat.add_mul, Nat.one_mul] at hl
  obtain ⟨zs, h1, h2, h3⟩ := parts_of enc ok c hc n (cs.drop c) (by rw [List.length_drop]; omega) fun i hi => by
   obtain ⟨b, hb, hb2⟩ := h (i + 1) (by omega)
   refine ⟨b, hb, ?_⟩
   rw [List.drop_drop, ← hb2]
   congr 2
   rw [Nat.add_mul, Nat.one_mul]
   omega
  refine ⟨a :: zs, by simp [h1], ?_, fun b hb => by rcases List.mem_cons.1 hb with rfl | hb; exact ha; exact h3 b hb⟩
  rw [List.flatMap_cons, ← h2, ← he, List.take_append_drop]
end
theorem r8 {n : Int} (h : (Lit.int .u8 n).wf = true) : 0 ≤ n ∧ n < 256 := by
 simp [Lit.wf, IntKind.min, IntKind.max, IntKind.signed, IntKind.bits] at h
 omega
def bytesOf (s : ByteArray) : List Int := s.data.toList.map fun b => (b.toNat : Int)
theorem ofInts_size (xs : List Int) : (ofInts xs).size = xs.length := by
 have := congrArg List.length (ofInts_toList xs)
 rw [List.length_map, Array.length_toList] at this
 exact this
theorem ofInts_get {xs : List Int} (h : ByteL xs) {j : Nat} (hj : j < xs.length) : ∃ c : UInt8, (ofInts xs)[j]? = some c ∧ (c.toNat : Int) = xs.getD j 0 := by
 refine ⟨UInt8.ofNat (xs.getD j 0).toNat, ?_, ?_⟩
 ·have hs : j < (ofInts xs).size := by rw [ofInts_size]; exact hj
  have h1 : (ofInts xs)[j]? = (ofInts xs).data.toList[j]? := by
   rw [Array.getElem?_toList]
   have hs' : j < (ofInts xs).data.size := hs
   rw [Array.getElem?_eq_getElem hs']
   show (if h : j < (ofInts xs).size then some _ else none) = _
   rw [dif_pos hs]
   rfl
  rw [h1, ofInts_toList, List.getElem?_map, List.getElem?_eq_getElem hj]
  simp [List.getD, List.getElem?_eq_getElem hj]
 ·have h0 := h.getD j
  generalize xs.getD j 0 = z at *
  rw [UInt8.toNat_ofNat']
  omega
theorem strCells_ofInts {xs : List Int} (h : ByteL xs) : strCells (ofInts xs) = xs.map (Value.int .u8) := by
 unfold strCells
 rw [ofInts_toList, List.map_map]
 refine List.map_congr_left fun x hx => ?_
 have := h x hx
 simp [UInt8.toNat_ofNat']
 omega
section
variable {P : Program} {R : Tm → Hp → Prop} {t : Tm} {X : List Nat} {H0 H H' : Hp} {L : List Ent} {d : Option Nat} {x y : Opd}
theorem aLenS {xs : List Int} (hx : ev t x = .string (ofInts xs)) (kk : R (upd t d (.int .i64 xs.length)) H) : aStep P ⟨d, .len 2 x, none⟩ R t H := ⟨_, H, by simp only [aI, hx, if_true, ofInts_size], kk⟩
theorem aIdxS {xs : List Int} {kd : IntKind} {j : Int} (hb : ByteL xs) (hx : ev t x = .string (ofInts xs)) (hy : ev t y = .int kd j) (hj : 0 ≤ j ∧ j < xs.length) (kk : R (upd t d (.int .u8 (xs.getD j.toNat 0))) H) : aStep P ⟨d, .idxS x y, none⟩ R t H := by
 obtain ⟨c, h1, h2⟩ := ofInts_get hb (j := j.toNat) (by omega)
 refine ⟨.int .u8 (xs.getD j.toNat 0), H, ?_, kk⟩
 simp only [aI, hx, hy, if_pos hj.1, h1, h2]
theorem src_str {xs : List Int} (hb : ByteL xs) : H.src 1 (.string (ofInts xs)) = some (xs.length, xs.map (Value.int .u8)) := by
 simp [Hp.src, ofInts_size, strCells_ofInts hb]
end
def Apart (b : Nat) (u : Value) : Prop := ∀ c o n m, u = .slice (some ⟨c, o, none⟩) n m → 0 < n → c ≠ b
theorem get_lt {H : Hp} {b o n : Nat} {cs : List Value} (hw : Wf H) (h : H.get b o n = some cs) : b < H.nx := by
 unfold Hp.get at h
 rcases hk : H.m b with _ | k
 ·rw [hk] at h; cases h
 ·exact hw b _ hk
theorem Stt.slcX {H0 H : Hp} {L : List Ent} {b sz n : Nat} {cs : List Value} {u : Value} (st : Stt [b] H0 H L) (h : Sl H0 sz n cs u) (ha : Apart b u) : Sl H sz n cs u := by
 obtain ⟨hl, h | ⟨hn, c, o, m, e, hg⟩⟩ := h
 ·exact ⟨hl, .inl h⟩
 ·refine ⟨hl, .inr ⟨hn, c, o, m, e, ?_⟩⟩
  have hlt := get_lt st.wf0 hg
  have hne := ha c o n m e hn
  have he := st.frm c hlt (by simpa using hne)
  unfold Hp.get at hg ⊢
  rw [he]; exact hg
theorem Stt.apart {H0 H : Hp} {L : List Ent} {b j sz n : Nat} {k : Blk} {cs : List Value} {u : Value} (st : Stt [] H0 H L) (hi : L[j]? = some ⟨some b, true, k⟩) (h : Sl H0 sz n cs u) : Apart b u := by
 intro c o n' m e hn
 obtain ⟨hl, ⟨h0, e1 | ⟨c', o', m', e1⟩⟩ | ⟨hn', c', o', m', e1, hg⟩⟩ := h
 ·rw [e] at e1; cases e1
 ·rw [e] at e1; injection e1 with e1 e2; omega
 ·rw [e] at e1
  injection e1 with e1 e2 e3
  injection e1 with e1
  injection e1 with e1
  subst e1
  have h1 := get_lt st.wf0 hg
  rcases (st.own _ (List.mem_of_getElem? hi) rfl).2 b rfl with h2 | h2
  ·omega
  ·cases h2
section
variable {P : Program} {R : Tm → Hp → Prop} {t : Tm} {X : List Nat} {H0 H : Hp} {L : List Ent} {d : Option Nat} {x y : Opd}
end
theorem nodup_app' {α : Type} {l m : List α} (h1 : l.Nodup) (h2 : m.Nodup) (h : ∀ a, a ∈ l → a ∈ m → False) : (l ++ m).Nodup := List.nodup_append.2 ⟨h1, h2, fun a ha b hb e => h a ha (e ▸ hb)⟩
theorem Stt.callT {X : List Nat} {H0 H H' : Hp} {L L' : List Ent} {ob : Option Nat} {k : Blk} (st : Stt X H0 H L) (j : Nat) (hj : L[j]? = some ⟨ob, true, k⟩) (h : Stt ob.toList H H' L') (ho : L'.all (·.ok) = true) : Stt X H0 H' (L' ++ L.eraseIdx j) := by
 have hm := List.mem_of_getElem? hj
 obtain ⟨hrw, hown⟩ := st.own _ hm rfl
 have hnew : ∀ p ∈ L', ∀ c, p.key = some c → H.nx ≤ c ∨ ob = some c := fun p hp c hc => by
  rcases (h.own p hp (List.all_eq_true.1 ho p hp)).2 c hc with h1 | h1
  ·exact .inl h1
  ·exact .inr (by simpa [eq_comm] using h1)
 have her : ∀ p ∈ L.eraseIdx j, p ∈ L ∧ ∀ b, ob = some b → p.key ≠ some b := fun p hp => by
  obtain ⟨i, hij, hpi⟩ := List.mem_eraseIdx_iff_getElem?.1 hp
  exact ⟨List.mem_of_getElem? hpi, fun b hb e => hij (nodup_keys st.dis hpi hj e hb)⟩
 refine ⟨st.wf0, h.wf, Nat.le_trans st.nx h.nx, fun c hc hx => ?_, fun p hp => ?_, fun p hp hok => ?_, ?_⟩
 ·have := st.nx
  rw [h.frm c (by omega) ?_]
  ·exact st.frm c hc hx
  ·intro hcb
   rcases hown c (by simpa [eq_comm] using hcb) with h1 | h1
   ·omega
   ·exact hx h1
 ·rcases List.mem_append.1 hp with hp | hp
  ·exact h.has p hp
  ·obtain ⟨h1, h2⟩ := her p hp
   exact ⟨fun c hc => by rw [h.frm c (key_lt st h1 hc) (by intro e; exact h2 c (by simpa [eq_comm] using e) hc)]; exact (st.has p h1).1 c hc, (st.has p h1).2⟩
 ·rcases List.mem_append.1 hp with hp | hp
  ·refine ⟨(h.own p hp hok).1, fun c hc => ?_⟩
   rcases hnew p hp c hc with h1 | h1
   ·have := st.nx
    exact .inl (by omega)
   ·exact hown c h1
  ·exact st.own p (her p hp).1 hok
 ·rw [List.filterMap_append]
  have hsub : ((L.eraseIdx j).filterMap (·.key)).Nodup := List.Nodup.sublist ((List.eraseIdx_sublist L j).filterMap _) st.dis
  refine nodup_app' h.dis hsub fun c hc hc' => ?_
  obtain ⟨p, hp, he⟩ := List.mem_filterMap.1 hc
  obtain ⟨q, hq, hf⟩ := List.mem_filterMap.1 hc'
  rcases hnew p hp c he with h1 | h1
  ·have := key_lt st (her q hq).1 hf
   omega
  ·exact (her q hq).2 c h1 hf
section
variable {P : Program} {R : Tm → Hp → Prop} {t : Tm} {H : Hp} {d : Option Nat} {x : Opd}
theorem aConvV {k k' : IntKind} {n n' : Int} (hx : ev t x = .int k n) (h : k'.wrap n = n') (kk : R (upd t d (.int k' n')) H) : aStep P ⟨d, .conv k' x, none⟩ R t H := by
 refine ⟨.int k' n', H, ?_, kk⟩
 simp only [aI, hx, h]
end
theorem flat_at {α : Type} {enc : α → List Value} {c : Nat} (hc : ∀ a, (enc a).length = c) (d : α) : ∀ (l : List α) (j : Nat), j < l.length → ((l.flatMap enc).drop (j * c)).take c = enc (l.getD j d)
 | [], j, h => by cases h
 | a :: l, 0, _ => by rw [List.flatMap_cons, Nat.zero_mul, List.drop_zero, List.take_left' (hc a)]; rfl
 | a :: l, j + 1, h => by
  have ih := flat_at hc d l j (by simpa using h)
  rw [List.flatMap_cons, show (j + 1) * c = c + j * c by rw [Nat.add_mul, Nat.one_mul, Nat.add_comm], ← List.drop_drop, List.drop_left' (hc a), ih]
  rfl
theorem getD_mem' {α : Type} {l : List α} {j : Nat} {d : α} (h : j < l.length) : l.getD j d ∈ l := by
 have e : l.getD j d = l[j] := by simp [List.getD, List.getElem?_eq_getElem h]
 rw [e]; exact List.getElem_mem h
section
variable {P : Program} {R : Tm → Hp → Prop} {t : Tm} {X : List Nat} {H0 H : Hp} {L : List Ent} {d : Option Nat} {x y : Opd}
theorem aIxEK {α : Type} {enc : α → List Value} {c : Nat} (hc : ∀ a, (enc a).length = c) {l : List α} (dd : α) {u : Value} {kd : IntKind} {j : Int} (hs : Sl H c l.length (l.flatMap enc) u) (hx : ev t x = u) (hy : ev t y = .int kd j) (hj : 0 ≤ j ∧ j < l.length)
  (kk : ∀ b o, (∀ H1, Sl H1 c l.length (l.flatMap enc) u → H1.get b o c = some (enc (l.getD j.toNat dd))) → R (upd t d (.pointer (some ⟨b, o, none⟩))) H) : aStep P ⟨d, .iadr c x y, none⟩ R t H := by
 obtain ⟨hl, ⟨h0, _⟩ | ⟨hn, b, o, c', rfl, hg⟩⟩ := hs
 ·omega
 ·refine ⟨.pointer (some ⟨b, o + j.toNat * c, none⟩), H, ?_, kk b _ fun H1 h1 => ?_⟩
  ·simp only [aI, hx, hy, if_pos hj]
  ·obtain ⟨_, ⟨h0, _⟩ | ⟨_, b', o', c'', e, hg1⟩⟩ := h1
   ·omega
   ·injection e with e e2 e3
    injection e with e
    injection e with e e4
    subst e e4
    have hle : j.toNat * c + c ≤ l.length * c := by
     calc j.toNat * c + c = (j.toNat + 1) * c := by rw [Nat.add_mul, Nat.one_mul]
      _ ≤ l.length * c := Nat.mul_le_mul_right _ (by omega)
    rw [get_part hg1 hle, flat_at hc dd l j.toNat (by omega)]
theorem Stt.recell (st : Stt X H0 H L) (j : Nat) {ob : Option Nat} {ok rw0 : Bool} {e0 : TypeId} {cs cs' : List Value} (hi : L[j]? = some ⟨ob, ok, ⟨rw0, e0, cs⟩⟩) (h : cs = cs') : Stt X H0 H (L.set j ⟨ob, ok, ⟨rw0, e0, cs'⟩⟩) := by
 subst h
 have : L.set j ⟨ob, ok, ⟨rw0, e0, cs⟩⟩ = L := by
  apply List.ext_getElem?
  intro i
  rw [List.getElem?_set]
  split
  ·rename_i h
   subst h
   rw [if_pos (List.getElem?_eq_some_iff.1 hi).1, hi]
  ·rfl
 rw [this]
 exact st
end
def oddB (xs ms : List Int) (i k : Nat) : Bool := (xs.getD i 0).toNat.testBit k && !(ms.getD i 0).toNat.testBit k
def OddAt (xs ms : List Int) (f b : Int) : Prop := (f = -1 ∧ b = -1 ∧ ∀ i, i < xs.length → ∀ k, k < 8 → oddB xs ms i k = false) ∨ (∃ i k : Nat, f = i ∧ b = k ∧ i < xs.length ∧ k < 8 ∧ oddB xs ms i k = true ∧ (∀ j, j < i → ∀ l, l < 8 → oddB xs ms j l = false) ∧ ∀ l, k < l → l < 8 → oddB xs ms i l = false)
section
variable {P : Program} {R : Tm → Hp → Prop} {t : Tm} {X : List Nat} {H0 H H' : Hp} {L : List Ent} {d : Option Nat} {x y z : Opd}
theorem Stt.putK (st : Stt X H0 H L) {j b : Nat} {k : Blk} (hi : L[j]? = some ⟨some b, true, k⟩) (k' : Blk) (hr : k'.rw = true) : Stt X H0 (H.set b k') (L.set j ⟨some b, true, k'⟩) := by
 have hm := List.mem_of_getElem? hi
 have hlt := key_lt st hm rfl
 obtain ⟨hrw, hown⟩ := st.own _ hm rfl
 have hset : ∀ c, (H.set b k').m c = if c = b then some k' else H.m c := fun c => rfl
 refine ⟨st.wf0, st.wf.set hlt _, st.nx, fun c hc hx => ?_, fun p hp => ?_, fun p hp ho => ?_, ?_⟩
 ·rw [hset, if_neg ?_]
  ·exact st.frm c hc hx
  ·intro e
   subst e
   rcases hown c rfl with h | h
   ·omega
   ·exact hx h
 ·obtain ⟨i, hp'⟩ := List.mem_iff_getElem?.1 hp
  rw [List.getElem?_set] at hp'
  split at hp'
  ·split at hp'
   ·injection hp' with hp'
    subst hp'
    exact ⟨fun c hc => by injection hc with hc; subst hc; rw [hset, if_pos rfl], fun h => by cases h⟩
   ·cases hp'
  ·rename_i hij
   refine ⟨fun c hc => ?_, (st.has p (List.mem_of_getElem? hp')).2⟩
   rw [hset, if_neg ?_]
   ·exact (st.has p (List.mem_of_getElem? hp')).1 c hc
   ·intro e
    subst e
    exact hij (nodup_keys st.dis hi hp' rfl hc)
 ·obtain ⟨i, hp'⟩ := List.mem_iff_getElem?.1 hp
  rw [List.getElem?_set] at hp'
  split at hp'
  ·split at hp'
   ·injection hp' with hp'
    subst hp'
    exact ⟨hr, hown⟩
   ·cases hp'
  ·exact st.own p (List.mem_of_getElem? hp') ho
 ·rw [set_keys hi (q := ⟨some b, true, k'⟩) rfl]
  exact st.dis
theorem aMkMap (st : Stt X H0 H L) (k : ∀ b H', Stt X H0 H' (⟨some b, true, ⟨true, .mp [], []⟩⟩ :: L) → R (upd t d (.map (some b))) H') : aStep P ⟨d, .mkMap, none⟩ R t H :=
 ⟨.map (some H.nx), _, rfl, k H.nx _ (st.push _ rfl)⟩
theorem mp_of (st : Stt X H0 H L) (j : Nat) {b : Nat} {ok : Bool} {c : List (Value × Value)} (hi : L[j]? = some ⟨some b, ok, ⟨true, .mp c, []⟩⟩) : H.mp (.map (some b)) = some c := by
 simp only [Hp.mp, st.get hi]
theorem aMapGet {kd : Option IntKind} {zv key v : Value} {okc ok : Bool} {b : Nat} {c : List (Value × Value)} (st : Stt X H0 H L) (j : Nat) (hi : L[j]? = some ⟨some b, ok, ⟨true, .mp c, []⟩⟩) (hx : ev t x = .map (some b)) (hy : ev t y = key) (hk : isKey kd key = true)
  (hf : (∃ i u, mpFind kd key c 0 = some (some (i, u)) ∧ v = if okc = true then .tuple #[u, .bool true] else u) ∨ (mpFind kd key c 0 = some none ∧ v = if okc = true then .tuple #[zv, .bool false] else zv)) (kk : R (upd t d v) H) (hz0 : isTup zv = false := by rfl) : aStep P ⟨d, .mapGet kd zv okc x y, none⟩ R t H := by
 refine ⟨v, H, ?_, kk⟩
 rcases hf with ⟨i, u, h1, rfl⟩ | ⟨h1, rfl⟩
 ·simp only [aI, hz0, Bool.false_eq_true, if_false, hx, hy, mp_of st j hi, hk, if_true, h1]
 ·simp only [aI, hz0, Bool.false_eq_true, if_false, hx, hy, mp_of st j hi, hk, if_true, h1]
theorem aMapNil {kd : Option IntKind} {zv key : Value} {okc : Bool} (hx : ev t x = .map none) (hy : ev t y = key) (hk : isKey kd key = true) (kk : R (upd t d (if okc = true then .tuple #[zv, .bool false] else zv)) H) (hz0 : isTup zv = false := by rfl) : aStep P ⟨d, .mapGet kd zv okc x y, none⟩ R t H := by
 refine ⟨_, H, ?_, kk⟩
 simp only [aI, hz0, Bool.false_eq_true, if_false, hx, hy, Hp.mp, hk, if_true, mpFind]
theorem aMapSet {kd : Option IntKind} {key v : Value} {b : Nat} {c c' : List (Value × Value)} (st : Stt X H0 H L) (j : Nat) (hi : L[j]? = some ⟨some b, true, ⟨true, .mp c, []⟩⟩) (hx : ev t x = .map (some b)) (hy : ev t y = key) (hz : ev t z = v) (hk : isKey kd key = true) (hv : oneV v = true)
  (hf : (∃ i u, mpFind kd key c 0 = some (some (i, u)) ∧ c' = c.modify i fun _ => (key, v)) ∨ (mpFind kd key c 0 = some none ∧ c' = c ++ [(key, v)])) (kk : ∀ H', Stt X H0 H' (L.set j ⟨some b, true, ⟨true, .mp c', []⟩⟩) → R (upd t d undef) H') : aStep P ⟨d, .mapSet kd x y z, none⟩ R t H := by
 refine ⟨undef, H.set b ⟨true, .mp c', []⟩, ?_, kk _ (st.putK hi _ rfl)⟩
 rcases hf with ⟨i, u, h1, rfl⟩ | ⟨h1, rfl⟩
 ·simp only [aI, hx, hy, hz, mp_of st j hi, hk, hv, and_self, if_true, h1]
 ·simp only [aI, hx, hy, hz, mp_of st j hi, hk, hv, and_self, if_true, h1]
theorem aMkFunc {f : FuncId} {xs : List Opd} {us : List Value} (hx : xs.map (ev t) = us) (hp : us.all isPtr = true) (kk : R (upd t d (.func (.func f) #[] us.toArray)) H) : aStep P ⟨d, .mkFunc f xs, none⟩ R t H := by
 refine ⟨_, H, ?_, kk⟩
 simp only [aI, hx, hp, if_true]
theorem aCV {f : FuncId} {xs : List Opd} {cs : List Value} {K : Value → Hp → Prop} (hx : ev t x = .func (.func f) #[] cs.toArray) (hc : callable P f = true) (h : ACalls P f (xs.map (ev t) ++ cs) H K) (kk : ∀ v H', K v H' → R (upd t d v) H') : aStep P ⟨d, .callV x xs, none⟩ R t H := by
 show aRun P (.callV x xs) (ev t) H _
 simp only [aRun, hx]
 exact ⟨by first | trivial | rfl, hc, h.mono kk⟩
theorem aX {f : FuncId} {xs : List Opd} {K : Value → Hp → Prop} (h : XCalls P f (xs.map (ev t)) H K) (kk : ∀ v H', K v H' → R (upd t d v) H') : aStep P ⟨d, .xcall f xs, none⟩ R t H := by
 show aRun P (.xcall f xs) (ev t) H _
 intro ρ w0 w ys h1 h2
 obtain ⟨v', w', h3, ρ', v, H', e1, e2, e3, e4⟩ := h ρ w0 w ys h1 h2
 exact ⟨v', w', h3, ρ', v, H', e1, e2, e3, kk _ _ e4⟩
end
theorem put1 {ρ : Rho} {H H' : Hp} {w w0 : World} (h : RH ρ H w0 w) {b o : Nat} {x y : Value} (hp : H.put b o [x] = some H') (hx : RC ρ x y) :
  ∃ l g y0, ρ b = some l ∧ l.a = ⟨g, 0, none⟩ ∧ w.cell? ⟨g, o, none⟩ = some y0 ∧ w.frozen? ⟨g, o, none⟩ = false ∧ RH ρ H' w0 (w.setCell ⟨g, o, none⟩ y) := by
 unfold Hp.put at hp
 split at hp
 ·rename_i k hk
  split at hp
  ·rename_i hrw
   split at hp
   ·rename_i hle
    injection hp with hp
    obtain ⟨l, hl, hc, ho⟩ := h.cells b k hk
    obtain ⟨et, het⟩ := ET.ty_of hrw.2
    obtain ⟨g, cur, fr, hla, hg0, hg, hs, hkl, hcs, hm⟩ := (ho hrw.1).ty het
    have hlo : o < k.cells.length := by simp at hle; omega
    obtain ⟨y0, hy0, _⟩ := hc o _ (List.getElem?_eq_getElem hlo)
    rw [hla, add_plain] at hy0
    refine ⟨l, g, y0, hl, hla, hy0, ?_, ?_⟩
    ·simp only [World.frozen?, hg]
     rcases hs with hs | hs <;> simp only [Bool.and_eq_false_iff, decide_eq_false_iff_not] <;> omega
    ·have e1 : w.setCell ⟨g, o, none⟩ y = w.setCells g o [y] := rfl
     rw [e1, setCells_row [y] o cur w hg (by simp; omega)]
     subst hp
     have hsz : (cur.toList.take o ++ [y] ++ cur.toList.drop (o + [y].length)).toArray.size = cur.size := by simp; omega
     refine h.put hk hl hrw.1 cur _ fr fr g hla het hg (by rw [hsz]; exact hs) hsz _ (by simp; omega) ?_
     have := take_mid (own_list (w0 := w0) hla hg hkl hc) (by simpa using hkl) (All2.cons hx .nil) hle
     simpa using this
   ·cases hp
  ·cases hp
 ·cases hp
theorem get1 {ρ : Rho} {H : Hp} {w w0 : World} (h : RH ρ H w0 w) {b o : Nat} {x : Value} (hx : H.get b o 1 = some [x]) :
  ∃ l y, ρ b = some l ∧ RC ρ x y ∧ w.cell? (l.a.add o) = some y := by
 obtain ⟨l, ys, hl, h2, _, hc⟩ := get_rel h hx
 cases h2 with
 | cons r rest => exact ⟨l, _, hl, r, by have := hc 0 _ rfl; rwa [add_add, Nat.add_zero] at this⟩
theorem rc_int {ρ : Rho} {k : IntKind} {n : Int} {v : Value} (h : RC ρ (.int k n) v) : v = .int k n := by cases h; rfl
theorem a2_ptr {ρ : Rho} {b o : Nat} {xs ys : List Value} (h : All2 (RV ρ) (.pointer (some ⟨b, o, none⟩) :: xs) ys) : ∃ l ys', ρ b = some l ∧ ys = .pointer (some (l.a.add o)) :: ys' ∧ All2 (RV ρ) xs ys' := by
 cases h with
 | cons r rest =>
  obtain ⟨l, hl, e⟩ := rv_ptr r
  exact ⟨l, _, hl, by rw [e], rest⟩
theorem a2_int {ρ : Rho} {k : IntKind} {n : Int} {xs ys : List Value} (h : All2 (RV ρ) (.int k n :: xs) ys) : ∃ ys', ys = .int k n :: ys' ∧ All2 (RV ρ) xs ys' := by
 cases h with
 | cons r rest => exact ⟨_, by rw [rv_int r], rest⟩
theorem a2_nil {ρ : Rho} {ys : List Value} (h : All2 (RV ρ) [] ys) : ys = [] := by cases h; rfl
section
variable {P : Program} {f : FuncId} {fn : Func} {b o : Nat} {H H' : Hp} {k : IntKind}
theorem x_load (hf : P.funcs[f]? = some fn) (hname : (fn.name == "runtime.NumGoroutine") = false) (hb : fn.body.isNone = true) (hn : Extern.findNext fn = none) (k : IntKind)
  (he : Extern.find fn = some (Extern.Atomic.loadT (.int k))) {x : Int} (hg : H.get b o 1 = some [.int k x]) : XCalls P f [.pointer (some ⟨b, o, none⟩)] H fun v H' => v = .int k x ∧ H' = H := by
 intro ρ w0 w ys hy h
 obtain ⟨l, ys', hl, rfl, hy1⟩ := a2_ptr hy
 cases a2_nil hy1
 obtain ⟨l', y, hl', r, hc⟩ := get1 h hg
 cases hl.symm.trans hl'
 cases rc_int r
 exact ⟨_, w, run_call_load hf hname hb hn k he hc, ρ, _, H, Ext.refl ρ, .one (.one (.int k x)), h, rfl, rfl⟩
theorem x_add (hf : P.funcs[f]? = some fn) (hname : (fn.name == "runtime.NumGoroutine") = false) (hb : fn.body.isNone = true) (hn : Extern.findNext fn = none) (k : IntKind)
  (he : Extern.find fn = some (Extern.Atomic.update (Op.intArith .add) k true)) {x y s : Int} (hg : H.get b o 1 = some [.int k x]) (hs : aInt .add k x y = some (.int k s)) (hp : H.put b o [.int k s] = some H') :
  XCalls P f [.pointer (some ⟨b, o, none⟩), .int k y] H fun v H1 => v = .int k s ∧ H1 = H' := by
 intro ρ w0 w ys hy h
 obtain ⟨l, ys', hl, rfl, hy1⟩ := a2_ptr hy
 obtain ⟨ys', rfl, hy2⟩ := a2_int hy1
 cases a2_nil hy2
 obtain ⟨l1, y1, hl1, r, hc⟩ := get1 h hg
 cases hl.symm.trans hl1
 cases rc_int r
 obtain ⟨l', g, y0, hl', hla, hc0, hz, h'⟩ := put1 h hp (.int k s)
 cases hl.symm.trans hl'
 rw [hla, add_plain] at hc ⊢
 have hs' : (Op.intArith .add k x y).run P w = .ok (.int k s) w := by
  have := run_aInt (P := P) (op := .add) (T := 0) (by simp) hs w
  simpa [binOp] using this
 exact ⟨_, _, run_call_add hf hname hb hn k he hc hz hs', ρ, .int k s, H', Ext.refl ρ, .one (.one (.int k s)), h', rfl, rfl⟩
end
end Go.Proofs.YtjmjkdelkaflmaaGreatDoor.Abs
