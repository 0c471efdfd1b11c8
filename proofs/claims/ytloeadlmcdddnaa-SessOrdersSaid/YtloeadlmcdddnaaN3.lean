/- Texts, told by their bytes. -/
import Derived.Test.YtloeadlmcdddnaaN2
set_option linter.unusedVariables false
set_option linter.unusedSimpArgs false
namespace Go.Proofs.Ytloeadlmcdddnaa.Abs
open Go Go.RowKit
def bytesOf (s : ByteArray) : List Int := s.data.toList.map fun b => (b.toNat : Int)
theorem bytesOf_len (s : ByteArray) : (bytesOf s).length = s.size := by
  unfold bytesOf
  rw [List.length_map, Array.length_toList]
  rfl
theorem bytesOf_bytes (s : ByteArray) : ByteL (bytesOf s) := fun x hx => by
  obtain ⟨b, _, rfl⟩ := List.mem_map.1 hx
  have := b.toNat_lt
  omega
theorem ofInts_bytesOf (s : ByteArray) : ofInts (bytesOf s) = s := by
  apply ByteArray.ext
  apply Array.ext'
  rw [ofInts_toList, bytesOf, List.map_map]
  conv => rhs; rw [← List.map_id s.data.toList]
  refine List.map_congr_left fun b _ => ?_
  simp
theorem ofInts_size (xs : List Int) : (ofInts xs).size = xs.length := by
  have := congrArg List.length (ofInts_toList xs)
  rw [List.length_map, Array.length_toList] at this
  exact this
theorem ofInts_get {xs : List Int} (h : ByteL xs) {j : Nat} (hj : j < xs.length) : ∃ c : UInt8, (ofInts xs)[j]? = some c ∧ (c.toNat : Int) = xs.getD j 0 := by
  refine ⟨UInt8.ofNat (xs.getD j 0).toNat, ?_, ?_⟩
  · have hs : j < (ofInts xs).size := by rw [ofInts_size]; exact hj
    have h1 : (ofInts xs)[j]? = (ofInts xs).data.toList[j]? := by
      rw [Array.getElem?_toList]
      have hs' : j < (ofInts xs).data.size := hs
      rw [Array.getElem?_eq_getElem hs']
      show (if h : j < (ofInts xs).size then some _ else none) = _
      rw [dif_pos hs]
      rfl
    rw [h1, ofInts_toList, List.getElem?_map, List.getElem?_eq_getElem hj]
    simp [List.getD, List.getElem?_eq_getElem hj]
  · have h0 := h.getD j
    generalize xs.getD j 0 = z at *
    rw [UInt8.toNat_ofNat']
    omega
theorem strCells_ofInts {xs : List Int} (h : ByteL xs) : strCells (ofInts xs) = xs.map (Value.int .u8) := by
  unfold strCells
  rw [ofInts_toList, List.map_map]
  refine List.map_congr_left fun x hx => ?_
  have := h x hx
  simp [UInt8.toNat_ofNat']
  omega
theorem ofInts_app (xs ys : List Int) : ofInts xs ++ ofInts ys = ofInts (xs ++ ys) := by
  apply ByteArray.ext
  apply Array.ext'
  rw [ofInts_toList, List.map_append, ← ofInts_toList, ← ofInts_toList]
  simp
theorem ofInts_ext {xs : List Int} {l h : Nat} : (ofInts xs).extract l h = ofInts ((xs.take h).drop l) := by
  apply ByteArray.ext
  apply Array.ext'
  rw [ofInts_toList, List.map_drop, List.map_take, ← ofInts_toList]
  simp [List.extract, List.drop_take]
section
variable {P : Program} {R : Tm → Hp → Prop} {t : Tm} {X : List Nat} {H0 H H' : Hp} {L : List Ent} {d : Option Nat} {x y : Opd}
theorem aLenS {xs : List Int} (hx : ev t x = .string (ofInts xs)) (kk : R (upd t d (.int .i64 xs.length)) H) : aStep P ⟨d, .len 2 x, none⟩ R t H := ⟨_, H, by simp only [aI, hx, if_true, ofInts_size], kk⟩
theorem aIdxS {xs : List Int} {kd : IntKind} {j : Int} (hb : ByteL xs) (hx : ev t x = .string (ofInts xs)) (hy : ev t y = .int kd j) (hj : 0 ≤ j ∧ j < xs.length) (kk : R (upd t d (.int .u8 (xs.getD j.toNat 0))) H) : aStep P ⟨d, .idxS x y, none⟩ R t H := by
  obtain ⟨c, h1, h2⟩ := ofInts_get hb (j := j.toNat) (by omega)
  refine ⟨.int .u8 (xs.getD j.toNat 0), H, ?_, kk⟩
  simp only [aI, hx, hy, if_pos hj.1, h1, h2]
theorem aCatS {tk : Nat} {xs ys : List Int} (hx : ev t x = .string (ofInts xs)) (hy : ev t y = .string (ofInts ys)) (hl : xs.length + ys.length ≤ 9223372036854775807) (kk : R (upd t d (.string (ofInts (xs ++ ys)))) H) : aStep P ⟨d, .bin tk .add x y, none⟩ R t H := by
  refine ⟨.string (ofInts (xs ++ ys)), H, ?_, kk⟩
  simp only [aI, hx, hy, aBin, aStr, ofInts_size]
  rw [if_pos hl, ofInts_app]
  rfl
theorem aBytesS {e : TypeId} {xs : List Int} (st : Stt X H0 H L) (hb : ByteL xs) (hx : ev t x = .string (ofInts xs)) (hl : xs.length ≤ 9223372036854775807)
    (kk : ∀ b H', Stt X H0 H' (⟨some b, true, ⟨true, e, xs.map (Value.int .u8)⟩⟩ :: L) → R (upd t d (.slice (some ⟨b, 0, none⟩) xs.length 1)) H') : aStep P ⟨d, .bytesS e x, none⟩ R t H := by
  refine ⟨.slice (some ⟨H.nx, 0, none⟩) xs.length 1, H.push ⟨true, e, xs.map (Value.int .u8)⟩, ?_, kk H.nx _ (st.push _ rfl)⟩
  simp only [aI, hx, ofInts_size, strCells_ofInts hb]
  rw [if_pos hl]
theorem src_str {xs : List Int} (hb : ByteL xs) : H.src 1 (.string (ofInts xs)) = some (xs.length, xs.map (Value.int .u8)) := by
  simp [Hp.src, ofInts_size, strCells_ofInts hb]
end
theorem arg_text {P : Program} {H : Hp} {B D : Nat} {T : TypeId} {x : Value} (hu : P.underlying T = some .string) (h : datV P H B (D + 1) T x) : ∃ xs : List Int, x = .string (ofInts xs) ∧ ByteL xs ∧ xs.length ≤ 140737488351232 ∧ xs.length ≤ B := by
  obtain ⟨s, rfl, h1, h2⟩ := arg_string hu h
  exact ⟨bytesOf s, by rw [ofInts_bytesOf], bytesOf_bytes s, by rw [bytesOf_len]; exact h1, by rw [bytesOf_len]; exact h2⟩
theorem dat_text {P : Program} {H : Hp} {B D : Nat} {T : TypeId} {us : List Value} (hu : P.underlying T = some .string) (h : dat P H B (D + 1) T us) : ∃ xs : List Int, us = [.string (ofInts xs)] ∧ ByteL xs ∧ xs.length ≤ 140737488351232 ∧ xs.length ≤ B := by
  obtain ⟨s, rfl, h1, h2⟩ := dat_string hu h
  exact ⟨bytesOf s, by rw [ofInts_bytesOf], bytesOf_bytes s, by rw [bytesOf_len]; exact h1, by rw [bytesOf_len]; exact h2⟩
end Go.Proofs.Ytloeadlmcdddnaa.Abs
