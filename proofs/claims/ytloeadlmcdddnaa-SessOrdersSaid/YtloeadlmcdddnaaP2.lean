/- Further steps: zeros behind a slice; elements of an array that is a value. -/
import Derived.Test.YtloeadlmcdddnaaN3
import Derived.Test.YtloeadlmcdddnaaP1
set_option linter.unusedVariables false
set_option linter.unusedSimpArgs false
namespace Go.Proofs.Ytloeadlmcdddnaa.Abs
open Go Go.RowKit
theorem zeros_bytes (m : Nat) : ByteL (List.replicate m (0 : Int)) := fun x hx => by rw [List.eq_of_mem_replicate hx]; omega
theorem mkC0 (m : Nat) : mkCells [Value.int .u8 0] m = (List.replicate m (0 : Int)).map (Value.int .u8) := by
  apply List.ext_getElem
  · simp [mkCells]
  · intro i h1 h2
    simp [mkCells, Nat.mod_one]
section
variable {P : Program} {R : Tm → Hp → Prop} {t : Tm} {X : List Nat} {H0 H : Hp} {L : List Ent} {d : Option Nat} {x y : Opd}
theorem aAppZ {e : TypeId} {bytes m n : Nat} {k : IntKind} {ob : Option Nat} {rw0 : Bool} {e0 : TypeId} {cs0 : List Value} (st : Stt X H0 H L) (j : Nat) (hx : ev t x = accV ob n 1) (hi : L[j]? = some ⟨ob, true, ⟨rw0, e0, cs0⟩⟩) (he : e0 = e) (hlen : cs0.length = n * 1) (hy : ev t y = .int k (m : Int)) (hb : (n + m) * bytes ≤ 140737488355328) (hnm : n + m ≤ 140737488355328)
    (kk : ∀ ob' H', (0 < n + m → ∃ b, ob' = some b) → Stt X H0 H' (L.set j ⟨ob', true, ⟨true, e, cs0 ++ (List.replicate m (0 : Int)).map (Value.int .u8)⟩⟩) → R (upd t d (accV ob' (n + m) 1)) H') : aStep P ⟨d, .appendZ e 1 bytes [.int .u8 0] x y, none⟩ R t H := by
  have hs : H.src 1 (ev t (.c (.string (ofInts (List.replicate m (0 : Int)))))) = some (m, (List.replicate m (0 : Int)).map (Value.int .u8)) := by
    have := src_str (H := H) (zeros_bytes m)
    rw [List.length_replicate] at this
    exact this
  obtain ⟨v, H', h1, h2⟩ := aApp (P := P) (y := .c (.string (ofInts (List.replicate m (0 : Int))))) (d := d) (bytes := bytes) st j hx hi he (by decide) hlen hs (by simp) hb hnm kk
  refine ⟨v, H', ?_, h2⟩
  simp only [aI, hs] at h1
  simp only [aI, hy]
  rw [if_pos (by omega), show ((m : Int)).toNat = m from rfl, mkC0]
  exact h1
theorem aSame {b o n c j : Nat} {k : Blk} (st : Stt X H0 H L) (hx : ev t x = .slice (some ⟨b, o, none⟩) n c) (hi : L[j]? = some ⟨some b, true, k⟩) (hn : 0 < n) (kk : R (upd t d (.slice (some ⟨b, o, none⟩) n c)) H) : aStep P ⟨d, .same x, none⟩ R t H := by
  have hrw : k.rw = true := (st.own _ (List.mem_of_getElem? hi) rfl).1
  refine ⟨_, H, ?_, kk⟩
  simp only [aI, hx, st.get hi]
  rw [if_pos ⟨hrw, .inl hn⟩]
theorem aIdxA {n : Nat} {us : List Value} {kd : IntKind} {j : Nat} {v : Value} (hx : ev t x = .agg us.toArray) (hy : ev t y = .int kd (j : Int)) (hj : j < n) (hv : us[j]? = some v) (kk : R (upd t d v) H) : aStep P ⟨d, .idxA n 1 false x y, none⟩ R t H := by
  have hl := (List.getElem?_eq_some_iff.1 hv).1
  refine ⟨v, H, ?_, kk⟩
  simp only [aI, hx, hy]
  rw [if_pos ⟨by omega, by omega, by simp; omega⟩]
  simp only [show ((j : Int)).toNat = j from rfl, Nat.mul_one]
  rw [if_neg (by decide), hv]
/-- A byte of a slice: told for all later blocks, too. -/
theorem aIxBK {n : Nat} {xs : List Int} {u : Value} {kd kb : IntKind} {j : Int} (hs : Sl H 1 n (xs.map (Value.int kb)) u) (hx : ev t x = u) (hy : ev t y = .int kd j) (hj : 0 ≤ j ∧ j < n)
    (kk : ∀ b o, (∀ H1, Sl H1 1 n (xs.map (Value.int kb)) u → H1.get b o 1 = some [.int kb (xs.getD j.toNat 0)]) → R (upd t d (.pointer (some ⟨b, o, none⟩))) H) : aStep P ⟨d, .iadr 1 x y, none⟩ R t H := by
  obtain ⟨hl, ⟨rfl, _⟩ | ⟨hn, b, o, c, rfl, hg⟩⟩ := hs
  · omega
  · refine ⟨.pointer (some ⟨b, o + j.toNat * 1, none⟩), H, ?_, kk b _ fun H1 h1 => ?_⟩
    · simp only [aI, hx, hy, if_pos hj]
    · obtain ⟨_, ⟨h0, _⟩ | ⟨_, b', o', c', e, hg1⟩⟩ := h1
      · omega
      · injection e with e e2 e3
        injection e with e
        injection e with e e4
        subst e e4
        have hlen := hl
        simp only [List.length_map, Nat.mul_one] at hlen
        rw [get_part hg1 (show j.toNat * 1 + 1 ≤ n * 1 by omega), Nat.mul_one, drop_take_one (v := .int kb (xs.getD j.toNat 0))]
        have : j.toNat < xs.length := by omega
        simp [List.getElem?_map, List.getElem?_eq_getElem this]
end
end Go.Proofs.Ytloeadlmcdddnaa.Abs
