/- PDUs: what is told, in plain words. -/
import Derived.Test.YtloeadlmcdddnaaK2
import Derived.Test.YtloeadlmcdddnaaP2
set_option linter.unusedVariables false
set_option linter.unusedSimpArgs false
set_option maxRecDepth 100000
namespace Go.Proofs.Ytloeadlmcdddnaa.Abs
open Go Go.RowKit
structure Pd where
  op : Int
  fl : Int
  res : Int
  st : Int
  lun : Int
  tag : Int
  w0 : Int
  w1 : Int
  w2 : Int
  w3 : Int
  w4 : Int
  w5 : Int
  w6 : Int
  data : List Int
def B8 (n : Int) : Prop := 0 ≤ n ∧ n < 256
def B32 (n : Int) : Prop := 0 ≤ n ∧ n < 4294967296
def Pd.ws (p : Pd) : List Int := [p.w0, p.w1, p.w2, p.w3, p.w4, p.w5, p.w6]
def Pd.wf (p : Pd) : Prop := (B8 p.op ∧ B8 p.fl ∧ B8 p.res ∧ B8 p.st ∧ B8 p.lun) ∧ B32 p.tag ∧ (∀ w ∈ p.ws, B32 w) ∧ ByteL p.data ∧ p.data.length ≤ 140737488351232
def padN (n : Nat) : Nat := (4 - n % 4) % 4
def headL (p : Pd) (j : Nat) : List Int := [p.op, p.fl, p.res, p.st, 0] ++ beB 3 p.data.length ++ [0, p.lun, 0, 0, 0, 0, 0, 0] ++ beB 4 p.tag ++ (p.ws.take j).flatMap (beB 4) ++ List.replicate (4 * (7 - j)) 0
def bodyL (p : Pd) : List Int := p.data ++ List.replicate (padN p.data.length) 0
def hdrL (p : Pd) (h : Bool) : List Int := headL p 7 ++ (if h = true then beB 4 (c32 (headL p 7)) else [])
def encB (p : Pd) (h d : Bool) : List Int := hdrL p h ++ (bodyL p ++ (if d = true ∧ 0 < (bodyL p).length then beB 4 (c32 (bodyL p)) else []))
def encE (p : Pd) : Int := if p.data.length > 8192 then 2 else 0
def encR (p : Pd) (h d : Bool) : List Int := if p.data.length > 8192 then [] else encB p h d
theorem flat_len (l : List Int) (n : Nat) : (l.flatMap (beB n)).length = n * l.length := by
  induction l with
  | nil => rfl
  | cons x l ih => simp only [List.flatMap_cons, List.length_append, List.length_cons, ih, beB_len, Nat.mul_add, Nat.mul_one]; omega
theorem headL_len (p : Pd) {j : Nat} (hj : j ≤ 7) : (headL p j).length = 48 := by
  unfold headL
  simp only [List.length_append, flat_len, beB_len, List.length_take, List.length_cons, List.length_nil, List.length_replicate, Pd.ws]
  omega
theorem headL_step (p : Pd) {j : Nat} (hj : j < 7) : (headL p j).take (20 + 4 * j) ++ beB 4 (p.ws.getD j 0) ++ (headL p j).drop (20 + 4 * j + 4) = headL p (j + 1) := by
  have hw : j < p.ws.length := hj
  have e : (p.ws.take (j + 1)).flatMap (beB 4) = (p.ws.take j).flatMap (beB 4) ++ beB 4 (p.ws.getD j 0) := by
    rw [List.take_succ_eq_append_getElem hw, List.flatMap_append]
    simp [List.getD, List.getElem?_eq_getElem hw]
  have ht : (p.ws.take j).length = j := by rw [List.length_take]; omega
  obtain ⟨Q, hQd⟩ : ∃ Q, Q = [p.op, p.fl, p.res, p.st, 0] ++ beB 3 (p.data.length : Int) ++ [0, p.lun, 0, 0, 0, 0, 0, 0] ++ beB 4 p.tag ++ (p.ws.take j).flatMap (beB 4) := ⟨_, rfl⟩
  have hQ : Q.length = 20 + 4 * j := by
    rw [hQd]
    simp only [List.length_append, flat_len, beB_len, ht, List.length_cons, List.length_nil]
  have hq : headL p j = Q ++ List.replicate (4 * (7 - j)) 0 := by rw [hQd]; rfl
  have hr : headL p (j + 1) = (Q ++ beB 4 (p.ws.getD j 0)) ++ List.replicate (4 * (7 - (j + 1))) 0 := by
    rw [hQd]; unfold headL; rw [e]; simp only [List.append_assoc]
  rw [hq, hr, List.take_append_of_le_length (by omega), List.take_of_length_le (by omega), List.drop_append, List.drop_of_length_le (by omega), List.nil_append, List.drop_replicate, show 4 * (7 - j) - (20 + 4 * j + 4 - Q.length) = 4 * (7 - (j + 1)) by omega]
theorem bodyL_len (p : Pd) : (bodyL p).length = p.data.length + padN p.data.length := by simp [bodyL]
theorem padN_le (n : Nat) : padN n ≤ 3 ∧ (n + padN n) % 4 = 0 := by unfold padN; omega
theorem padN_eq (n : Nat) : IntKind.i64.wrap 4 = 4 := by decide
theorem ws_getD (p : Pd) (j : Nat) (hj : j < 7) : p.ws.getD j 0 ∈ p.ws := by
  have hw : j < p.ws.length := hj
  simp [List.getD, List.getElem?_eq_getElem hw]
theorem ws_at (p : Pd) {j : Nat} (hj : j < 7) : ([Value.int .u32 p.w0, .int .u32 p.w1, .int .u32 p.w2, .int .u32 p.w3, .int .u32 p.w4, .int .u32 p.w5, .int .u32 p.w6] : List Value)[j]? = some (.int .u32 (p.ws.getD j 0)) := by
  have : j = 0 ∨ j = 1 ∨ j = 2 ∨ j = 3 ∨ j = 4 ∨ j = 5 ∨ j = 6 := by omega
  rcases this with h | h | h | h | h | h | h <;> subst h <;> rfl
theorem bodyL_bytes {p : Pd} (hp : p.wf) : ByteL (bodyL p) := hp.2.2.2.1.app (zeros_bytes _)
theorem flat_bytes : ∀ (l : List Int) (n : Nat), ByteL (l.flatMap (beB n))
  | [], n => ByteL.nil
  | x :: l, n => by rw [List.flatMap_cons]; exact (beB_bytes n x).app (flat_bytes l n)
theorem headL_bytes {p : Pd} (hp : p.wf) (j : Nat) : ByteL (headL p j) := by
  obtain ⟨⟨h1, h2, h3, h4, h5⟩, _⟩ := hp
  unfold B8 at *
  unfold headL
  refine (((((?_ : ByteL _).app (beB_bytes _ _)).app ?_).app (beB_bytes _ _)).app (flat_bytes _ _)).app (zeros_bytes _)
  · simp only [byteL_cons, byteL_nil, and_true]; omega
  · simp only [byteL_cons, byteL_nil, and_true]; omega
end Go.Proofs.Ytloeadlmcdddnaa.Abs
