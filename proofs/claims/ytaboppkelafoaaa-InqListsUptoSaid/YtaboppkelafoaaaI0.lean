/- Who a unit is: what is told, in plain words. -/
import Derived.Test.YtaboppkelafoaaaS4
import Derived.Test.YtaboppkelafoaaaN3
set_option linter.unusedVariables false
set_option linter.unusedSimpArgs false
namespace Go.Proofs.Ytaboppkelafoaaa.Abs
open Go Go.RowKit
structure Inf where
  v : List Int
  p : List Int
  r : List Int
  s : List Int
  prot : Int
def TxB (xs : List Int) : Prop := ByteL xs ∧ xs.length ≤ 140737488351232
def Inf.wf (i : Inf) : Prop := TxB i.v ∧ TxB i.p ∧ TxB i.r ∧ TxB i.s ∧ 0 ≤ i.prot ∧ i.prot < 256
def printed (c : Int) : Bool := decide (32 ≤ c ∧ c ≤ 126)
def textOk (xs : List Int) (l m : Int) : Bool := xs.all printed && (decide (l ≤ xs.length) && decide ((xs.length : Int) ≤ m))
def formI (i : Inf) : Bool := textOk i.v 0 8 && (textOk i.p 0 16 && (textOk i.r 0 4 && (textOk i.s 1 20 && decide (i.prot ≤ 3))))
def wideL (xs : List Int) (n : Nat) : List Int := xs ++ List.replicate (n - xs.length) 32
theorem wide_bytes {xs : List Int} {n : Nat} (h : ByteL xs) : ByteL (wideL xs n) := h.app fun x hx => by rw [List.eq_of_mem_replicate hx]; omega
theorem wide_len {xs : List Int} {n : Nat} (h : xs.length ≤ n) : (wideL xs n).length = n := by simp [wideL]; omega
theorem all_take {xs : List Int} {j : Nat} (h : j < xs.length) : (xs.take (j + 1)).all printed = ((xs.take j).all printed && printed (xs.getD j 0)) := by
  rw [List.take_succ_eq_append_getElem h, List.all_append]
  simp [List.getD, List.getElem?_eq_getElem h]
theorem all_no {xs : List Int} {j : Nat} (h : j < xs.length) (hp : printed (xs.getD j 0) = false) : xs.all printed = false := by
  rw [List.all_eq_false]
  refine ⟨xs[j], List.getElem_mem h, ?_⟩
  simpa [List.getD, List.getElem?_eq_getElem h] using hp
def stdB (i : Inf) : List Int := [0, 0, 6, 2, 31, if i.prot > 0 then 1 else 0, 0, 2] ++ (wideL i.v 8 ++ (wideL i.p 16 ++ wideL i.r 4))
def stdL (i : Inf) : List Int := if formI i = true then stdB i else []
def pgB0 : List Int := [0, 255, 0, 0, 0, 0, 1, 0, 0, 0, 0, 0, 0, 0, 0, 0, 0, 0, 1, 0, 0, 0, 0, 8, 0, 0, 0, 0, 0, 0, 0, 0, 0, 0, 0, 0, 0, 0, 0, 0, 0, 0, 0, 0, 0, 0, 0, 0, 0, 0, 0, 0, 0, 0, 0, 0, 0, 0, 0, 0]
def pageB (i : Inf) (pg : Int) : Option (List Int) := if pg = 0 then some [0, 128, 131, 176, 178] else if pg = 128 then some i.s else if pg = 131 then some ([2, 1, 0, 8 + (i.s.length : Int)] ++ (wideL i.v 8 ++ i.s)) else if pg = 176 then some pgB0 else if pg = 178 then some [0, 224, 2, 0] else none
def pageR (i : Inf) (pg : Int) : Option (List Int) := if formI i = true then (pageB i pg).map fun b => [0, pg, 0, (b.length : Int)] ++ b else none
def pageL (i : Inf) (pg : Int) : List Int := (pageR i pg).getD []
theorem textOk_len {xs : List Int} {l m : Int} (h : textOk xs l m = true) : l ≤ xs.length ∧ (xs.length : Int) ≤ m := by
  simp only [textOk, Bool.and_eq_true, decide_eq_true_eq] at h
  exact h.2
theorem page_eq {i : Inf} {pg : Int} {b : List Int} (hk : formI i = true) (hb : pageB i pg = some b) : pageL i pg = [0, pg, 0, (b.length : Int)] ++ b ∧ (pageR i pg).isSome = true := by
  unfold pageL pageR
  rw [if_pos hk, hb]
  exact ⟨rfl, rfl⟩
theorem form_lens {i : Inf} (h : formI i = true) : i.v.length ≤ 8 ∧ i.p.length ≤ 16 ∧ i.r.length ≤ 4 ∧ 1 ≤ i.s.length ∧ i.s.length ≤ 20 ∧ i.prot ≤ 3 := by
  simp only [formI, Bool.and_eq_true, decide_eq_true_eq] at h
  obtain ⟨h1, h2, h3, h4, h5⟩ := h
  have := textOk_len h1
  have := textOk_len h2
  have := textOk_len h3
  have := textOk_len h4
  omega
end Go.Proofs.Ytaboppkelafoaaa.Abs
