/- Steps through an abstract text. -/
import Derived.Test.YtloeadlmcdddnaaA17
set_option linter.unusedVariables false
set_option linter.unusedSimpArgs false
namespace Go.Proofs.Ytloeadlmcdddnaa.Abs
open Go Go.RowKit
section
variable {P : Program} {os : List AO} {K : Tm → Hp → Prop} {t : Tm} {H H' : Hp} {d : Option Nat} {i : AI} {v : Value} {x y : Opd}
/-- A value, told by its constructor. -/
inductive Nf : Value → Value → Prop
  | int (k : IntKind) (n : Int) : Nf (.int k n) (.int k n)
  | bool (b : Bool) : Nf (.bool b) (.bool b)
  | slice (p : Option Addr) (n c : Nat) : Nf (.slice p n c) (.slice p n c)
  | pointer (p : Option Addr) : Nf (.pointer p) (.pointer p)
  | agg (xs : Array Value) : Nf (.agg xs) (.agg xs)
  | tuple (xs : Array Value) : Nf (.tuple xs) (.tuple xs)
  | string (s : ByteArray) : Nf (.string s) (.string s)
  | nilIface : Nf .nilIface .nilIface
  | iface (t : TypeId) (v : Value) : Nf (.iface t v) (.iface t v)
  | any (v : Value) : Nf v v
theorem Nf.eq {u v : Value} (h : Nf u v) : u = v := by cases h <;> rfl
/-- An instruction that calls nobody. -/
theorem sN {i : AI} {v' : Value} (hn : aRun P i (ev t) H (fun v H' => AWl P os K (upd t d v) H') = ∃ v H', aI i (ev t) H = some (v, H') ∧ AWl P os K (upd t d v) H') (h : aI i (ev t) H = some (v, H')) (nf : Nf v v') (k : AWl P os K (upd t d v') H') : AWl P (⟨d, i, none⟩ :: os) K t H := by
  show aRun P i (ev t) H _
  rw [hn]
  exact ⟨v, H', h, by rw [nf.eq]; exact k⟩
theorem sT {i : AI} {g : Nat} {want : Bool} {v' : Value} (hg : t g = .bool want) (hn : aRun P i (ev t) H (fun v H' => AWl P os K (upd t d v) H') = ∃ v H', aI i (ev t) H = some (v, H') ∧ AWl P os K (upd t d v) H') (h : aI i (ev t) H = some (v, H')) (nf : Nf v v') (k : AWl P os K (upd t d v') H') : AWl P (⟨d, i, some (g, want)⟩ :: os) K t H := by
  refine ⟨some want, by rw [hg]; exact .bool _, ?_⟩
  rw [if_pos rfl, hn]
  exact ⟨v, H', h, by rw [nf.eq]; exact k⟩
theorem sF {i : AI} {g : Nat} {want b : Bool} (hg : t g = .bool b) (hb : b ≠ want) (k : AWl P os K (upd t d undef) H) : AWl P (⟨d, i, some (g, want)⟩ :: os) K t H := by
  refine ⟨some b, by rw [hg]; exact .bool _, ?_⟩
  rw [if_neg (fun h => hb (Option.some.inj h))]
  exact k
theorem sC {f : FuncId} {xs : List Opd} {K' : Value → Hp → Prop} (h : ACalls P f (xs.map (ev t)) H K') (k : ∀ v H', K' v H' → AWl P os K (upd t d v) H') : AWl P (⟨d, .call f xs, none⟩ :: os) K t H := h.mono k
theorem sCT {f : FuncId} {xs : List Opd} {K' : Value → Hp → Prop} {g : Nat} {want : Bool} (hg : t g = .bool want) (h : ACalls P f (xs.map (ev t)) H K') (k : ∀ v H', K' v H' → AWl P os K (upd t d v) H') : AWl P (⟨d, .call f xs, some (g, want)⟩ :: os) K t H := by
  refine ⟨some want, by rw [hg]; exact .bool _, ?_⟩
  rw [if_pos rfl]
  exact h.mono k
theorem sE (k : K t H) : AWl P [] K t H := k
theorem upd_self {k : Nat} {u : Value} (h : t k = u) : upd t (some k) u = t := by
  funext j
  simp only [upd]
  split
  · rename_i e; rw [e, h]
  · rfl
/-! partial instructions -/
theorem e_iadr {sz b o n c : Nat} {kd : IntKind} {j : Int} (hx : ev t x = .slice (some ⟨b, o, none⟩) n c) (hy : ev t y = .int kd j) (h : 0 ≤ j ∧ j < n) : aI (.iadr sz x y) (ev t) H = some (.pointer (some ⟨b, o + j.toNat * sz, none⟩), H) := by
  simp only [aI, hx, hy, if_pos h]
theorem e_load {b o : Nat} (hx : ev t x = .pointer (some ⟨b, o, none⟩)) (h : H.get b o 1 = some [v]) : aI (.load x) (ev t) H = some (v, H) := by
  simp only [aI, hx, h]
theorem e_shr {tk : Nat} {k k' : IntKind} {a b : Int} (hx : ev t x = .int k a) (hy : ev t y = .int k' b) (h : 0 ≤ b) : aI (.bin tk .shr x y) (ev t) H = some (.int k (a.fdiv (2 ^ min b.toNat k.bits)), H) := by
  simp only [aI, hx, hy, aBin, isShift, aShift, if_neg (show ¬ b < 0 by omega)]
  rfl
theorem e_shl {tk : Nat} {k k' : IntKind} {a b : Int} (hx : ev t x = .int k a) (hy : ev t y = .int k' b) (h : 0 ≤ b) : aI (.bin tk .shl x y) (ev t) H = some (.int k (k.wrap (a * 2 ^ min b.toNat k.bits)), H) := by
  simp only [aI, hx, hy, aBin, isShift, aShift, if_neg (show ¬ b < 0 by omega)]
  rfl
/-- An element of a slice. -/
theorem get_sl {b o n c : Nat} {xs : List Value} {j : Nat} (h : H.sl 1 (.slice (some ⟨b, o, none⟩) n c) = some xs) (hj : j < n) (hv : xs[j]? = some v) : H.get b (o + j) 1 = some [v] := by
  unfold Hp.sl at h
  simp only at h
  rw [if_neg (by omega)] at h
  unfold Hp.get at h ⊢
  split at h
  · rename_i k hk
    rw [Nat.mul_one] at h
    split at h
    · rename_i hle
      injection h with h
      rw [if_pos (by omega)]
      rw [← h, List.getElem?_take, if_pos hj, List.getElem?_drop] at hv
      have hlt : o + j < k.cells.length := by omega
      rw [List.getElem?_eq_getElem hlt] at hv
      injection hv with hv
      rw [← hv]
      congr 1
      rw [List.drop_eq_getElem_cons hlt]
      rfl
    · cases h
  · cases h
theorem AW_loop {x : AC} {Q : Exit → Tm → Hp → Prop} (I : Tm → Hp → Prop) (μ : Tm → Hp → Nat) (h0 : I t H) (h : ∀ t H, I t H → AW P x (xThen (fun t' H' => I t' H' ∧ μ t' H' < μ t H) Q) t H) : AW P (.loop x) Q t H := ⟨I, μ, h0, h⟩
theorem AW_cond {c : Opd} {x y : AC} {Q : Exit → Tm → Hp → Prop} {b : Bool} (hb : ev t c = .bool b) (h1 : b = true → AW P x Q t H) (h2 : b = false → AW P y Q t H) : AW P (.cond c x y) Q t H := by
  refine ⟨b, hb, ?_⟩
  cases b
  · exact h2 rfl
  · exact h1 rfl
/-! blocks -/
def Wf (H : Hp) : Prop := ∀ b k, H.m b = some k → b < H.nx
/-- What was there stands. -/
def Frm (H H' : Hp) : Prop := H.nx ≤ H'.nx ∧ ∀ b, b < H.nx → H'.m b = H.m b
theorem Frm.refl (H : Hp) : Frm H H := ⟨Nat.le_refl _, fun _ _ => rfl⟩
theorem Frm.trans {A B C : Hp} (h : Frm A B) (k : Frm B C) : Frm A C := ⟨Nat.le_trans h.1 k.1, fun b hb => (k.2 b (Nat.lt_of_lt_of_le hb h.1)).trans (h.2 b hb)⟩
theorem Frm.push (H : Hp) (x : Blk) : Frm H (H.push x) := ⟨Nat.le_succ _, fun b hb => by show (if b = H.nx then _ else _) = _; rw [if_neg (by omega)]⟩
theorem Frm.set {H0 H : Hp} (h : Frm H0 H) {b : Nat} (hb : H0.nx ≤ b) (x : Blk) : Frm H0 (H.set b x) := ⟨h.1, fun c hc => by show (if c = b then _ else _) = _; rw [if_neg (by omega)]; exact h.2 c hc⟩
theorem Frm.cut {H0 H : Hp} (h : Frm H0 H) {b : Nat} (hb : H0.nx ≤ b) : Frm H0 (H.cut b) := ⟨h.1, fun c hc => by show (if c = b then _ else _) = _; rw [if_neg (by omega)]; exact h.2 c hc⟩
theorem acallsW {f : FuncId} {fn : Func} {c : AC} {rs : List AR} {xs : List Value} {K : Value → Hp → Prop} (hf : P.funcs[f]? = some fn) (hc : cF P fn = some (c, rs)) (hx : xs.length ≤ fn.ntmps) (hs : Wf H → AW P c (Fin rs K) (fun i => xs.getD i undef) H) : ACalls P f xs H K := fun ρ w0 w ys h1 h2 =>
  acalls hf hc hx (hs fun b k hk => h2.live hk) ρ w0 w ys h1 h2
theorem e_store {n b o : Nat} {k : Blk} {u : Value} (hx : ev t x = .pointer (some ⟨b, o, none⟩)) (hy : ev t y = u) (hu : notTup u = true) (hn : (cellsOf u).length = n) (hk : H.m b = some k) (hrw : k.rw = true) (hl : o + n ≤ k.cells.length) :
    aI (.store n x y) (ev t) H = some (undef, H.set b { k with cells := k.cells.take o ++ cellsOf u ++ k.cells.drop (o + n) }) := by
  simp only [aI, hx, hy, hu, hn, and_self, if_true, Hp.put, hk, hrw]
  rw [if_pos (by omega)]
  rfl
theorem e_loadA {n b o : Nat} {k : Blk} {xs : List Value} (hx : ev t x = .pointer (some ⟨b, o, none⟩)) (hk : H.m b = some k) (hl : o + n ≤ k.cells.length) (hxs : (k.cells.drop o).take n = xs) : aI (.loadA n x) (ev t) H = some (.agg xs.toArray, H) := by
  simp only [aI, hx, Hp.get, hk, if_pos hl, hxs]
  rfl
theorem get_of {b o n : Nat} {k : Blk} (hk : H.m b = some k) (hl : o + n ≤ k.cells.length) : H.get b o n = some ((k.cells.drop o).take n) := by
  simp only [Hp.get, hk, if_pos hl]
theorem sl_of {b o n c : Nat} {sz : Nat} {k : Blk} {xs : List Value} (hk : H.m b = some k) (hl : o + n * sz ≤ k.cells.length) (hxs : (k.cells.drop o).take (n * sz) = xs) (hn : 0 < n) : H.sl sz (.slice (some ⟨b, o, none⟩) n c) = some xs := by
  simp only [Hp.sl]
  rw [if_neg (by omega), get_of hk hl, hxs]
theorem out_cellA {m z b o : Nat} {k : Blk} {xs : List Value} (hx : t z = .pointer (some ⟨b, o, none⟩)) (hk : H.m b = some k) (hl : o + m ≤ k.cells.length) (hxs : (k.cells.drop o).take m = xs) : aOut t H [.cellA m z] = some (.agg xs.toArray) := by
  simp only [aOut, aResL, aRes, hx, get_of hk hl, hxs]
  rfl
/-- A slice that a call builds by appending: nil where nothing was laid. -/
def Acc (H : Hp) (lo : Nat) (e : TypeId) (sz : Nat) (v : Value) (cells : List Value) (n : Nat) : Prop :=
  cells.length = n * sz ∧ ((n = 0 ∧ v = .slice none 0 0) ∨ ∃ b, lo ≤ b ∧ v = .slice (some ⟨b, 0, none⟩) n sz ∧ H.m b = some ⟨true, e, cells⟩)
theorem Acc.nil (H : Hp) (lo : Nat) (e : TypeId) (sz : Nat) : Acc H lo e sz (.slice none 0 0) [] 0 := ⟨by simp, .inl ⟨rfl, rfl⟩⟩
theorem Acc.frm {H H' : Hp} {lo : Nat} {e : TypeId} {sz : Nat} {v : Value} {cells : List Value} {n : Nat} (h : Acc H lo e sz v cells n) (hw : Wf H) (hf : Frm H H') : Acc H' lo e sz v cells n := by
  obtain ⟨h1, h2⟩ := h
  refine ⟨h1, ?_⟩
  rcases h2 with h2 | ⟨b, h3, h4, h5⟩
  · exact .inl h2
  · exact .inr ⟨b, h3, h4, by rw [hf.2 b (hw b _ h5)]; exact h5⟩
theorem Wf.push {H : Hp} (h : Wf H) (x : Blk) : Wf (H.push x) := fun b k hk => by
  replace hk : (if b = H.nx then some x else H.m b) = some k := hk
  show b < H.nx + 1
  by_cases e : b = H.nx
  · omega
  · rw [if_neg e] at hk
    have := h b k hk
    omega
theorem Wf.cut {H : Hp} (h : Wf H) (c : Nat) : Wf (H.cut c) := fun b k hk => by
  replace hk : (if b = c then none else H.m b) = some k := hk
  by_cases e : b = c
  · rw [if_pos e] at hk; cases hk
  · rw [if_neg e] at hk
    exact h b k hk
theorem Wf.set {H : Hp} (h : Wf H) {c : Nat} (hc : c < H.nx) (x : Blk) : Wf (H.set c x) := fun b k hk => by
  replace hk : (if b = c then some x else H.m b) = some k := hk
  by_cases e : b = c
  · subst e; exact hc
  · rw [if_neg e] at hk
    exact h b k hk
/-- What lies below a number stands. -/
def Low (lo : Nat) (H H' : Hp) : Prop := H.nx ≤ H'.nx ∧ ∀ b, b < lo → H'.m b = H.m b
theorem Low.trans {lo : Nat} {A B C : Hp} (h : Low lo A B) (k : Low lo B C) : Low lo A C := ⟨Nat.le_trans h.1 k.1, fun b hb => (k.2 b hb).trans (h.2 b hb)⟩
theorem Low.refl (lo : Nat) (A : Hp) : Low lo A A := ⟨Nat.le_refl _, fun _ _ => rfl⟩
theorem Low.push {lo : Nat} (H : Hp) (h : lo ≤ H.nx) (x : Blk) : Low lo H (H.push x) := ⟨Nat.le_succ _, fun b hb => by show (if b = H.nx then _ else _) = _; rw [if_neg (by omega)]⟩
theorem Low.cut {lo : Nat} (H : Hp) {c : Nat} (h : lo ≤ c) : Low lo H (H.cut c) := ⟨Nat.le_refl _, fun b hb => by show (if b = c then _ else _) = _; rw [if_neg (by omega)]⟩
theorem Low.of_frm {H H' : Hp} {lo : Nat} (h : Frm H H') (hl : lo ≤ H.nx) : Low lo H H' := ⟨h.1, fun b hb => h.2 b (by omega)⟩
theorem Low.frm {H H' : Hp} (h : Low H.nx H H') : Frm H H' := h
theorem appendTo_acc {lo : Nat} {e : TypeId} {sz bytes m n : Nat} {u : Value} {cells ys : List Value} (ha : Acc H lo e sz u cells n) (hw : Wf H) (hlo : lo ≤ H.nx) (hys : ys.length = m * sz) (hb : (n + m) * bytes ≤ 140737488355328) (hnm : n + m ≤ 140737488355328) :
    ∃ v' H', appendTo H e sz bytes m ys u = some (v', H') ∧ Acc H' lo e sz v' (cells ++ ys) (n + m) ∧ Wf H' ∧ Low lo H H' := by
  obtain ⟨h1, h2⟩ := ha
  rcases h2 with ⟨rfl, rfl⟩ | ⟨b, h3, rfl, h5⟩
  · have hc : cells = [] := List.eq_nil_of_length_eq_zero (by simpa using h1)
    subst hc
    by_cases hm : m = 0
    · subst hm
      have : ys = [] := List.eq_nil_of_length_eq_zero (by simpa using hys)
      subst this
      exact ⟨.slice none 0 0, H, by simp [appendTo], Acc.nil H lo e sz, hw, Low.refl _ _⟩
    · refine ⟨.slice (some ⟨H.nx, 0, none⟩) m sz, H.push ⟨true, e, ys⟩, ?_, ⟨by simp [hys], .inr ⟨H.nx, hlo, by rw [Nat.zero_add], by simp [Hp.push]⟩⟩, hw.push _, Low.push H hlo _⟩
      simp only [appendTo]
      rw [if_neg hm, if_pos ⟨by simpa using hb, by omega⟩]
  · refine ⟨.slice (some ⟨H.nx, 0, none⟩) (n + m) sz, (H.cut b).push ⟨true, e, cells ++ ys⟩, ?_, ⟨by rw [List.length_append, h1, hys, Nat.add_mul], .inr ⟨H.nx, hlo, rfl, by show (if H.nx = H.nx then _ else _) = _; rw [if_pos rfl]⟩⟩, (hw.cut b).push _, (Low.cut H h3).trans (Low.push (H.cut b) hlo _)⟩
    simp only [appendTo, h5]
    rw [if_pos ⟨trivial, trivial, trivial, h1, hb, by omega⟩]
theorem e_append {lo : Nat} {e : TypeId} {sz bytes m n : Nat} {u : Value} {cells ys : List Value} (hx : ev t x = u) (ha : Acc H lo e sz u cells n) (hw : Wf H) (hlo : lo ≤ H.nx) (hsrc : H.src sz (ev t y) = some (m, ys)) (hys : ys.length = m * sz) (hb : (n + m) * bytes ≤ 140737488355328) (hnm : n + m ≤ 140737488355328) :
    ∃ v' H', aI (.append e sz bytes x y) (ev t) H = some (v', H') ∧ Acc H' lo e sz v' (cells ++ ys) (n + m) ∧ Wf H' ∧ Low lo H H' := by
  obtain ⟨v', H', h1, h2⟩ := appendTo_acc (bytes := bytes) ha hw hlo hys hb hnm
  exact ⟨v', H', by simp only [aI, hsrc, hx]; exact h1, h2⟩
theorem sApp {lo : Nat} {e : TypeId} {sz bytes m n : Nat} {u : Value} {cells ys : List Value} (hx : ev t x = u) (ha : Acc H lo e sz u cells n) (hw : Wf H) (hlo : lo ≤ H.nx) (hsrc : H.src sz (ev t y) = some (m, ys)) (hys : ys.length = m * sz) (hb : (n + m) * bytes ≤ 140737488355328) (hnm : n + m ≤ 140737488355328)
    (k : ∀ v' H', Acc H' lo e sz v' (cells ++ ys) (n + m) → Wf H' → Low lo H H' → AWl P os K (upd t d v') H') : AWl P (⟨d, .append e sz bytes x y, none⟩ :: os) K t H := by
  obtain ⟨v', H', h1, h2, h3, h4⟩ := e_append (t := t) (x := x) (y := y) hx ha hw hlo hsrc hys hb hnm
  exact sN rfl h1 (.any v') (k v' H' h2 h3 h4)
theorem src_one {b : Nat} {e : TypeId} {v : Value} {c : Nat} (h : H.m b = some ⟨true, e, [v]⟩) : H.src 1 (.slice (some ⟨b, 0, none⟩) 1 c) = some (1, [v]) := by
  show (Hp.sl _ 1 (.slice _ _ _)).map _ = _
  rw [sl_of (k := ⟨true, e, [v]⟩) (xs := [v]) h (by simp) rfl (by omega)]
  rfl
/-! steps of a plan -/
variable {p q : AP} {cs : List AO}
theorem pN {i : AI} {v' : Value} (hn : aRun P i (ev t) H (fun v H' => AWp P p K (upd t d v) H') = ∃ v H', aI i (ev t) H = some (v, H') ∧ AWp P p K (upd t d v) H') (h : aI i (ev t) H = some (v, H')) (nf : Nf v v') (k : AWp P p K (upd t d v') H') : AWp P (.quiet ⟨d, i, none⟩ p) K t H := by
  show aRun P i (ev t) H _
  rw [hn]
  exact ⟨v, H', h, by rw [nf.eq]; exact k⟩
theorem pT {i : AI} {g : Nat} {want : Bool} {v' : Value} (hg : t g = .bool want) (hn : aRun P i (ev t) H (fun v H' => AWp P p K (upd t d v) H') = ∃ v H', aI i (ev t) H = some (v, H') ∧ AWp P p K (upd t d v) H') (h : aI i (ev t) H = some (v, H')) (nf : Nf v v') (k : AWp P p K (upd t d v') H') : AWp P (.quiet ⟨d, i, some (g, want)⟩ p) K t H := by
  refine ⟨some want, by rw [hg]; exact .bool _, ?_⟩
  rw [if_pos rfl, hn]
  exact ⟨v, H', h, by rw [nf.eq]; exact k⟩
theorem pF {i : AI} {g : Nat} {want b : Bool} (hg : t g = .bool b) (hb : b ≠ want) (k : AWp P p K (upd t d undef) H) : AWp P (.quiet ⟨d, i, some (g, want)⟩ p) K t H := by
  refine ⟨some b, by rw [hg]; exact .bool _, ?_⟩
  rw [if_neg (fun h => hb (Option.some.inj h))]
  exact k
theorem pC {f : FuncId} {xs : List Opd} {K' : Value → Hp → Prop} (h : ACalls P f (xs.map (ev t)) H K') (k : ∀ v H', K' v H' → heldAll cs (upd t d v) H' ∧ AWp P p K (upd t d v) H') (k2 : AWp P q K t H) : AWp P (.br ⟨d, .call f xs, none⟩ cs p q) K t H := ⟨h.mono k, k2⟩
theorem pCT {f : FuncId} {xs : List Opd} {K' : Value → Hp → Prop} {g : Nat} {want : Bool} (hg : t g = .bool want) (h : ACalls P f (xs.map (ev t)) H K') (k : ∀ v H', K' v H' → heldAll cs (upd t d v) H' ∧ AWp P p K (upd t d v) H') (k2 : AWp P q K t H) : AWp P (.br ⟨d, .call f xs, some (g, want)⟩ cs p q) K t H := by
  refine ⟨⟨some want, by rw [hg]; exact .bool _, ?_⟩, k2⟩
  rw [if_pos rfl]
  exact h.mono k
theorem pS : AWp P .stop K t H := trivial
end
end Go.Proofs.Ytloeadlmcdddnaa.Abs
