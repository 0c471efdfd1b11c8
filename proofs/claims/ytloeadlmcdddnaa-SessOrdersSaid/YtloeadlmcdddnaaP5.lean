/- Further steps: lists of structs; blocks that are only looked at. -/
import Derived.Test.YtloeadlmcdddnaaP4
set_option linter.unusedVariables false
set_option linter.unusedSimpArgs false
namespace Go.Proofs.Ytloeadlmcdddnaa.Abs
open Go Go.RowKit
theorem flat_len' {α : Type} {enc : α → List Value} {c : Nat} (hc : ∀ a, (enc a).length = c) (l : List α) : (l.flatMap enc).length = l.length * c := by
  induction l with
  | nil => simp
  | cons a l ih => rw [List.flatMap_cons, List.length_append, hc, ih, List.length_cons, Nat.add_mul, Nat.one_mul, Nat.add_comm]
theorem flat_at {α : Type} {enc : α → List Value} {c : Nat} (hc : ∀ a, (enc a).length = c) (d : α) : ∀ (l : List α) (j : Nat), j < l.length → ((l.flatMap enc).drop (j * c)).take c = enc (l.getD j d)
  | [], j, h => by cases h
  | a :: l, 0, _ => by rw [List.flatMap_cons, Nat.zero_mul, List.drop_zero, List.take_left' (hc a)]; rfl
  | a :: l, j + 1, h => by
    have ih := flat_at hc d l j (by simpa using h)
    rw [List.flatMap_cons, show (j + 1) * c = c + j * c by rw [Nat.add_mul, Nat.one_mul, Nat.add_comm], ← List.drop_drop, List.drop_left' (hc a), ih]
    rfl
theorem flat_snoc {α : Type} {enc : α → List Value} {A A' : List α} {x : α} {ys : List Value} (h : A' = A ++ [x]) (he : enc x = ys) : A.flatMap enc ++ ys = A'.flatMap enc := by
  rw [h, List.flatMap_append, ← he]
  simp
theorem filt_t {α : Type} {l : List α} {p : α → Bool} {j : Nat} {d : α} (h : j < l.length) (hp : p (l.getD j d) = true) : (l.take (j + 1)).filter p = (l.take j).filter p ++ [l.getD j d] := by
  rw [List.take_succ_eq_append_getElem h, List.filter_append]
  have e : l.getD j d = l[j] := by simp [List.getD, List.getElem?_eq_getElem h]
  rw [e] at hp ⊢
  simp [List.filter_cons, hp]
theorem filt_f {α : Type} {l : List α} {p : α → Bool} {j : Nat} {d : α} (h : j < l.length) (hp : p (l.getD j d) = false) : (l.take (j + 1)).filter p = (l.take j).filter p := by
  rw [List.take_succ_eq_append_getElem h, List.filter_append]
  have e : l.getD j d = l[j] := by simp [List.getD, List.getElem?_eq_getElem h]
  rw [e] at hp
  simp [List.filter_cons, hp]
theorem any_step {α : Type} {l : List α} {p : α → Bool} {j : Nat} {d : α} (h : j < l.length) : (l.take (j + 1)).any p = ((l.take j).any p || p (l.getD j d)) := by
  rw [List.take_succ_eq_append_getElem h, List.any_append]
  have e : l.getD j d = l[j] := by simp [List.getD, List.getElem?_eq_getElem h]
  rw [e]
  simp
theorem getD_mem' {α : Type} {l : List α} {j : Nat} {d : α} (h : j < l.length) : l.getD j d ∈ l := by
  have e : l.getD j d = l[j] := by simp [List.getD, List.getElem?_eq_getElem h]
  rw [e]; exact List.getElem_mem h
theorem len_snoc {α : Type} {A A' : List α} {x : α} (h : A' = A ++ [x]) : A.length + 1 = A'.length := by rw [h]; simp
section
variable {P : Program} {R : Tm → Hp → Prop} {t : Tm} {X : List Nat} {H0 H : Hp} {L : List Ent} {d : Option Nat} {x y : Opd}
/-- The place of a struct in a list. -/
theorem aIxE {α : Type} {enc : α → List Value} {c : Nat} (hc : ∀ a, (enc a).length = c) {l : List α} (dd : α) {u : Value} {kd : IntKind} {j : Int} (hs : Sl H c l.length (l.flatMap enc) u) (hx : ev t x = u) (hy : ev t y = .int kd j) (hj : 0 ≤ j ∧ j < l.length)
    (kk : ∀ b o, H.get b o c = some (enc (l.getD j.toNat dd)) → R (upd t d (.pointer (some ⟨b, o, none⟩))) H) : aStep P ⟨d, .iadr c x y, none⟩ R t H := by
  refine aIx hs hx hy hj fun b o hg => kk b o ?_
  rw [hg, flat_at hc dd l j.toNat (by omega)]
/-- The same, told for all later blocks, too. -/
theorem aIxEK {α : Type} {enc : α → List Value} {c : Nat} (hc : ∀ a, (enc a).length = c) {l : List α} (dd : α) {u : Value} {kd : IntKind} {j : Int} (hs : Sl H c l.length (l.flatMap enc) u) (hx : ev t x = u) (hy : ev t y = .int kd j) (hj : 0 ≤ j ∧ j < l.length)
    (kk : ∀ b o, (∀ H1, Sl H1 c l.length (l.flatMap enc) u → H1.get b o c = some (enc (l.getD j.toNat dd))) → R (upd t d (.pointer (some ⟨b, o, none⟩))) H) : aStep P ⟨d, .iadr c x y, none⟩ R t H := by
  obtain ⟨hl, ⟨h0, _⟩ | ⟨hn, b, o, c', rfl, hg⟩⟩ := hs
  · omega
  · refine ⟨.pointer (some ⟨b, o + j.toNat * c, none⟩), H, ?_, kk b _ fun H1 h1 => ?_⟩
    · simp only [aI, hx, hy, if_pos hj]
    · obtain ⟨_, ⟨h0, _⟩ | ⟨_, b', o', c'', e, hg1⟩⟩ := h1
      · omega
      · injection e with e e2 e3
        injection e with e
        injection e with e e4
        subst e e4
        have hle : j.toNat * c + c ≤ l.length * c := by
          calc j.toNat * c + c = (j.toNat + 1) * c := by rw [Nat.add_mul, Nat.one_mul]
            _ ≤ l.length * c := Nat.mul_le_mul_right _ (by omega)
        rw [get_part hg1 hle, flat_at hc dd l j.toNat (by omega)]
theorem h_LdP {b o n : Nat} {cs : List Value} {v v' : Value} (hg : H.get b o n = some cs) (i : Nat) (hx : ev t x = .pointer (some ⟨b, o + i, none⟩)) (hv : cs[i]? = some v) (nf : Nf v v') (hn : i < n) : aI (.load x) (ev t) H = some (v', H) := by
  rw [← nf.eq]
  refine e_load hx ?_
  rw [get_part hg (show i + 1 ≤ n by omega), drop_take_one hv]
/-- A slice of the caller's, that is only looked at. -/
theorem Stt.roA (st : Stt X H0 H L) {ob : Option Nat} {k : Blk} (hk : ∀ c, ob = some c → H.m c = some k) (h0 : ob = none → k.cells = []) (hn : ∀ c, ob = some c → ∀ p ∈ L, p.key ≠ some c) : Stt X H0 H (⟨ob, false, k⟩ :: L) := by
  cases ob with
  | some c => exact st.ro (hk c rfl) (hn c rfl)
  | none =>
    refine ⟨st.wf0, st.wf, st.nx, st.frm, fun p hp => ?_, fun p hp ho => ?_, ?_⟩
    · rcases List.mem_cons.1 hp with rfl | hp
      · exact ⟨fun c hc => (by cases hc), fun _ => h0 rfl⟩
      · exact st.has p hp
    · rcases List.mem_cons.1 hp with rfl | hp
      · cases ho
      · exact st.own p hp ho
    · rw [List.filterMap_cons_none (show (fun p : Ent => p.key) ⟨none, false, k⟩ = none from rfl)]
      exact st.dis
theorem aBldA {z xs xs' : List Value} {parts : List (Nat × Nat × Opd)} (h : fillA z (parts.map fun p => (p.1, p.2.1, ev t p.2.2)) = some xs) (nf : NfV xs xs') (k : R (upd t d (.agg xs'.toArray)) H) : aStep P ⟨d, .build z parts, none⟩ R t H := by
  refine ⟨.agg xs.toArray, H, ?_, by rw [nf.eq]; exact k⟩
  simp only [aI, h]
  rfl
/-- A slice is written into a cell. -/
theorem aStS {b o sz n : Nat} {u : Value} {rw0 : Bool} {e0 : TypeId} {cs0 cs1 : List Value} {H1 : Hp} (hs : Sl H1 sz n cs1 u) (st : Stt X H0 H L) (j : Nat) (hx : ev t x = .pointer (some ⟨b, o, none⟩)) (hi : L[j]? = some ⟨some b, true, ⟨rw0, e0, cs0⟩⟩) (hy : ev t y = u) (hl : o < cs0.length)
    (kk : ∀ H', Stt X H0 H' (L.set j ⟨some b, true, ⟨true, e0, cs0.set o u⟩⟩) → R (upd t d undef) H') : aStep P ⟨d, .store 1 x y, none⟩ R t H := by
  obtain ⟨p, c, rfl⟩ := hs.shape
  exact aStAt st j hx hi hy rfl rfl hl rfl kk
/-- The cells of a block, told otherwise. -/
theorem Stt.recell (st : Stt X H0 H L) (j : Nat) {ob : Option Nat} {ok rw0 : Bool} {e0 : TypeId} {cs cs' : List Value} (hi : L[j]? = some ⟨ob, ok, ⟨rw0, e0, cs⟩⟩) (h : cs = cs') : Stt X H0 H (L.set j ⟨ob, ok, ⟨rw0, e0, cs'⟩⟩) := by
  subst h
  have : L.set j ⟨ob, ok, ⟨rw0, e0, cs⟩⟩ = L := by
    apply List.ext_getElem?
    intro i
    rw [List.getElem?_set]
    split
    · rename_i h
      subst h
      rw [if_pos (List.getElem?_eq_some_iff.1 hi).1, hi]
    · rfl
  rw [this]
  exact st
theorem Stt.ne (st : Stt X H0 H L) (i j : Nat) {ob : Option Nat} {b : Nat} {ok ok' : Bool} {k k' : Blk} (hi : L[i]? = some ⟨ob, ok, k⟩) (hj : L[j]? = some ⟨some b, ok', k'⟩) (hij : i ≠ j) : ob ≠ some b := by
  rintro rfl
  exact hij (nodup_keys st.dis hi hj rfl rfl)
/-- What may be written need not be. -/
theorem Stt.weak (st : Stt X H0 H L) (j : Nat) {ob : Option Nat} {k : Blk} (hi : L[j]? = some ⟨ob, true, k⟩) : Stt X H0 H (L.set j ⟨ob, false, k⟩) := by
  refine ⟨st.wf0, st.wf, st.nx, st.frm, fun p hp => ?_, fun p hp ho => ?_, ?_⟩
  · rcases List.mem_or_eq_of_mem_set hp with hp | rfl
    · exact st.has p hp
    · exact st.has ⟨ob, true, k⟩ (List.mem_of_getElem? hi)
  · rcases List.mem_or_eq_of_mem_set hp with hp | rfl
    · exact st.own p hp ho
    · cases ho
  · rw [set_keys hi (q := ⟨ob, false, k⟩) rfl]
    exact st.dis
/-- A call that writes a table, whose list is another then, or not. -/
theorem Stt.tabCall {H' : Hp} {L0 L' : List Ent} {b : Nat} {ob ob' : Option Nat} {k k' kr kr' : Blk} {okr : Bool} (st : Stt X H0 H (⟨some b, true, k⟩ :: ⟨ob, okr, kr⟩ :: L0)) (ho : L'.all (·.ok) = true)
    (h : (ob' = ob ∧ kr' = kr ∧ Stt [b] H H' (⟨some b, true, k'⟩ :: L')) ∨ Stt [b] H H' (⟨some b, true, k'⟩ :: ⟨ob', true, kr'⟩ :: L')) : Stt X H0 H' (⟨some b, true, k'⟩ :: ⟨ob', okr, kr'⟩ :: (L' ++ L0)) := by
  rcases h with ⟨rfl, rfl, h⟩ | h
  · have := st.callX 0 rfl h ho
    exact this.swap (List.Perm.cons _ List.perm_middle)
  · have h1 := st.callX 0 rfl h (by simpa using ho)
    have h2 : Stt X H0 H' (⟨some b, true, k'⟩ :: ⟨ob', okr, kr'⟩ :: (L' ++ (⟨ob, okr, kr⟩ :: L0))) := by
      cases okr with
      | true => exact h1
      | false => exact h1.weak 1 rfl
    refine h2.sub (fun p hp => ?_) ?_
    · simp only [List.mem_cons, List.mem_append] at hp ⊢
      rcases hp with h | h | h | h
      · exact .inl h
      · exact .inr (.inl h)
      · exact .inr (.inr (.inl h))
      · exact .inr (.inr (.inr (.inr h)))
    · refine List.Nodup.sublist ?_ h2.dis
      refine List.Sublist.filterMap _ ?_
      refine List.Sublist.cons_cons _ (List.Sublist.cons_cons _ ?_)
      exact List.Sublist.append (List.Sublist.refl _) (List.sublist_cons_self _ _)
end
end Go.Proofs.Ytloeadlmcdddnaa.Abs
