/- Cuts in an abstract text: what a part ends in may be told in other words. -/
import Derived.Test.YtjmjkdelkaflmaaGreatDoorXF
set_option linter.unusedVariables false
set_option linter.unusedSimpArgs false
namespace Go.Proofs.YtjmjkdelkaflmaaGreatDoor.Abs
open Go Go.RowKit
section
variable {P : Program} {t : Tm} {H : Hp}
end
structure Ent where
 key : Option Nat
 ok : Bool
 blk : Blk
structure Stt (X : List Nat) (H0 H : Hp) (L : List Ent) : Prop where
 wf0 : Wf H0
 wf : Wf H
 nx : H0.nx ≤ H.nx
 frm : ∀ b, b < H0.nx → b ∉ X → H.m b = H0.m b
 has : ∀ p ∈ L, (∀ b, p.key = some b → H.m b = some p.blk) ∧ (p.key = none → p.blk.cells = [])
 own : ∀ p ∈ L, p.ok = true → p.blk.rw = true ∧ ∀ b, p.key = some b → H0.nx ≤ b ∨ b ∈ X
 dis : (L.filterMap (·.key)).Nodup
inductive NfL {α : Type} : List α → List α → Prop
 | nil : NfL [] []
 | cons (a : α) {xs ys : List α} (h : NfL xs ys) : NfL (a :: xs) (a :: ys)
 | any (xs : List α) : NfL xs xs
theorem NfL.eq {α : Type} {xs ys : List α} (h : NfL xs ys) : xs = ys := by
 induction h with
 | nil => rfl
 | cons a _ ih => rw [ih]
 | any => rfl
theorem key_lt {X : List Nat} {H0 H : Hp} {L : List Ent} (st : Stt X H0 H L) {p : Ent} {b : Nat} (hp : p ∈ L) (hb : p.key = some b) : b < H.nx := st.wf b _ ((st.has p hp).1 b hb)
theorem Stt.start {X : List Nat} {H : Hp} (hw : Wf H) : Stt X H H [] :=
 ⟨hw, hw, Nat.le_refl _, fun _ _ _ => rfl, by simp, by simp, by simp⟩
theorem Stt.mine {X : List Nat} {H0 H : Hp} {L : List Ent} (st : Stt X H0 H L) {b : Nat} {k : Blk} (hk : H.m b = some k) (hr : k.rw = true) (hb : b ∈ X) (hn : ∀ p ∈ L, p.key ≠ some b) : Stt X H0 H (⟨some b, true, k⟩ :: L) := by
 refine ⟨st.wf0, st.wf, st.nx, st.frm, fun p hp => ?_, fun p hp ho => ?_, ?_⟩
 ·rcases List.mem_cons.1 hp with rfl | hp
  ·exact ⟨fun c hc => by injection hc with hc; subst hc; exact hk, fun h => by cases h⟩
  ·exact st.has p hp
 ·rcases List.mem_cons.1 hp with rfl | hp
  ·exact ⟨hr, fun c hc => by injection hc with hc; subst hc; exact .inr hb⟩
  ·exact st.own p hp ho
 ·simp only [List.filterMap_cons_some (show (fun p : Ent => p.key) ⟨some b, true, k⟩ = some b from rfl)]
  refine List.nodup_cons.2 ⟨fun hm => ?_, st.dis⟩
  obtain ⟨p, hp, he⟩ := List.mem_filterMap.1 hm
  exact hn p hp he
theorem Stt.nil {X : List Nat} {H0 H : Hp} {L : List Ent} (st : Stt X H0 H L) (e : TypeId) : Stt X H0 H (⟨none, true, ⟨true, e, []⟩⟩ :: L) := by
 refine ⟨st.wf0, st.wf, st.nx, st.frm, fun p hp => ?_, fun p hp ho => ?_, ?_⟩
 ·rcases List.mem_cons.1 hp with rfl | hp
  ·exact ⟨fun c hc => by (cases hc), fun _ => rfl⟩
  ·exact st.has p hp
 ·rcases List.mem_cons.1 hp with rfl | hp
  ·exact ⟨rfl, fun c hc => by (cases hc)⟩
  ·exact st.own p hp ho
 ·rw [List.filterMap_cons_none (show (fun p : Ent => p.key) ⟨none, true, ⟨true, e, []⟩⟩ = none from rfl)]
  exact st.dis
theorem Stt.push {X : List Nat} {H0 H : Hp} {L : List Ent} (st : Stt X H0 H L) (k : Blk) (hr : k.rw = true) : Stt X H0 (H.push k) (⟨some H.nx, true, k⟩ :: L) := by
 refine ⟨st.wf0, st.wf.push k, Nat.le_trans st.nx (Nat.le_succ _), fun b hb hx => ?_, fun p hp => ?_, fun p hp ho => ?_, ?_⟩
 ·have := st.nx
  rw [← st.frm b hb hx]
  exact (Frm.push H k).2 b (by omega)
 ·rcases List.mem_cons.1 hp with rfl | hp
  ·exact ⟨fun c hc => by injection hc with hc; subst hc; simp [Hp.push], fun h => by cases h⟩
  ·exact ⟨fun b hb => by rw [(Frm.push H k).2 b (key_lt st hp hb)]; exact (st.has p hp).1 b hb, (st.has p hp).2⟩
 ·rcases List.mem_cons.1 hp with rfl | hp
  ·exact ⟨hr, fun c hc => by injection hc with hc; subst hc; exact .inl st.nx⟩
  ·exact st.own p hp ho
 ·simp only [List.filterMap_cons_some (show (fun p : Ent => p.key) ⟨some H.nx, true, k⟩ = some H.nx from rfl)]
  refine List.nodup_cons.2 ⟨fun hm => ?_, st.dis⟩
  obtain ⟨p, hp, he⟩ := List.mem_filterMap.1 hm
  have := key_lt st hp he
  omega
theorem Stt.get {X : List Nat} {H0 H : Hp} {L : List Ent} (st : Stt X H0 H L) {j b : Nat} {ok : Bool} {k : Blk} (hi : L[j]? = some ⟨some b, ok, k⟩) : H.m b = some k := (st.has _ (List.mem_of_getElem? hi)).1 b rfl
theorem set_keys {L : List Ent} {j : Nat} {p q : Ent} (hi : L[j]? = some p) (hk : q.key = p.key) : (L.set j q).filterMap (·.key) = L.filterMap (·.key) := by
 induction L generalizing j with
 | nil => simp at hi
 | cons a L ih =>
  cases j with
  | zero =>
   simp only [List.getElem?_cons_zero, Option.some.injEq] at hi
   subst hi
   simp only [List.set_cons_zero, List.filterMap_cons, hk]
  | succ j =>
   simp only [List.getElem?_cons_succ] at hi
   simp only [List.set_cons_succ, List.filterMap_cons, ih hi]
theorem nodup_keys {L : List Ent} (h : (L.filterMap (·.key)).Nodup) : ∀ {i j : Nat} {p q : Ent} {b : Nat}, L[i]? = some p → L[j]? = some q → p.key = some b → q.key = some b → i = j := by
 induction L with
 | nil => intro i j p q b hi; simp at hi
 | cons a L ih =>
  intro i j p q b hi hj hp hq
  have inL : ∀ {k : Nat} {r : Ent}, L[k]? = some r → r.key = some b → b ∈ L.filterMap (·.key) := fun hk hr => List.mem_filterMap.2 ⟨_, List.mem_of_getElem? hk, hr⟩
  rcases ha : a.key with _ | c
  ·rw [List.filterMap_cons_none ha] at h
   cases i with
   | zero => simp at hi; subst hi; rw [ha] at hp; cases hp
   | succ i => cases j with
    | zero => simp at hj; subst hj; rw [ha] at hq; cases hq
    | succ j => exact congrArg _ (ih h (i := i) (j := j) (by simpa using hi) (by simpa using hj) hp hq)
  ·rw [List.filterMap_cons_some ha] at h
   obtain ⟨h1, h2⟩ := List.nodup_cons.1 h
   cases i with
   | zero => cases j with
    | zero => rfl
    | succ j =>
     simp at hi
     subst hi
     rw [ha] at hp
     injection hp with hp
     subst hp
     exact absurd (inL (by simpa using hj) hq) h1
   | succ i => cases j with
    | zero =>
     simp at hj
     subst hj
     rw [ha] at hq
     injection hq with hq
     subst hq
     exact absurd (inL (by simpa using hi) hp) h1
    | succ j => exact congrArg _ (ih h2 (i := i) (j := j) (by simpa using hi) (by simpa using hj) hp hq)
theorem Stt.put {X : List Nat} {H0 H : Hp} {L : List Ent} (st : Stt X H0 H L) {j b : Nat} {k : Blk} (hi : L[j]? = some ⟨some b, true, k⟩) (cs : List Value) : Stt X H0 (H.set b { k with cells := cs }) (L.set j ⟨some b, true, { k with cells := cs }⟩) := by
 have hm := List.mem_of_getElem? hi
 have hlt := key_lt st hm rfl
 obtain ⟨hrw, hown⟩ := st.own _ hm rfl
 have hset : ∀ c, (H.set b { k with cells := cs }).m c = if c = b then some { k with cells := cs } else H.m c := fun c => rfl
 refine ⟨st.wf0, st.wf.set hlt _, st.nx, fun c hc hx => ?_, fun p hp => ?_, fun p hp ho => ?_, ?_⟩
 ·rw [hset, if_neg ?_]
  ·exact st.frm c hc hx
  ·intro e
   subst e
   rcases hown c rfl with h | h
   ·omega
   ·exact hx h
 ·obtain ⟨i, hp'⟩ := List.mem_iff_getElem?.1 hp
  rw [List.getElem?_set] at hp'
  split at hp'
  ·split at hp'
   ·injection hp' with hp'
    subst hp'
    exact ⟨fun c hc => by injection hc with hc; subst hc; rw [hset, if_pos rfl], fun h => by cases h⟩
   ·cases hp'
  ·rename_i hij
   refine ⟨fun c hc => ?_, (st.has p (List.mem_of_getElem? hp')).2⟩
   rw [hset, if_neg ?_]
   ·exact (st.has p (List.mem_of_getElem? hp')).1 c hc
   ·intro e
    subst e
    exact hij (nodup_keys st.dis hi hp' rfl hc)
 ·obtain ⟨i, hp'⟩ := List.mem_iff_getElem?.1 hp
  rw [List.getElem?_set] at hp'
  split at hp'
  ·split at hp'
   ·injection hp' with hp'
    subst hp'
    exact ⟨hrw, hown⟩
   ·cases hp'
  ·exact st.own p (List.mem_of_getElem? hp') ho
 ·rw [set_keys hi (q := ⟨some b, true, { k with cells := cs }⟩) rfl]
  exact st.dis
theorem Stt.sub {X : List Nat} {H0 H : Hp} {L : List Ent} (st : Stt X H0 H L) {L' : List Ent} (h1 : ∀ p ∈ L', p ∈ L) (h2 : (L'.filterMap (·.key)).Nodup) : Stt X H0 H L' :=
 ⟨st.wf0, st.wf, st.nx, st.frm, fun p hp => st.has p (h1 p hp), fun p hp => st.own p (h1 p hp), h2⟩
theorem Stt.pick {X : List Nat} {H0 H : Hp} {L : List Ent} (st : Stt X H0 H L) (j : Nat) {p : Ent} (hi : L[j]? = some p) : Stt X H0 H [p] := by
 refine st.sub (fun q hq => ?_) ?_
 ·rw [List.mem_singleton.1 hq]
  exact List.mem_of_getElem? hi
 ·rcases hk : p.key with _ | b
  ·rw [List.filterMap_cons_none hk]; exact List.nodup_nil
  ·rw [List.filterMap_cons_some hk]; simp
theorem Stt.drop {X : List Nat} {H0 H : Hp} {L : List Ent} (st : Stt X H0 H L) : Stt X H0 H [] := st.sub (by simp) (by simp)
theorem Stt.tail {X : List Nat} {H0 H : Hp} {p : Ent} {L : List Ent} (st : Stt X H0 H (p :: L)) : Stt X H0 H L := by
 refine st.sub (fun q hq => List.mem_cons_of_mem _ hq) ?_
 have := st.dis
 rcases hk : p.key with _ | b
 ·rwa [List.filterMap_cons_none hk] at this
 ·rw [List.filterMap_cons_some hk] at this
  exact (List.nodup_cons.1 this).2
theorem Stt.frm0 {H0 H : Hp} {L : List Ent} (st : Stt [] H0 H L) : Frm H0 H := ⟨st.nx, fun b hb => st.frm b hb (by simp)⟩
theorem nodup_app {α : Type} {xs ys : List α} (h1 : xs.Nodup) (h2 : ys.Nodup) (h : ∀ a ∈ xs, a ∉ ys) : (xs ++ ys).Nodup := by
 refine List.nodup_append.2 ⟨h1, h2, fun a ha b hb e => ?_⟩
 subst e
 exact h a ha hb
theorem Stt.call {X : List Nat} {H0 H H' : Hp} {L L' : List Ent} (st : Stt X H0 H L) (h : Stt [] H H' L') (ho : L'.all (·.ok) = true) : Stt X H0 H' (L' ++ L) := by
 have hnew : ∀ p ∈ L', ∀ b, p.key = some b → H.nx ≤ b := fun p hp b hb => by
  rcases (h.own p hp (List.all_eq_true.1 ho p hp)).2 b hb with h1 | h1
  ·exact h1
  ·cases h1
 refine ⟨st.wf0, h.wf, Nat.le_trans st.nx h.nx, fun b hb hx => ?_, fun p hp => ?_, fun p hp hok => ?_, ?_⟩
 ·have := st.nx
  rw [h.frm b (by omega) (by simp)]
  exact st.frm b hb hx
 ·rcases List.mem_append.1 hp with hp | hp
  ·exact h.has p hp
  ·exact ⟨fun b hb => by rw [h.frm b (key_lt st hp hb) (by simp)]; exact (st.has p hp).1 b hb, (st.has p hp).2⟩
 ·rcases List.mem_append.1 hp with hp | hp
  ·refine ⟨(h.own p hp hok).1, fun b hb => .inl ?_⟩
   have := hnew p hp b hb
   have := st.nx
   omega
  ·exact st.own p hp hok
 ·rw [List.filterMap_append]
  refine nodup_app h.dis st.dis fun b hb hb' => ?_
  obtain ⟨p, hp, he⟩ := List.mem_filterMap.1 hb
  obtain ⟨q, hq, hf⟩ := List.mem_filterMap.1 hb'
  have := hnew p hp b he
  have := key_lt st hq hf
  omega
theorem Stt.callX {X : List Nat} {H0 H H' : Hp} {L L' : List Ent} {b : Nat} {k k' : Blk} (st : Stt X H0 H L) (j : Nat) (hj : L[j]? = some ⟨some b, true, k⟩) (h : Stt [b] H H' (⟨some b, true, k'⟩ :: L')) (ho : L'.all (·.ok) = true) : Stt X H0 H' (⟨some b, true, k'⟩ :: (L' ++ L.eraseIdx j)) := by
 have hm := List.mem_of_getElem? hj
 have hblt := key_lt st hm rfl
 obtain ⟨hrw, hown⟩ := st.own _ hm rfl
 have hdis := h.dis
 rw [List.filterMap_cons_some (show (fun p : Ent => p.key) ⟨some b, true, k'⟩ = some b from rfl)] at hdis
 obtain ⟨hd1, hd2⟩ := List.nodup_cons.1 hdis
 have hnew : ∀ p ∈ L', ∀ c, p.key = some c → H.nx ≤ c := fun p hp c hc => by
  rcases (h.own p (List.mem_cons_of_mem _ hp) (List.all_eq_true.1 ho p hp)).2 c hc with h1 | h1
  ·exact h1
  ·rw [List.mem_singleton.1 h1] at hc
   exact absurd (List.mem_filterMap.2 ⟨p, hp, hc⟩) hd1
 have her : ∀ p ∈ L.eraseIdx j, p ∈ L ∧ p.key ≠ some b := fun p hp => by
  obtain ⟨i, hij, hpi⟩ := List.mem_eraseIdx_iff_getElem?.1 hp
  exact ⟨List.mem_of_getElem? hpi, fun e => hij (nodup_keys st.dis hpi hj e rfl)⟩
 refine ⟨st.wf0, h.wf, Nat.le_trans st.nx h.nx, fun c hc hx => ?_, fun p hp => ?_, fun p hp hok => ?_, ?_⟩
 ·have := st.nx
  rw [h.frm c (by omega) ?_]
  ·exact st.frm c hc hx
  ·intro hcb
   rw [List.mem_singleton.1 hcb] at hx hc
   rcases hown b rfl with h1 | h1
   ·omega
   ·exact hx h1
 ·rcases List.mem_cons.1 hp with rfl | hp
  ·exact h.has _ (by simp)
  ·rcases List.mem_append.1 hp with hp | hp
   ·exact h.has p (List.mem_cons_of_mem _ hp)
   ·obtain ⟨h1, h2⟩ := her p hp
    exact ⟨fun c hc => by rw [h.frm c (key_lt st h1 hc) (by intro e; rw [List.mem_singleton.1 e] at hc; exact h2 hc)]; exact (st.has p h1).1 c hc, (st.has p h1).2⟩
 ·rcases List.mem_cons.1 hp with rfl | hp
  ·exact ⟨(h.own _ (by simp) rfl).1, hown⟩
  ·rcases List.mem_append.1 hp with hp | hp
   ·refine ⟨(h.own p (List.mem_cons_of_mem _ hp) hok).1, fun c hc => .inl ?_⟩
    have := hnew p hp c hc
    have := st.nx
    omega
   ·exact st.own p (her p hp).1 hok
 ·rw [List.filterMap_cons_some (show (fun p : Ent => p.key) ⟨some b, true, k'⟩ = some b from rfl), List.filterMap_append]
  have hsub : ((L.eraseIdx j).filterMap (·.key)).Nodup := List.Nodup.sublist ((List.eraseIdx_sublist L j).filterMap _) st.dis
  refine List.nodup_cons.2 ⟨fun hb => ?_, nodup_app hd2 hsub fun c hc hc' => ?_⟩
  ·rcases List.mem_append.1 hb with hb | hb
   ·exact hd1 hb
   ·obtain ⟨p, hp, he⟩ := List.mem_filterMap.1 hb
    exact (her p hp).2 he
  ·obtain ⟨p, hp, he⟩ := List.mem_filterMap.1 hc
   obtain ⟨q, hq, hf⟩ := List.mem_filterMap.1 hc'
   have := hnew p hp c he
   have := key_lt st (her q hq).1 hf
   omega
def accV (ob : Option Nat) (n sz : Nat) : Value :=
 match ob with
 | none => .slice none 0 0
 | some b => .slice (some ⟨b, 0, none⟩) n sz
theorem Stt.grow {X : List Nat} {H0 H : Hp} {L : List Ent} (st : Stt X H0 H L) {j b : Nat} {k : Blk} (hi : L[j]? = some ⟨some b, true, k⟩) (k' : Blk) (hr : k'.rw = true) : Stt X H0 ((H.cut b).push k') (L.set j ⟨some H.nx, true, k'⟩) := by
 have hm := List.mem_of_getElem? hi
 have hblt := key_lt st hm rfl
 obtain ⟨hrw, hown⟩ := st.own _ hm rfl
 have hset : ∀ c, ((H.cut b).push k').m c = if c = H.nx then some k' else if c = b then none else H.m c := fun c => rfl
 refine ⟨st.wf0, (st.wf.cut b).push k', Nat.le_trans st.nx (Nat.le_succ _), fun c hc hx => ?_, fun p hp => ?_, fun p hp ho => ?_, ?_⟩
 ·have := st.nx
  rw [hset, if_neg (by omega), if_neg ?_]
  ·exact st.frm c hc hx
  ·intro e
   subst e
   rcases hown c rfl with h | h
   ·omega
   ·exact hx h
 ·obtain ⟨i, hp'⟩ := List.mem_iff_getElem?.1 hp
  rw [List.getElem?_set] at hp'
  split at hp'
  ·split at hp'
   ·injection hp' with hp'
    subst hp'
    exact ⟨fun c hc => by injection hc with hc; subst hc; rw [hset, if_pos rfl], fun h => by cases h⟩
   ·cases hp'
  ·rename_i hij
   have hpL := List.mem_of_getElem? hp'
   refine ⟨fun c hc => ?_, (st.has p hpL).2⟩
   have := key_lt st hpL hc
   rw [hset, if_neg (by omega), if_neg ?_]
   ·exact (st.has p hpL).1 c hc
   ·intro e
    subst e
    exact hij (nodup_keys st.dis hi hp' rfl hc)
 ·obtain ⟨i, hp'⟩ := List.mem_iff_getElem?.1 hp
  rw [List.getElem?_set] at hp'
  split at hp'
  ·split at hp'
   ·injection hp' with hp'
    subst hp'
    exact ⟨hr, fun c hc => by injection hc with hc; subst hc; exact .inl st.nx⟩
   ·cases hp'
  ·exact st.own p (List.mem_of_getElem? hp') ho
 ·have key : ∀ {L : List Ent} {j : Nat} {q : Ent} {n : Nat}, (L.filterMap (·.key)).Nodup → L[j]? = some ⟨some b, true, k⟩ → (∀ p ∈ L, ∀ c, p.key = some c → c < n) → ((L.set j ⟨some n, true, k'⟩).filterMap (·.key)).Nodup := by
   intro L
   induction L with
   | nil => intro j q n _ h; simp at h
   | cons a L ih =>
    intro j q n hd hj hlt
    cases j with
    | zero =>
     simp only [List.getElem?_cons_zero, Option.some.injEq] at hj
     subst hj
     rw [List.filterMap_cons_some (show (fun p : Ent => p.key) ⟨some b, true, k⟩ = some b from rfl)] at hd
     rw [List.set_cons_zero, List.filterMap_cons_some (show (fun p : Ent => p.key) ⟨some n, true, k'⟩ = some n from rfl)]
     refine List.nodup_cons.2 ⟨fun hm => ?_, (List.nodup_cons.1 hd).2⟩
     obtain ⟨p, hp, he⟩ := List.mem_filterMap.1 hm
     have := hlt p (List.mem_cons_of_mem _ hp) _ he
     omega
    | succ j =>
     simp only [List.getElem?_cons_succ] at hj
     rw [List.set_cons_succ]
     rcases ha : a.key with _ | c
     ·rw [List.filterMap_cons_none ha] at hd ⊢
      exact ih (q := q) hd hj fun p hp => hlt p (List.mem_cons_of_mem _ hp)
     ·rw [List.filterMap_cons_some ha] at hd ⊢
      obtain ⟨h1, h2⟩ := List.nodup_cons.1 hd
      refine List.nodup_cons.2 ⟨fun hm => ?_, ih (q := q) h2 hj fun p hp => hlt p (List.mem_cons_of_mem _ hp)⟩
      obtain ⟨p, hp, he⟩ := List.mem_filterMap.1 hm
      obtain ⟨i, hp'⟩ := List.mem_iff_getElem?.1 hp
      rw [List.getElem?_set] at hp'
      split at hp'
      ·split at hp'
       ·injection hp' with hp'
        subst hp'
        injection he with he
        have := hlt a (by simp) c ha
        omega
       ·cases hp'
      ·exact h1 (List.mem_filterMap.2 ⟨p, List.mem_of_getElem? hp', he⟩)
  exact key (q := ⟨none, true, k⟩) st.dis hi fun p hp c hc => key_lt st hp hc
theorem Stt.first {X : List Nat} {H0 H : Hp} {L : List Ent} (st : Stt X H0 H L) {j : Nat} {k : Blk} {ok : Bool} (hi : L[j]? = some ⟨none, ok, k⟩) (k' : Blk) (hr : k'.rw = true) : Stt X H0 (H.push k') (L.set j ⟨some H.nx, true, k'⟩) := by
 have h1 := st.push k' hr
 refine h1.sub (fun p hp => ?_) ?_
 ·obtain ⟨i, hp'⟩ := List.mem_iff_getElem?.1 hp
  rw [List.getElem?_set] at hp'
  split at hp'
  ·split at hp'
   ·injection hp' with hp'
    subst hp'
    exact List.mem_cons_self ..
   ·cases hp'
  ·exact List.mem_cons_of_mem _ (List.mem_of_getElem? hp')
 ·have key : ∀ {L : List Ent} {j : Nat} {n : Nat}, (L.filterMap (·.key)).Nodup → L[j]? = some ⟨none, ok, k⟩ → (∀ p ∈ L, ∀ c, p.key = some c → c < n) → ((L.set j ⟨some n, true, k'⟩).filterMap (·.key)).Nodup := by
   intro L
   induction L with
   | nil => intro j n _ h; simp at h
   | cons a L ih =>
    intro j n hd hj hlt
    cases j with
    | zero =>
     simp only [List.getElem?_cons_zero, Option.some.injEq] at hj
     subst hj
     rw [List.filterMap_cons_none (show (fun p : Ent => p.key) ⟨none, ok, k⟩ = none from rfl)] at hd
     rw [List.set_cons_zero, List.filterMap_cons_some (show (fun p : Ent => p.key) ⟨some n, true, k'⟩ = some n from rfl)]
     refine List.nodup_cons.2 ⟨fun hm => ?_, hd⟩
     obtain ⟨p, hp, he⟩ := List.mem_filterMap.1 hm
     have := hlt p (List.mem_cons_of_mem _ hp) _ he
     omega
    | succ j =>
     simp only [List.getElem?_cons_succ] at hj
     rw [List.set_cons_succ]
     rcases ha : a.key with _ | c
     ·rw [List.filterMap_cons_none ha] at hd ⊢
      exact ih hd hj fun p hp => hlt p (List.mem_cons_of_mem _ hp)
     ·rw [List.filterMap_cons_some ha] at hd ⊢
      obtain ⟨h1, h2⟩ := List.nodup_cons.1 hd
      refine List.nodup_cons.2 ⟨fun hm => ?_, ih h2 hj fun p hp => hlt p (List.mem_cons_of_mem _ hp)⟩
      obtain ⟨p, hp, he⟩ := List.mem_filterMap.1 hm
      obtain ⟨i, hp'⟩ := List.mem_iff_getElem?.1 hp
      rw [List.getElem?_set] at hp'
      split at hp'
      ·split at hp'
       ·injection hp' with hp'
        subst hp'
        injection he with he
        have := hlt a (by simp) c ha
        omega
       ·cases hp'
      ·exact h1 (List.mem_filterMap.2 ⟨p, List.mem_of_getElem? hp', he⟩)
  exact key st.dis hi fun p hp c hc => key_lt st hp hc
inductive NfV : List Value → List Value → Prop
 | nil : NfV [] []
 | cons {x y : Value} {xs ys : List Value} (h : Nf x y) (k : NfV xs ys) : NfV (x :: xs) (y :: ys)
 | any (xs : List Value) : NfV xs xs
theorem NfV.eq {xs ys : List Value} (h : NfV xs ys) : xs = ys := by
 induction h with
 | nil => rfl
 | cons h _ ih => rw [h.eq, ih]
 | any => rfl
section
variable {P : Program} {R : Tm → Hp → Prop} {t : Tm} {X : List Nat} {H0 H H' : Hp} {L : List Ent} {d : Option Nat} {i : AI} {v : Value} {x y : Opd}
theorem aN {i : AI} {v v' : Value} (hn : aRun P i (ev t) H (fun v H' => R (upd t d v) H') = ∃ v H', aI i (ev t) H = some (v, H') ∧ R (upd t d v) H') (h : aI i (ev t) H = some (v, H')) (nf : Nf v v') (k : R (upd t d v') H') : aStep P ⟨d, i, none⟩ R t H := by
 show aRun P i (ev t) H _
 rw [hn]
 exact ⟨v, H', h, by rw [nf.eq]; exact k⟩
theorem gT {i : AI} {g : Nat} {want : Bool} (hg : t g = .bool want) (h : aStep P ⟨d, i, none⟩ R t H) : aStep P ⟨d, i, some (g, want)⟩ R t H := by
 refine ⟨some want, by rw [hg]; exact .bool _, ?_⟩
 rw [if_pos rfl]
 exact h
theorem gF {i : AI} {g : Nat} {want b : Bool} (hg : t g = .bool b) (hb : b ≠ want) (k : R (upd t d undef) H) : aStep P ⟨d, i, some (g, want)⟩ R t H := by
 refine ⟨some b, by rw [hg]; exact .bool _, ?_⟩
 rw [if_neg (fun h => hb (Option.some.inj h))]
 exact k
theorem gU {i : AI} {g : Nat} {want : Bool} (hg : t g = undef) (k : R (upd t d undef) H) : aStep P ⟨d, i, some (g, want)⟩ R t H := by
 refine ⟨none, by rw [hg]; exact .none, ?_⟩
 rw [if_neg (by simp)]
 exact k
theorem gCase {o : AO} (g : Nat) {b : Bool} (hg : t g = .bool b) (h1 : b = true → aStep P o R (upd t (some g) (.bool true)) H) (h2 : b = false → aStep P o R (upd t (some g) (.bool false)) H) : aStep P o R t H := by
 cases b with
 | true =>
  have := h1 rfl
  rwa [upd_self hg] at this
 | false =>
  have := h2 rfl
  rwa [upd_self hg] at this
theorem cT {c : Opd} {a b : AC} {Q : Exit → Tm → Hp → Prop} (hb : ev t c = .bool true) (h1 : AW P a Q t H) : AW P (.cond c a b) Q t H := ⟨true, hb, h1⟩
theorem cF' {c : Opd} {a b : AC} {Q : Exit → Tm → Hp → Prop} (hb : ev t c = .bool false) (h1 : AW P b Q t H) : AW P (.cond c a b) Q t H := ⟨false, hb, h1⟩
theorem cC' {g : Nat} {a c : AC} {Q : Exit → Tm → Hp → Prop} {b : Bool} (hb : t g = .bool b) (h1 : b = true → AW P a Q (upd t (some g) (.bool true)) H) (h2 : b = false → AW P c Q (upd t (some g) (.bool false)) H) : AW P (.cond (.s g) a c) Q t H := by
 refine ⟨b, hb, ?_⟩
 cases b with
 | true =>
  have := h1 rfl
  rwa [upd_self hb] at this
 | false =>
  have := h2 rfl
  rwa [upd_self hb] at this
theorem pE {K : Tm → Hp → Prop} (k : K t H) : AWp P .done K t H := k
theorem Stt.sel (st : Stt X H0 H L) (is : List Nat) (hn : is.Nodup) : Stt X H0 H (is.filterMap (L[·]?)) := by
 refine st.sub (fun p hp => ?_) ?_
 ·obtain ⟨i, _, hi⟩ := List.mem_filterMap.1 hp
  exact List.mem_of_getElem? hi
 ·induction is with
  | nil => exact List.nodup_nil
  | cons i is ih =>
   obtain ⟨h1, h2⟩ := List.nodup_cons.1 hn
   rcases hi : L[i]? with _ | p
   ·rw [List.filterMap_cons_none hi]; exact ih h2
   ·rw [List.filterMap_cons_some hi]
    rcases hk : p.key with _ | b
    ·rw [List.filterMap_cons_none hk]; exact ih h2
    ·rw [List.filterMap_cons_some hk]
     refine List.nodup_cons.2 ⟨fun hm => ?_, ih h2⟩
     obtain ⟨q, hq, hb⟩ := List.mem_filterMap.1 hm
     obtain ⟨j, hj, hj'⟩ := List.mem_filterMap.1 hq
     have := nodup_keys st.dis hi hj' hk hb
     subst this
     exact h1 hj
theorem e_rem {tk : Nat} {k : IntKind} {a b : Int} (hx : ev t x = .int k a) (hy : ev t y = .int k b) (h : b ≠ 0) : aI (.bin tk .rem x y) (ev t) H = some (.int k (a.tmod b), H) := by
 simp only [aI, hx, hy, aBin, isShift, aInt, if_neg h]
 simp
theorem Stt.one {b : Nat} {k : Blk} (hw0 : Wf H0) (hw : Wf H) (hf : Frm H0 H) (hb : H0.nx ≤ b) (hk : H.m b = some k) (hr : k.rw = true) : Stt [] H0 H [⟨some b, true, k⟩] :=
 ⟨hw0, hw, hf.1, fun b hb _ => hf.2 b hb, fun p hp => by
  obtain rfl := List.mem_singleton.1 hp
  exact ⟨fun c hc => by injection hc with hc; subst hc; exact hk, fun h => by cases h⟩, fun p hp _ => by
  obtain rfl := List.mem_singleton.1 hp
  exact ⟨hr, fun c hc => by injection hc with hc; subst hc; exact .inl hb⟩, by simp⟩
theorem aNewP {i : AI} {e : TypeId} {cs cs' : List Value} (st : Stt X H0 H L) (hn : aRun P i (ev t) H (fun v H' => R (upd t d v) H') = ∃ v H', aI i (ev t) H = some (v, H') ∧ R (upd t d v) H') (h : aI i (ev t) H = some (.pointer (some ⟨H.nx, 0, none⟩), H.push ⟨true, e, cs⟩)) (nf : NfL cs cs')
  (k : ∀ b H', Stt X H0 H' (⟨some b, true, ⟨true, e, cs'⟩⟩ :: L) → R (upd t d (.pointer (some ⟨b, 0, none⟩))) H') : aStep P ⟨d, i, none⟩ R t H := by
 show aRun P i (ev t) H _
 rw [hn]
 refine ⟨_, _, h, k H.nx _ ?_⟩
 rw [← nf.eq]
 exact st.push _ rfl
theorem aNewS {i : AI} {e : TypeId} {n c : Nat} {cs cs' : List Value} (st : Stt X H0 H L) (hn : aRun P i (ev t) H (fun v H' => R (upd t d v) H') = ∃ v H', aI i (ev t) H = some (v, H') ∧ R (upd t d v) H') (h : aI i (ev t) H = some (.slice (some ⟨H.nx, 0, none⟩) n c, H.push ⟨true, e, cs⟩)) (nf : NfL cs cs')
  (k : ∀ b H', Stt X H0 H' (⟨some b, true, ⟨true, e, cs'⟩⟩ :: L) → R (upd t d (.slice (some ⟨b, 0, none⟩) n c)) H') : aStep P ⟨d, i, none⟩ R t H := by
 show aRun P i (ev t) H _
 rw [hn]
 refine ⟨_, _, h, k H.nx _ ?_⟩
 rw [← nf.eq]
 exact st.push _ rfl
theorem aBox {e : TypeId} {n : Nat} {u : Value} (st : Stt X H0 H L) (hx : ev t x = u) (hu : notTup u = true) (hl : (cellsOf u).length = n)
  (k : ∀ b H', Stt X H0 H' (⟨some b, true, ⟨true, e, cellsOf u⟩⟩ :: L) → R (upd t d (.pointer (some ⟨b, 0, none⟩))) H') : aStep P ⟨d, .box e n x, none⟩ R t H := by
 refine ⟨_, _, ?_, k H.nx _ (st.push _ rfl)⟩
 simp only [aI, hx, hu, hl, and_self, if_true]
theorem Stt.isSome {ob : Option Nat} {ok : Bool} {k : Blk} (st : Stt X H0 H L) (j : Nat) (hi : L[j]? = some ⟨ob, ok, k⟩) (hc : k.cells ≠ []) : ∃ b, ob = some b := by
 cases ob with
 | some b => exact ⟨b, rfl⟩
 | none => exact absurd ((st.has _ (List.mem_of_getElem? hi)).2 rfl) hc
theorem aBoxN {e : TypeId} {n : Nat} {u : Value} {cs : List Value} (st : Stt X H0 H L) (hx : ev t x = u) (hu : notTup u = true) (nf : NfV (cellsOf u) cs) (hl : cs.length = n)
  (k : ∀ b H', Stt X H0 H' (⟨some b, true, ⟨true, e, cs⟩⟩ :: L) → R (upd t d (.pointer (some ⟨b, 0, none⟩))) H') : aStep P ⟨d, .box e n x, none⟩ R t H := by
 have := nf.eq
 subst this
 exact aBox st hx hu hl k
theorem aLd {b o : Nat} {ok : Bool} {rw0 : Bool} {e0 : TypeId} {cs0 : List Value} {v' : Value} (st : Stt X H0 H L) (j : Nat) (hx : ev t x = .pointer (some ⟨b, o, none⟩)) (hi : L[j]? = some ⟨some b, ok, ⟨rw0, e0, cs0⟩⟩) (hv : cs0[o]? = some v) (nf : Nf v v') (kk : R (upd t d v') H) : aStep P ⟨d, .load x, none⟩ R t H := by
 refine ⟨v, H, e_load hx ?_, by rw [nf.eq]; exact kk⟩
 have hl := (List.getElem?_eq_some_iff.1 hv).1
 rw [get_of (st.get hi) (show o + 1 ≤ cs0.length by omega), List.drop_eq_getElem_cons hl, (List.getElem?_eq_some_iff.1 hv).2]
 rfl
theorem aLdQ {b o : Nat} {ok : Bool} {rw0 : Bool} {e0 : TypeId} {cs0 : List Value} {v' : Value} (st : Stt X H0 H L) (j : Nat) (hx : ev t x = .pointer (some ⟨b, o, none⟩)) (hi : L[j]? = some ⟨some b, ok, ⟨rw0, e0, cs0⟩⟩) (hv : cs0[o]? = some v) (hq : v = v') (kk : R (upd t d v') H) : aStep P ⟨d, .load x, none⟩ R t H := by
 subst hq
 exact aLd st j hx hi hv (.any _) kk
theorem aLdG {b o : Nat} (hx : ev t x = .pointer (some ⟨b, o, none⟩)) (hg : H.get b o 1 = some [v]) (kk : R (upd t d v) H) : aStep P ⟨d, .load x, none⟩ R t H := ⟨v, H, e_load hx hg, kk⟩
theorem aLdA {b o n : Nat} {ok : Bool} {rw0 : Bool} {e0 : TypeId} {cs0 : List Value} {xs : List Value} (st : Stt X H0 H L) (j : Nat) (hx : ev t x = .pointer (some ⟨b, o, none⟩)) (hi : L[j]? = some ⟨some b, ok, ⟨rw0, e0, cs0⟩⟩) (hl : o + n ≤ cs0.length) (nf : NfL ((cs0.drop o).take n) xs) (kk : R (upd t d (.agg xs.toArray)) H) : aStep P ⟨d, .loadA n x, none⟩ R t H :=
 ⟨_, H, e_loadA hx (st.get hi) hl nf.eq, kk⟩
theorem aLdAG {b o n : Nat} {xs : List Value} (hx : ev t x = .pointer (some ⟨b, o, none⟩)) (hg : H.get b o n = some xs) (kk : R (upd t d (.agg xs.toArray)) H) : aStep P ⟨d, .loadA n x, none⟩ R t H := by
 refine ⟨.agg xs.toArray, H, ?_, kk⟩
 simp only [aI, hx, hg]
 rfl
theorem aSt {b o n : Nat} {u : Value} {rw0 : Bool} {e0 : TypeId} {cs0 : List Value} {cs : List Value} (st : Stt X H0 H L) (j : Nat) (hx : ev t x = .pointer (some ⟨b, o, none⟩)) (hi : L[j]? = some ⟨some b, true, ⟨rw0, e0, cs0⟩⟩) (hy : ev t y = u) (hu : notTup u = true) (hn : (cellsOf u).length = n) (hl : o + n ≤ cs0.length) (nf : NfV (cs0.take o ++ cellsOf u ++ cs0.drop (o + n)) cs)
  (kk : ∀ H', Stt X H0 H' (L.set j ⟨some b, true, ⟨true, e0, cs⟩⟩) → R (upd t d undef) H') : aStep P ⟨d, .store n x y, none⟩ R t H := by
 have hrw : rw0 = true := (st.own _ (List.mem_of_getElem? hi) rfl).1
 refine ⟨undef, _, e_store hx hy hu hn (st.get hi) hrw rfl hl, kk _ ?_⟩
 have := st.put hi cs
 rw [nf.eq]
 rwa [show (⟨rw0, e0, cs⟩ : Blk) = ⟨true, e0, cs⟩ by rw [show rw0 = true from hrw]] at this ⊢
theorem aStAt {b o : Nat} {u : Value} {rw0 : Bool} {e0 : TypeId} {cs0 cs : List Value} (st : Stt X H0 H L) (j : Nat) (hx : ev t x = .pointer (some ⟨b, o, none⟩)) (hi : L[j]? = some ⟨some b, true, ⟨rw0, e0, cs0⟩⟩) (hy : ev t y = u) (hu : cellsOf u = [u]) (hv : notTup u = true) (hl : o < cs0.length) (hc : cs0.set o u = cs)
  (kk : ∀ H', Stt X H0 H' (L.set j ⟨some b, true, ⟨true, e0, cs⟩⟩) → R (upd t d undef) H') : aStep P ⟨d, .store 1 x y, none⟩ R t H := by
 subst hc
 refine aSt st j hx hi hy hv (by rw [hu]; rfl) hl (cs := cs0.set o u) ?_ kk
 rw [hu, List.set_eq_take_append_cons_drop, if_pos hl]
 simpa using NfV.any _
theorem aStAll {b n : Nat} {u : Value} {rw0 : Bool} {e0 : TypeId} {cs0 : List Value} (st : Stt X H0 H L) (j : Nat) (hx : ev t x = .pointer (some ⟨b, 0, none⟩)) (hi : L[j]? = some ⟨some b, true, ⟨rw0, e0, cs0⟩⟩) (hy : ev t y = u) (hu : notTup u = true) (hn : (cellsOf u).length = n) (hl : cs0.length = n)
  (kk : ∀ H', Stt X H0 H' (L.set j ⟨some b, true, ⟨true, e0, cellsOf u⟩⟩) → R (upd t d undef) H') : aStep P ⟨d, .store n x y, none⟩ R t H := by
 refine aSt st j hx hi hy hu hn (by omega) (cs := cellsOf u) ?_ kk
 rw [List.take_zero, List.nil_append, List.drop_of_length_le (by omega), List.append_nil]
 exact NfV.any _
theorem aLdAll {b n : Nat} {ok : Bool} {rw0 : Bool} {e0 : TypeId} {cs0 : List Value} (st : Stt X H0 H L) (j : Nat) (hx : ev t x = .pointer (some ⟨b, 0, none⟩)) (hi : L[j]? = some ⟨some b, ok, ⟨rw0, e0, cs0⟩⟩) (hl : cs0.length = n) (kk : R (upd t d (.agg cs0.toArray)) H) : aStep P ⟨d, .loadA n x, none⟩ R t H :=
 ⟨_, H, e_loadA (xs := cs0) hx (st.get hi) (show 0 + n ≤ cs0.length by omega) (show (cs0.drop 0).take n = cs0 by rw [List.drop_zero, List.take_of_length_le (by omega)]), kk⟩
theorem aStAllA {b n : Nat} {xs : List Value} {rw0 : Bool} {e0 : TypeId} {cs0 : List Value} (st : Stt X H0 H L) (j : Nat) (hx : ev t x = .pointer (some ⟨b, 0, none⟩)) (hi : L[j]? = some ⟨some b, true, ⟨rw0, e0, cs0⟩⟩) (hy : ev t y = .agg xs.toArray) (hn : xs.length = n) (hl : cs0.length = n)
  (kk : ∀ H', Stt X H0 H' (L.set j ⟨some b, true, ⟨true, e0, xs⟩⟩) → R (upd t d undef) H') : aStep P ⟨d, .store n x y, none⟩ R t H :=
 aStAll st j hx hi hy rfl hn hl kk
theorem aBoxA {e : TypeId} {n : Nat} {xs : List Value} (st : Stt X H0 H L) (hx : ev t x = .agg xs.toArray) (hl : xs.length = n)
  (k : ∀ b H', Stt X H0 H' (⟨some b, true, ⟨true, e, xs⟩⟩ :: L) → R (upd t d (.pointer (some ⟨b, 0, none⟩))) H') : aStep P ⟨d, .box e n x, none⟩ R t H :=
 aBox st hx rfl hl k
def fillM : List Value → Nat → List (Nat × Nat × Value) → Option (List Value)
 | z, _, [] => some z
 | z, cur, (off, n, v) :: rest => if cur ≤ off ∧ notTup v = true ∧ (cellsOf v).length = n ∧ off - cur + n ≤ z.length then (fillM (z.drop (off - cur + n)) (off + n) rest).map fun ys => z.take (off - cur) ++ (cellsOf v ++ ys) else none
theorem fillM_ok : ∀ {ps : List (Nat × Nat × Value)} {z pre xs : List Value} {cur : Nat}, fillM z cur ps = some xs → pre.length = cur → fillA (pre ++ z) ps = some (pre ++ xs)
 | [], z, pre, xs, cur, h, _ => by
  injection h with h
  subst h
  rfl
 | (off, n, v) :: ps, z, pre, xs, cur, h, hp => by
  simp only [fillM] at h
  split at h
  ·rename_i hc
   obtain ⟨h1, h2, h3, h4⟩ := hc
   obtain ⟨ys, hy, rfl⟩ := Option.map_eq_some_iff.1 h
   have e1 : (pre ++ z).take off = pre ++ z.take (off - cur) := by rw [List.take_append, List.take_of_length_le (by omega), hp]
   have e2 : (pre ++ z).drop (off + n) = z.drop (off - cur + n) := by rw [List.drop_append, List.drop_of_length_le (by omega), hp, List.nil_append]; congr 1; omega
   have ih := fillM_ok (pre := pre ++ z.take (off - cur) ++ cellsOf v) hy (by simp [h3]; omega)
   simp only [fillA]
   rw [if_pos ⟨h2, h3, by rw [List.length_append]; omega⟩, e1, e2, ih]
   simp [List.append_assoc]
  ·cases h
theorem fillM_ok0 {ps : List (Nat × Nat × Value)} {z xs : List Value} (h : fillM z 0 ps = some xs) : fillA z ps = some xs := by simpa using fillM_ok (pre := []) h rfl
theorem aLit {e : TypeId} {sz n : Nat} {z xs xs' : List Value} {parts : List (Nat × Nat × Opd)} (st : Stt X H0 H L) (h : fillM z 0 (parts.map fun p => (p.1, p.2.1, ev t p.2.2)) = some xs) (nf : NfV xs xs')
  (k : ∀ b H', Stt X H0 H' (⟨some b, true, ⟨true, e, xs'⟩⟩ :: L) → R (upd t d (.slice (some ⟨b, 0, none⟩) n sz)) H') : aStep P ⟨d, .lit e sz n z parts, none⟩ R t H := by
 refine ⟨.slice (some ⟨H.nx, 0, none⟩) n sz, H.push ⟨true, e, xs⟩, ?_, k H.nx _ (by rw [← nf.eq]; exact st.push _ rfl)⟩
 simp only [aI, fillM_ok0 h]
 rfl
theorem aBld {z xs xs' : List Value} {parts : List (Nat × Nat × Opd)} (h : fillM z 0 (parts.map fun p => (p.1, p.2.1, ev t p.2.2)) = some xs) (nf : NfV xs xs') (k : R (upd t d (.agg xs'.toArray)) H) : aStep P ⟨d, .build z parts, none⟩ R t H := by
 refine ⟨.agg xs.toArray, H, ?_, by rw [nf.eq]; exact k⟩
 simp only [aI, fillM_ok0 h]
 rfl
theorem aMovA {ob : Option Nat} {n sz : Nat} (hx : ev t x = accV ob n sz) (kk : R (upd t d (accV ob n sz)) H) : aStep P ⟨d, .mov x, none⟩ R t H := ⟨_, H, rfl, by rw [hx]; exact kk⟩
theorem aMovV (u : Value) (hx : ev t x = u) (kk : R (upd t d u) H) : aStep P ⟨d, .mov x, none⟩ R t H := ⟨_, H, rfl, by rw [hx]; exact kk⟩
theorem aExtA {j n sz : Nat} {ob : Option Nat} {vs : Array Value} (hx : ev t x = .tuple vs) (hu : vs.toList[j]? = some (accV ob n sz)) (kk : R (upd t d (accV ob n sz)) H) : aStep P ⟨d, .ext j x, none⟩ R t H := ⟨accV ob n sz, H, by simp only [aI, hx, hu], kk⟩
theorem aBinV {tk : Nat} {op : BinOp} {u u' : Value} (r : Value) (hx : ev t x = u) (hy : ev t y = u') (h : aBin tk op u u' = some r) (kk : R (upd t d r) H) : aStep P ⟨d, .bin tk op x y, none⟩ R t H := ⟨r, H, by simp only [aI, hx, hy, h, Option.map_some], kk⟩
theorem aC {f : FuncId} {xs : List Opd} {K' : Value → Hp → Prop} (h : ACalls P f (xs.map (ev t)) H K') (k : ∀ v H', K' v H' → R (upd t d v) H') : aStep P ⟨d, .call f xs, none⟩ R t H := h.mono k
def Sl (H : Hp) (sz n : Nat) (cs : List Value) (x : Value) : Prop :=
 cs.length = n * sz ∧ ((n = 0 ∧ (x = .slice none 0 0 ∨ ∃ b o c, x = .slice (some ⟨b, o, none⟩) 0 c)) ∨ (0 < n ∧ ∃ b o c, x = .slice (some ⟨b, o, none⟩) n c ∧ H.get b o (n * sz) = some cs))
theorem Sl.shape {sz n : Nat} {cs : List Value} {u : Value} (h : Sl H sz n cs u) : ∃ p c, u = .slice p n c := by
 obtain ⟨_, ⟨rfl, rfl | ⟨b, o, c, rfl⟩⟩ | ⟨_, b, o, c, rfl, _⟩⟩ := h <;> exact ⟨_, _, rfl⟩
theorem Sl.sl {sz n : Nat} {cs : List Value} {u : Value} (h : Sl H sz n cs u) : H.sl sz u = some cs := by
 obtain ⟨hl, ⟨rfl, rfl | ⟨b, o, c, rfl⟩⟩ | ⟨hn, b, o, c, rfl, hg⟩⟩ := h
 ·have : cs = [] := List.eq_nil_of_length_eq_zero (by simpa using hl)
  subst this; rfl
 ·have : cs = [] := List.eq_nil_of_length_eq_zero (by simpa using hl)
  subst this; rfl
 ·simp only [Hp.sl]
  rw [if_neg (by omega), hg]
theorem Sl.src {sz n : Nat} {cs : List Value} {u : Value} (h : Sl H sz n cs u) : H.src sz u = some (n, cs) := by
 have h2 := h.sl
 obtain ⟨p, c, rfl⟩ := h.shape
 show (Hp.sl _ _ _).map _ = _
 rw [h2]; rfl
theorem get_frm {b o n : Nat} {cs : List Value} (hw : Wf H) (hf : Frm H H') (h : H.get b o n = some cs) : H'.get b o n = some cs := by
 unfold Hp.get at h ⊢
 rcases hk : H.m b with _ | k
 ·rw [hk] at h; cases h
 ·rw [hf.2 b (hw b k hk), hk]
  rwa [hk] at h
theorem Sl.frm {sz n : Nat} {cs : List Value} {u : Value} (h : Sl H sz n cs u) (hw : Wf H) (hf : Frm H H') : Sl H' sz n cs u := by
 obtain ⟨hl, h | ⟨hn, b, o, c, e, hg⟩⟩ := h
 ·exact ⟨hl, .inl h⟩
 ·exact ⟨hl, .inr ⟨hn, b, o, c, e, get_frm hw hf hg⟩⟩
theorem Stt.slc {sz n : Nat} {cs : List Value} {u : Value} (st : Stt [] H0 H L) (h : Sl H0 sz n cs u) : Sl H sz n cs u := h.frm st.wf0 st.frm0
theorem Stt.row {b o n c sz : Nat} {ok : Bool} {k : Blk} {cs : List Value} (st : Stt X H0 H L) (j : Nat) (hi : L[j]? = some ⟨some b, ok, k⟩) (hl : o + n * sz ≤ k.cells.length) (hc : (k.cells.drop o).take (n * sz) = cs) : Sl H sz n cs (.slice (some ⟨b, o, none⟩) n c) := by
 subst hc
 refine ⟨by rw [List.length_take, List.length_drop]; omega, ?_⟩
 by_cases hn : n = 0
 ·subst hn
  exact .inl ⟨rfl, .inr ⟨b, o, c, rfl⟩⟩
 ·exact .inr ⟨by omega, b, o, c, rfl, get_of (st.get hi) hl⟩
theorem Stt.rowAll {b n c sz : Nat} {ok : Bool} {k : Blk} (st : Stt X H0 H L) (j : Nat) (hi : L[j]? = some ⟨some b, ok, k⟩) (hl : k.cells.length = n * sz) : Sl H sz n k.cells (.slice (some ⟨b, 0, none⟩) n c) :=
 st.row j hi (by omega) (by rw [List.drop_zero, List.take_of_length_le (by omega)])
theorem Stt.rowAcc {ob : Option Nat} {n sz : Nat} {ok : Bool} {k : Blk} (st : Stt X H0 H L) (j : Nat) (hi : L[j]? = some ⟨ob, ok, k⟩) (hs : 0 < sz) (hl : k.cells.length = n * sz) : Sl H sz n k.cells (accV ob n sz) := by
 cases ob with
 | some b => exact st.rowAll j hi hl
 | none =>
  have := (st.has _ (List.mem_of_getElem? hi)).2 rfl
  refine ⟨hl, .inl ⟨?_, .inl rfl⟩⟩
  rw [this] at hl
  rcases Nat.mul_eq_zero.1 hl.symm with h | h <;> omega
theorem aLen {sz n : Nat} {cs : List Value} {u : Value} (hs : Sl H' sz n cs u) (hx : ev t x = u) (kk : R (upd t d (.int .i64 n)) H) : aStep P ⟨d, .len 4 x, none⟩ R t H := by
 obtain ⟨p, c, rfl⟩ := hs.shape
 refine ⟨.int .i64 n, H, ?_, kk⟩
 simp only [aI, hx, if_true]
theorem drop_take_one {l : List Value} {i : Nat} (h : l[i]? = some v) : (l.drop i).take 1 = [v] := by
 have hl := (List.getElem?_eq_some_iff.1 h).1
 rw [List.drop_eq_getElem_cons hl, (List.getElem?_eq_some_iff.1 h).2]
 rfl
theorem get_part {b o n o' n' : Nat} {cs : List Value} (h : H.get b o n = some cs) (hl : o' + n' ≤ n) : H.get b (o + o') n' = some ((cs.drop o').take n') := by
 unfold Hp.get at h ⊢
 rcases hk : H.m b with _ | k
 ·rw [hk] at h; cases h
 ·rw [hk] at h
  simp only at h ⊢
  split at h
  ·rename_i hle
   injection h with h
   subst h
   rw [if_pos (by omega)]
   congr 1
   rw [List.drop_take, List.take_take, List.drop_drop, Nat.min_eq_left (by omega)]
  ·cases h
theorem aIx {sz n : Nat} {cs : List Value} {u : Value} {kd : IntKind} {j : Int} (hs : Sl H sz n cs u) (hx : ev t x = u) (hy : ev t y = .int kd j) (hj : 0 ≤ j ∧ j < n)
  (kk : ∀ b o, H.get b o sz = some ((cs.drop (j.toNat * sz)).take sz) → R (upd t d (.pointer (some ⟨b, o, none⟩))) H) : aStep P ⟨d, .iadr sz x y, none⟩ R t H := by
 obtain ⟨hl, ⟨rfl, _⟩ | ⟨hn, b, o, c, rfl, hg⟩⟩ := hs
 ·omega
 ·refine ⟨.pointer (some ⟨b, o + j.toNat * sz, none⟩), H, ?_, kk b _ ?_⟩
  ·simp only [aI, hx, hy, if_pos hj]
  ·refine get_part hg ?_
   calc j.toNat * sz + sz = (j.toNat + 1) * sz := by rw [Nat.add_mul, Nat.one_mul]
    _ ≤ n * sz := Nat.mul_le_mul_right _ (by omega)
theorem aIxB {n : Nat} {xs : List Int} {u : Value} {kd kb : IntKind} {j : Int} (hs : Sl H 1 n (xs.map (Value.int kb)) u) (hx : ev t x = u) (hy : ev t y = .int kd j) (hj : 0 ≤ j ∧ j < n)
  (kk : ∀ b o, H.get b o 1 = some [.int kb (xs.getD j.toNat 0)] → R (upd t d (.pointer (some ⟨b, o, none⟩))) H) : aStep P ⟨d, .iadr 1 x y, none⟩ R t H := by
 have hlen := hs.1
 simp only [List.length_map, Nat.mul_one] at hlen
 refine aIx hs hx hy hj fun b o hg => kk b o ?_
 rw [hg, Nat.mul_one, drop_take_one (v := .int kb (xs.getD j.toNat 0))]
 have : j.toNat < xs.length := by omega
 simp [List.getElem?_map, List.getElem?_eq_getElem this]
theorem bound_lh {k k' : IntKind} {l h : Int} {n : Nat} (h1 : 0 ≤ l ∧ l ≤ h ∧ h ≤ n) : bound (some (.int k l)) (some (.int k' h)) n = some (l.toNat, h.toNat) := by
 simp only [bound]
 rw [if_pos (by omega), if_pos (by omega)]
theorem bound_l {k : IntKind} {l : Int} {n : Nat} (h1 : 0 ≤ l ∧ l ≤ n) : bound (some (.int k l)) none n = some (l.toNat, n) := by
 simp only [bound]
 rw [if_pos (by omega)]
theorem bound_h {k' : IntKind} {h : Int} {n : Nat} (h1 : 0 ≤ h ∧ h ≤ n) : bound none (some (.int k' h)) n = some (0, h.toNat) := by
 simp only [bound]
 rw [if_pos (by omega)]
theorem bound_nl {lo hi : Option Value} {n l h : Nat} (hb : bound lo hi n = some (l, h)) : l ≤ h ∧ h ≤ n := by
 unfold bound at hb
 repeat' split at hb
 all_goals (first | (cases hb; done) | (injection hb with hb; injection hb with h1 h2; omega))
theorem aCut {sz n l h : Nat} {cs : List Value} {u : Value} {lo hi : Option Opd} (hs : Sl H' sz n cs u) (hx : ev t x = u) (hb : bound (lo.map (ev t)) (hi.map (ev t)) n = some (l, h))
  (kk : ∀ v', (∀ H1, Sl H1 sz n cs u → Sl H1 sz (h - l) ((cs.drop (l * sz)).take ((h - l) * sz)) v') → R (upd t d v') H) : aStep P ⟨d, .cut sz x lo hi, none⟩ R t H := by
 obtain ⟨h1, h2⟩ := bound_nl hb
 obtain ⟨hl, ⟨rfl, rfl | ⟨b, o, c, rfl⟩⟩ | ⟨hn, b, o, c, rfl, hg⟩⟩ := hs
 ·obtain rfl : h = 0 := by omega
  obtain rfl : l = 0 := by omega
  refine ⟨.slice none 0 0, H, by simp only [aI, hx, hb], kk _ fun H1 _ => ?_⟩
  exact ⟨by simp, .inl ⟨rfl, .inl rfl⟩⟩
 ·obtain rfl : h = 0 := by omega
  obtain rfl : l = 0 := by omega
  refine ⟨.slice (some ⟨b, o + 0 * sz, none⟩) (0 - 0) (if c = sz ∧ (0 < 0 ∨ 0 = 0) then sz else 0), H, by simp only [aI, hx, hb], kk _ fun H1 _ => ?_⟩
  exact ⟨by simp, .inl ⟨rfl, .inr ⟨_, _, _, rfl⟩⟩⟩
 ·refine ⟨.slice (some ⟨b, o + l * sz, none⟩) (h - l) (if c = sz ∧ (l < h ∨ l = 0) then sz else 0), H, by simp only [aI, hx, hb], kk _ fun H1 hs1 => ?_⟩
  obtain ⟨hl1, ⟨h0, _⟩ | ⟨_, b1, o1, c1, he, hg1⟩⟩ := hs1
  ·omega
  ·injection he with e1 e2 e3
   injection e1 with e1
   injection e1 with e1 e4
   subst e1 e4
   have hle : h * sz ≤ n * sz := Nat.mul_le_mul_right _ h2
   have hlh : l * sz ≤ h * sz := Nat.mul_le_mul_right _ h1
   have hsub : (h - l) * sz = h * sz - l * sz := Nat.sub_mul ..
   refine ⟨by rw [List.length_take, List.length_drop, hl]; omega, ?_⟩
   by_cases hz : h - l = 0
   ·exact .inl ⟨hz, .inr ⟨b, o + l * sz, _, by rw [hz]⟩⟩
   ·exact .inr ⟨by omega, b, o + l * sz, _, rfl, get_part hg1 (by omega)⟩
theorem aCutL {n : Nat} {xs : List Int} {kb k1 : IntKind} {l : Int} {u : Value} {lo : Opd} (hs : Sl H' 1 n (xs.map (Value.int kb)) u) (hx : ev t x = u) (hlo : ev t lo = .int k1 l) (hb : 0 ≤ l ∧ l ≤ n)
  (kk : ∀ v', (∀ H1, Sl H1 1 n (xs.map (Value.int kb)) u → Sl H1 1 (n - l.toNat) ((xs.drop l.toNat).map (Value.int kb)) v') → R (upd t d v') H) : aStep P ⟨d, .cut 1 x (some lo) none, none⟩ R t H := by
 refine aCut hs hx (by rw [Option.map_some, hlo]; exact bound_l hb) fun v' hv => kk v' fun H1 h1 => ?_
 have h2 := hv H1 h1
 have hl := hs.1
 rw [List.length_map] at hl
 rwa [Nat.mul_one, Nat.mul_one, ← List.map_drop, List.take_of_length_le (by simp; omega)] at h2
theorem aCutH {n : Nat} {xs : List Int} {kb k1 : IntKind} {h : Int} {u : Value} {hi : Opd} (hs : Sl H' 1 n (xs.map (Value.int kb)) u) (hx : ev t x = u) (hhi : ev t hi = .int k1 h) (hb : 0 ≤ h ∧ h ≤ n)
  (kk : ∀ v', (∀ H1, Sl H1 1 n (xs.map (Value.int kb)) u → Sl H1 1 h.toNat ((xs.take h.toNat).map (Value.int kb)) v') → R (upd t d v') H) : aStep P ⟨d, .cut 1 x none (some hi), none⟩ R t H := by
 refine aCut hs hx (by rw [Option.map_some, hhi]; exact bound_h hb) fun v' hv => kk v' fun H1 h1 => ?_
 have h2 := hv H1 h1
 rwa [Nat.mul_one, Nat.zero_mul, List.drop_zero, Nat.sub_zero, ← List.map_take] at h2
theorem aCutLH {n : Nat} {xs : List Int} {kb k1 k2 : IntKind} {l h : Int} {u : Value} {lo hi : Opd} (hs : Sl H' 1 n (xs.map (Value.int kb)) u) (hx : ev t x = u) (hlo : ev t lo = .int k1 l) (hhi : ev t hi = .int k2 h) (hb : 0 ≤ l ∧ l ≤ h ∧ h ≤ n)
  (kk : ∀ v', (∀ H1, Sl H1 1 n (xs.map (Value.int kb)) u → Sl H1 1 (h.toNat - l.toNat) (((xs.drop l.toNat).take (h.toNat - l.toNat)).map (Value.int kb)) v') → R (upd t d v') H) : aStep P ⟨d, .cut 1 x (some lo) (some hi), none⟩ R t H := by
 refine aCut hs hx (by rw [Option.map_some, Option.map_some, hlo, hhi]; exact bound_lh hb) fun v' hv => kk v' fun H1 h1 => ?_
 have h2 := hv H1 h1
 rwa [Nat.mul_one, Nat.mul_one, ← List.map_drop, ← List.map_take] at h2
theorem intsOf_map (xs : List Int) : intsOf (xs.map (Value.int .u8)) = some xs := by
 induction xs with
 | nil => rfl
 | cons x xs ih => simp [intsOf, ih]
theorem aText {n : Nat} {xs : List Int} {u : Value} (hs : Sl H 1 n (xs.map (Value.int .u8)) u) (hx : ev t x = u) (kk : R (upd t d (.string (ofInts xs))) H) : aStep P ⟨d, .str x, none⟩ R t H := by
 have h1 := hs.sl
 obtain ⟨p, c, rfl⟩ := hs.shape
 refine ⟨.string (ofInts xs), H, ?_, kk⟩
 simp only [aI, hx, h1, intsOf_map]
 rfl
theorem aApp {e : TypeId} {sz bytes m n : Nat} {ob : Option Nat} {rw0 : Bool} {e0 : TypeId} {cs0 : List Value} {ys : List Value} (st : Stt X H0 H L) (j : Nat) (hx : ev t x = accV ob n sz) (hi : L[j]? = some ⟨ob, true, ⟨rw0, e0, cs0⟩⟩) (he : e0 = e) (hs : 0 < sz) (hlen : cs0.length = n * sz) (hsrc : H.src sz (ev t y) = some (m, ys)) (hys : ys.length = m * sz) (hb : (n + m) * bytes ≤ 140737488355328) (hnm : n + m ≤ 140737488355328)
  (kk : ∀ ob' H', (0 < n + m → ∃ b, ob' = some b) → Stt X H0 H' (L.set j ⟨ob', true, ⟨true, e, cs0 ++ ys⟩⟩) → R (upd t d (accV ob' (n + m) sz)) H') : aStep P ⟨d, .append e sz bytes x y, none⟩ R t H := by
 subst he
 have hrw : rw0 = true := (st.own _ (List.mem_of_getElem? hi) rfl).1
 cases ob with
 | none =>
  have hk := (st.has _ (List.mem_of_getElem? hi)).2 rfl
  simp only at hk
  have hn : n = 0 := by
   rw [hk] at hlen
   rcases Nat.mul_eq_zero.1 hlen.symm with h | h <;> omega
  subst hn
  by_cases hm : m = 0
  ·subst hm
   have : ys = [] := List.eq_nil_of_length_eq_zero (by simpa using hys)
   subst this
   refine ⟨.slice none 0 0, H, by simp only [aI, hsrc, hx, accV]; simp [appendTo], ?_⟩
   have := kk none H (fun h => absurd h (by omega)) (by
    have : L.set j ⟨none, true, ⟨true, e0, cs0 ++ []⟩⟩ = L := by
     rw [List.append_nil]
     apply List.ext_getElem?
     intro i
     rw [List.getElem?_set]
     split
     ·rename_i h; subst h
      rw [if_pos (List.getElem?_eq_some_iff.1 hi).1, hi, ← hrw]
     ·rfl
    rw [this]; exact st)
   simpa [accV] using this
  ·refine ⟨.slice (some ⟨H.nx, 0, none⟩) m sz, H.push ⟨true, e0, ys⟩, ?_, ?_⟩
   ·simp only [aI, hsrc, hx, accV, appendTo]
    rw [if_neg hm, if_pos ⟨by simpa using hb, by omega⟩]
   ·have := kk (some H.nx) (H.push ⟨true, e0, ys⟩) (fun _ => ⟨_, rfl⟩) (by rw [hk, List.nil_append]; exact st.first hi _ rfl)
    simpa [accV] using this
 | some b =>
  refine ⟨.slice (some ⟨H.nx, 0, none⟩) (n + m) sz, (H.cut b).push ⟨true, e0, cs0 ++ ys⟩, ?_, kk (some H.nx) _ (fun _ => ⟨_, rfl⟩) (st.grow hi _ rfl)⟩
  simp only [aI, hsrc, hx, accV, appendTo, st.get hi]
  rw [if_pos ⟨hrw, ET.is_self, trivial, hlen, hb, by omega⟩]
theorem aAppP {e : TypeId} {sz bytes m n : Nat} {ob : Option Nat} {rw0 : Bool} {e0 : TypeId} {cs0 : List Value} {ys cs : List Value} (st : Stt X H0 H L) (j : Nat) (hx : ev t x = accV ob n sz) (hi : L[j]? = some ⟨ob, true, ⟨rw0, e0, cs0⟩⟩) (he : e0 = e) (hs : 0 < sz) (hlen : cs0.length = n * sz) (hsrc : H.src sz (ev t y) = some (m, ys)) (hys : ys.length = m * sz) (hb : (n + m) * bytes ≤ 140737488355328) (hnm : n + m ≤ 140737488355328) (hpos : 0 < n + m) (nf : NfL (cs0 ++ ys) cs)
  (kk : ∀ b' H', Stt X H0 H' (L.set j ⟨some b', true, ⟨true, e, cs⟩⟩) → R (upd t d (.slice (some ⟨b', 0, none⟩) (n + m) sz)) H') : aStep P ⟨d, .append e sz bytes x y, none⟩ R t H := by
 refine aApp st j hx hi he hs hlen hsrc hys hb hnm fun ob' H' h1 st' => ?_
 obtain ⟨b, rfl⟩ := h1 hpos
 rw [nf.eq] at st'
 exact kk b H' st'
theorem h_Ld {b o : Nat} {ok : Bool} {rw0 : Bool} {e0 : TypeId} {cs0 : List Value} {v' : Value} (st : Stt X H0 H L) (j : Nat) (hx : ev t x = .pointer (some ⟨b, o, none⟩)) (hi : L[j]? = some ⟨some b, ok, ⟨rw0, e0, cs0⟩⟩) (hv : cs0[o]? = some v) (nf : Nf v v') : aI (.load x) (ev t) H = some (v', H) := by
 rw [← nf.eq]
 refine e_load hx ?_
 have hl := (List.getElem?_eq_some_iff.1 hv).1
 rw [get_of (st.get hi) (show o + 1 ≤ cs0.length by omega), List.drop_eq_getElem_cons hl, (List.getElem?_eq_some_iff.1 hv).2]
 rfl
theorem h_LdA {b o n : Nat} {ok : Bool} {rw0 : Bool} {e0 : TypeId} {cs0 : List Value} {xs : List Value} (st : Stt X H0 H L) (j : Nat) (hx : ev t x = .pointer (some ⟨b, o, none⟩)) (hi : L[j]? = some ⟨some b, ok, ⟨rw0, e0, cs0⟩⟩) (hl : o + n ≤ cs0.length) (nf : NfL ((cs0.drop o).take n) xs) : aI (.loadA n x) (ev t) H = some (.agg xs.toArray, H) := e_loadA hx (st.get hi) hl nf.eq
theorem h_Text {n : Nat} {xs : List Int} {u : Value} (hs : Sl H 1 n (xs.map (Value.int .u8)) u) (hx : ev t x = u) : aI (.str x) (ev t) H = some (.string (ofInts xs), H) := by
 have h1 := hs.sl
 obtain ⟨p, c, rfl⟩ := hs.shape
 simp only [aI, hx, h1, intsOf_map]
 rfl
theorem aIxL {n c sz b o : Nat} {kd : IntKind} {j : Int} (hx : ev t x = .slice (some ⟨b, o, none⟩) n c) (hy : ev t y = .int kd j) (hj : 0 ≤ j ∧ j < n) (kk : R (upd t d (.pointer (some ⟨b, o + j.toNat * sz, none⟩))) H) : aStep P ⟨d, .iadr sz x y, none⟩ R t H := ⟨_, H, e_iadr hx hy hj, kk⟩
theorem aIxA {n sz b o : Nat} {kd : IntKind} {j : Int} (hx : ev t x = .pointer (some ⟨b, o, none⟩)) (hy : ev t y = .int kd j) (hj : 0 ≤ j ∧ j < n) (kk : R (upd t d (.pointer (some ⟨b, o + j.toNat * sz, none⟩))) H) : aStep P ⟨d, .iadrA n sz x y, none⟩ R t H := by
 refine ⟨.pointer (some ⟨b, o + j.toNat * sz, none⟩), H, ?_, kk⟩
 simp only [aI, hx, hy, if_pos hj]
theorem aCopy {sz m n b o c : Nat} {rw0 : Bool} {e0 : TypeId} {cs0 ys cs : List Value} (st : Stt X H0 H L) (j : Nat) (hx : ev t x = .slice (some ⟨b, o, none⟩) n c) (hi : L[j]? = some ⟨some b, true, ⟨rw0, e0, cs0⟩⟩) (hsrc : H.src sz (ev t y) = some (m, ys)) (hys : ys.length = m * sz) (hn : 0 < n) (hm : 0 < m) (hl : o + min m n * sz ≤ cs0.length)
  (nf : NfL (cs0.take o ++ ys.take (min m n * sz) ++ cs0.drop (o + min m n * sz)) cs) (kk : ∀ H', Stt X H0 H' (L.set j ⟨some b, true, ⟨true, e0, cs⟩⟩) → R (upd t d (.int .i64 ((min m n : Nat) : Int))) H') : aStep P ⟨d, .copy sz x y, none⟩ R t H := by
 have hrw : rw0 = true := (st.own _ (List.mem_of_getElem? hi) rfl).1
 have hc := nf.eq
 have hlen : (ys.take (min m n * sz)).length = min m n * sz := by
  rw [List.length_take, hys]
  have : min m n * sz ≤ m * sz := Nat.mul_le_mul_right _ (Nat.min_le_left _ _)
  omega
 refine ⟨.int .i64 ((min m n : Nat) : Int), H.set b ⟨rw0, e0, cs⟩, ?_, kk _ ?_⟩
 ·simp only [aI, hx, hsrc]
  rw [if_neg (by omega)]
  simp only [Hp.put, st.get hi, hlen]
  rw [if_pos ⟨hrw, rfl⟩, if_pos hl, hc]
  rfl
 ·have := st.put hi cs
  rwa [show (⟨rw0, e0, cs⟩ : Blk) = ⟨true, e0, cs⟩ by rw [hrw]] at this ⊢
theorem aLit1 {e : TypeId} {sz n : Nat} {z xs : List Value} (st : Stt X H0 H L) (hx : ev t x = .agg xs.toArray) (hl : xs.length = n) (hz : z.length = n)
  (k : ∀ b H', Stt X H0 H' (⟨some b, true, ⟨true, e, xs⟩⟩ :: L) → R (upd t d (.slice (some ⟨b, 0, none⟩) 1 sz)) H') : aStep P ⟨d, .lit e sz 1 z [(0, (n, x))], none⟩ R t H := by
 refine ⟨.slice (some ⟨H.nx, 0, none⟩) 1 sz, H.push ⟨true, e, xs⟩, ?_, k H.nx _ (st.push _ rfl)⟩
 have h1 : (cellsOf (.agg xs.toArray)).length = n := hl
 simp only [aI, List.map_cons, List.map_nil, hx, fillA]
 rw [if_pos ⟨rfl, h1, by omega⟩]
 simp [cellsOf, ← hl, hz]
 rw [List.drop_of_length_le (by omega), List.append_nil]
theorem notTup_acc {ob : Option Nat} {n sz : Nat} : notTup (accV ob n sz) = true := by cases ob <;> rfl
theorem r_tmp {x : Nat} {v' : Value} (hx : t x = v) (nf : Nf v v') : aRes t H (.tmp x) = some v' := by rw [← nf.eq, ← hx]; rfl
theorem r_acc {x n sz : Nat} {ob : Option Nat} (hx : t x = accV ob n sz) : aRes t H (.tmp x) = some (accV ob n sz) := by rw [← hx]; rfl
theorem r_cellA {m x b o : Nat} {ok : Bool} {rw0 : Bool} {e0 : TypeId} {cs0 : List Value} {xs : List Value} (st : Stt X H0 H L) (j : Nat) (hx : t x = .pointer (some ⟨b, o, none⟩)) (hi : L[j]? = some ⟨some b, ok, ⟨rw0, e0, cs0⟩⟩) (hl : o + m ≤ cs0.length) (nf : NfL ((cs0.drop o).take m) xs) : aRes t H (.cellA m x) = some (.agg xs.toArray) := by
 simp only [aRes, hx, get_of (st.get hi) hl, nf.eq]
 rfl
theorem out1 {r : AR} (h : aRes t H r = some v) : aOut t H [r] = some v := by simp [aOut, aResL, h]
theorem out2 {r r' : AR} {u : Value} (h : aRes t H r = some v) (h' : aRes t H r' = some u) (hn : notTup v = true ∧ notTup u = true) : aOut t H [r, r'] = some (.tuple #[v, u]) := by simp [aOut, aResL, h, h', hn]
theorem out3 {r r' r2 : AR} {u u2 : Value} (h : aRes t H r = some v) (h' : aRes t H r' = some u) (h2 : aRes t H r2 = some u2) (hn : notTup v = true ∧ notTup u = true ∧ notTup u2 = true) : aOut t H [r, r', r2] = some (.tuple #[v, u, u2]) := by simp [aOut, aResL, h, h', h2, hn]
def inD (D : List Nat) (a : Nat) : Bool := D.any (Nat.beq a)
def mix (D : List Nat) (t0 u : Tm) : Tm := fun a => cond (inD D a) (u a) (t0 a)
def AP.ds : AP → List Nat
 | .done | .stop => []
 | .quiet o r => o.dst.toList ++ r.ds
 | .br o _ r m => o.dst.toList ++ (r.ds ++ m.ds)
def AC.ds : AC → List Nat
 | .skip | .ret | .exit _ => []
 | .list os => (os.map fun o => o.dst.toList).flatten
 | .plan p => p.ds
 | .seq a b => a.ds ++ b.ds
 | .cond _ a b => a.ds ++ b.ds
 | .block _ a => a.ds
 | .loop a => a.ds
def Keep (D : List Nat) (t t' : Tm) : Prop := ∀ a, inD D a = false → t' a = t a
theorem Keep.refl {D : List Nat} (t : Tm) : Keep D t t := fun _ _ => rfl
theorem Keep.trans {D : List Nat} {a b c : Tm} (h : Keep D a b) (k : Keep D b c) : Keep D a c := fun i hi => (k i hi).trans (h i hi)
theorem Keep.upd {D : List Nat} {d : Option Nat} (h : ∀ a ∈ d.toList, inD D a = true) (u : Value) : Keep D t (upd t d u) := fun a ha => by
 cases d with
 | none => rfl
 | some d =>
  show (if a = d then u else t a) = t a
  rw [if_neg]
  rintro rfl
  rw [h a (by simp)] at ha
  cases ha
theorem Keep.mix {D : List Nat} {t t' : Tm} (h : Keep D t t') : t' = mix D t t' := by
 funext a
 unfold Abs.mix
 rcases ha : inD D a with _ | _
 ·exact h a ha
 ·rfl
theorem aStep_keep {D : List Nat} {o : AO} (h : ∀ a ∈ o.dst.toList, inD D a = true) (hs : aStep P o R t H) : aStep P o (fun t' H' => R t' H' ∧ Keep D t t') t H := by
 unfold aStep at hs ⊢
 split
 ·rename_i hg
  rw [hg] at hs
  exact aRun_mono (fun v H' hv => ⟨hv, Keep.upd h v⟩) hs
 ·rename_i g want hg
  rw [hg] at hs
  obtain ⟨b, hb, hs⟩ := hs
  refine ⟨b, hb, ?_⟩
  split
  ·rename_i e
   rw [if_pos e] at hs
   exact aRun_mono (fun v H' hv => ⟨hv, Keep.upd h v⟩) hs
  ·rename_i e
   rw [if_neg e] at hs
   exact ⟨hs, Keep.upd h _⟩
theorem AWl_keep {D : List Nat} {K : Tm → Hp → Prop} : ∀ {os : List AO} {t : Tm} {H : Hp}, (∀ a ∈ (os.map fun o => o.dst.toList).flatten, inD D a = true) → AWl P os K t H → AWl P os (fun t' H' => K t' H' ∧ Keep D t t') t H
 | [], t, H, _, h => ⟨h, Keep.refl t⟩
 | o :: os, t, H, hd, h => aStep_mono (fun t1 H1 ⟨h1, h2⟩ => AWl_mono (fun t2 H2 ⟨h3, h4⟩ => ⟨h3, h2.trans h4⟩) (AWl_keep (fun a ha => hd a (by simp only [List.map_cons, List.flatten_cons, List.mem_append]; exact .inr ha)) h1)) (aStep_keep (fun a ha => hd a (by simp only [List.map_cons, List.flatten_cons, List.mem_append]; exact .inl ha)) h)
theorem AWp_keep {D : List Nat} {K : Tm → Hp → Prop} : ∀ {p : AP} {t : Tm} {H : Hp}, (∀ a ∈ p.ds, inD D a = true) → AWp P p K t H → AWp P p (fun t' H' => K t' H' ∧ Keep D t t') t H
 | .done, t, H, _, h => ⟨h, Keep.refl t⟩
 | .stop, t, H, _, h => trivial
 | .quiet o r, t, H, hd, h => aStep_mono (fun t1 H1 ⟨h1, h2⟩ => AWp_mono (fun t2 H2 ⟨h3, h4⟩ => ⟨h3, h2.trans h4⟩) (AWp_keep (fun a ha => hd a (by simp only [AP.ds, List.mem_append]; exact .inr ha)) h1)) (aStep_keep (fun a ha => hd a (by simp only [AP.ds, List.mem_append]; exact .inl ha)) h)
 | .br o cs r m, t, H, hd, h => ⟨aStep_mono (fun t1 H1 ⟨h1, h2⟩ => ⟨h1.1, AWp_mono (fun t2 H2 ⟨h3, h4⟩ => ⟨h3, h2.trans h4⟩) (AWp_keep (fun a ha => hd a (by simp only [AP.ds, List.mem_append]; exact .inr (.inl ha))) h1.2)⟩) (aStep_keep (fun a ha => hd a (by simp only [AP.ds, List.mem_append]; exact .inl ha)) h.1), AWp_keep (fun a ha => hd a (by simp only [AP.ds, List.mem_append]; exact .inr (.inr ha))) h.2⟩
theorem xBlock_and {id : Nat} {Q : Exit → Tm → Hp → Prop} {F : Tm → Prop} (e : Exit) (t : Tm) (H : Hp) (h1 : xBlock id Q e t H) (h2 : F t) : xBlock id (fun e t H => Q e t H ∧ F t) e t H := by
 cases e with
 | exit j =>
  simp only [xBlock] at h1 ⊢
  split
  ·rename_i hj; rw [if_pos hj] at h1; exact ⟨h1, h2⟩
  ·rename_i hj; rw [if_neg hj] at h1; exact ⟨h1, h2⟩
 | _ => exact ⟨h1, h2⟩
theorem AW_keep {D : List Nat} : ∀ {c : AC} {Q : Exit → Tm → Hp → Prop} {t : Tm} {H : Hp}, (∀ a ∈ c.ds, inD D a = true) → AW P c Q t H → AW P c (fun e t' H' => Q e t' H' ∧ Keep D t t') t H
 | .skip, Q, t, H, _, h => ⟨h, Keep.refl t⟩
 | .ret, Q, t, H, _, h => ⟨h, Keep.refl t⟩
 | .exit id, Q, t, H, _, h => ⟨h, Keep.refl t⟩
 | .list os, Q, t, H, hd, h => AWl_keep hd h
 | .plan p, Q, t, H, hd, h => AWp_keep hd h
 | .seq a b, Q, t, H, hd, h => by
  have ha := AW_keep (c := a) (fun x hx => hd x (by simp only [AC.ds, List.mem_append]; exact .inl hx)) h
  refine AW_mono (c := a) (fun e t1 H1 ⟨h1, h2⟩ => ?_) ha
  cases e with
  | normal => exact AW_mono (c := b) (fun e t2 H2 ⟨h3, h4⟩ => ⟨h3, h2.trans h4⟩) (AW_keep (c := b) (fun x hx => hd x (by simp only [AC.ds, List.mem_append]; exact .inr hx)) h1)
  | _ => exact ⟨h1, h2⟩
 | .cond c a b, Q, t, H, hd, h => by
  obtain ⟨v, hv, h⟩ := h
  refine ⟨v, hv, ?_⟩
  split
  ·rename_i hb; rw [if_pos hb] at h; exact AW_keep (c := a) (fun x hx => hd x (by simp only [AC.ds, List.mem_append]; exact .inl hx)) h
  ·rename_i hb; rw [if_neg hb] at h; exact AW_keep (c := b) (fun x hx => hd x (by simp only [AC.ds, List.mem_append]; exact .inr hx)) h
 | .block id a, Q, t, H, hd, h => AW_mono (c := a) (fun e t1 H1 ⟨h1, h2⟩ => xBlock_and e t1 H1 h1 h2) (AW_keep (c := a) hd h)
 | .loop a, Q, t, H, hd, h => by
  obtain ⟨I, μ, h0, hr⟩ := h
  refine ⟨fun t' H' => I t' H' ∧ Keep D t t', μ, ⟨h0, Keep.refl t⟩, fun t1 H1 ⟨hI, hk⟩ => AW_mono (c := a) (fun e t2 H2 ⟨h1, h2⟩ => ?_) (AW_keep (c := a) hd (hr t1 H1 hI))⟩
  cases e with
  | normal => exact ⟨⟨h1.1, hk.trans h2⟩, h1.2⟩
  | _ => exact ⟨h1, hk.trans h2⟩
theorem least {p : Nat → Prop} (h : ∃ n, p n) : ∃ n, p n ∧ ∀ m, p m → n ≤ m := by
 obtain ⟨n, hn⟩ := h
 induction n using Nat.strongRecOn with
 | _ n ih =>
  by_cases hx : ∃ m, m < n ∧ p m
  ·obtain ⟨m, hlt, hm⟩ := hx
   exact ih m hlt hm
  ·exact ⟨n, hn, fun m hm => Nat.le_of_not_lt fun hlt => hx ⟨m, hlt, hm⟩⟩
open Classical in
theorem AW_loopN {c : AC} {Q : Exit → Tm → Hp → Prop} (I : Nat → Tm → Hp → Prop) (m0 : Nat) (h0 : I m0 t H) (D : List Nat) (hD : c.ds.all (inD D) = true)
  (h : ∀ m t1 H1, t1 = mix D t t1 → I m t1 H1 → AW P c (xThen (fun t' H' => ∃ m', m' < m ∧ I m' t' H') Q) t1 H1) : AW P (.loop c) Q t H := by
 let I' : Tm → Hp → Prop := fun t' H' => (∃ m, I m t' H') ∧ Keep D t t'
 let μ : Tm → Hp → Nat := fun t' H' => if hm : ∃ m, I m t' H' then Classical.choose (least hm) else 0
 refine ⟨I', μ, ⟨⟨m0, h0⟩, Keep.refl t⟩, fun t1 H1 ⟨hm, hk⟩ => ?_⟩
 have hI := (Classical.choose_spec (least hm)).1
 have hμ : μ t1 H1 = Classical.choose (least hm) := by simp only [μ, dif_pos hm]
 refine AW_mono (c := c) (fun e t2 H2 ⟨h1, h2⟩ => ?_) (AW_keep (c := c) (D := D) (fun a ha => List.all_eq_true.1 hD a ha) (h _ t1 H1 hk.mix hI))
 cases e with
 | normal =>
  obtain ⟨m', hlt, hI'⟩ := h1
  refine ⟨⟨⟨m', hI'⟩, hk.trans h2⟩, ?_⟩
  rw [hμ]
  have : μ t2 H2 = Classical.choose (least (⟨m', hI'⟩ : ∃ m, I m t2 H2)) := by simp only [μ]; rw [dif_pos (⟨m', hI'⟩ : ∃ m, I m t2 H2)]
  rw [this]
  exact Nat.lt_of_le_of_lt ((Classical.choose_spec (least (⟨m', hI'⟩ : ∃ m, I m t2 H2))).2 _ hI') hlt
 | _ => exact h1
theorem AW_cutK {a b : AC} {Q : Exit → Tm → Hp → Prop} (I : Tm → Hp → Prop) (D : List Nat) (hD : a.ds.all (inD D) = true) (h1 : AW P a (xThen I Q) t H) (h2 : ∀ t1 H1, t1 = mix D t t1 → I t1 H1 → AW P b Q t1 H1) : AW P (.seq a b) Q t H := by
 refine AW_mono (c := a) (fun e t2 H2 ⟨h3, h4⟩ => ?_) (AW_keep (c := a) (D := D) (fun x hx => List.all_eq_true.1 hD x hx) h1)
 cases e with
 | normal => exact h2 t2 H2 h4.mix h3
 | _ => exact h3
end
theorem ACalls.wf {P : Program} {f : FuncId} {xs : List Value} {H : Hp} {K : Value → Hp → Prop} (h : ACalls P f xs H K) : ACalls P f xs H fun v H' => K v H' ∧ Wf H' := by
 intro ρ w0 w ys h1 h2
 refine (h ρ w0 w ys h1 h2).mono fun e w' he => ?_
 cases e with
 | returned v =>
  obtain ⟨ρ', u, H', e1, e2, e3, e4⟩ := he
  exact ⟨ρ', u, H', e1, e2, e3, e4, fun b k hk => e3.live hk⟩
 | panicked c => exact he
 | outgrown => exact he
end Go.Proofs.YtjmjkdelkaflmaaGreatDoor.Abs
