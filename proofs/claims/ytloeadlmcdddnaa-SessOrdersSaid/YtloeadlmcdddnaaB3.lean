/- Steps through an abstract text, with the blocks that are known told in a list. -/
import Derived.Test.YtloeadlmcdddnaaB2
set_option linter.unusedVariables false
set_option linter.unusedSimpArgs false
namespace Go.Proofs.Ytloeadlmcdddnaa.Abs
open Go Go.RowKit
/-- A block that is known (no key: a slice that is nil, whose cells are none); may it be written here? -/
structure Ent where
  key : Option Nat
  ok : Bool
  blk : Blk
/-- What a list tells of the blocks; all others, but for those of X, are as they were at first. -/
structure Stt (X : List Nat) (H0 H : Hp) (L : List Ent) : Prop where
  wf0 : Wf H0
  wf : Wf H
  nx : H0.nx ≤ H.nx
  frm : ∀ b, b < H0.nx → b ∉ X → H.m b = H0.m b
  has : ∀ p ∈ L, (∀ b, p.key = some b → H.m b = some p.blk) ∧ (p.key = none → p.blk.cells = [])
  own : ∀ p ∈ L, p.ok = true → p.blk.rw = true ∧ ∀ b, p.key = some b → H0.nx ≤ b ∨ b ∈ X
  dis : (L.filterMap (·.key)).Nodup
inductive NfL {α : Type} : List α → List α → Prop
  | nil : NfL [] []
  | cons (a : α) {xs ys : List α} (h : NfL xs ys) : NfL (a :: xs) (a :: ys)
  | any (xs : List α) : NfL xs xs
theorem NfL.eq {α : Type} {xs ys : List α} (h : NfL xs ys) : xs = ys := by
  induction h with
  | nil => rfl
  | cons a _ ih => rw [ih]
  | any => rfl
theorem key_lt {X : List Nat} {H0 H : Hp} {L : List Ent} (st : Stt X H0 H L) {p : Ent} {b : Nat} (hp : p ∈ L) (hb : p.key = some b) : b < H.nx := st.wf b _ ((st.has p hp).1 b hb)
theorem Stt.start {X : List Nat} {H : Hp} (hw : Wf H) : Stt X H H [] :=
  ⟨hw, hw, Nat.le_refl _, fun _ _ _ => rfl, by simp, by simp, by simp⟩
/-- A block of the caller's, that is only read. -/
theorem Stt.ro {X : List Nat} {H0 H : Hp} {L : List Ent} (st : Stt X H0 H L) {b : Nat} {k : Blk} (hk : H.m b = some k) (hn : ∀ p ∈ L, p.key ≠ some b) : Stt X H0 H (⟨some b, false, k⟩ :: L) := by
  refine ⟨st.wf0, st.wf, st.nx, st.frm, fun p hp => ?_, fun p hp ho => ?_, ?_⟩
  · rcases List.mem_cons.1 hp with rfl | hp
    · exact ⟨fun c hc => by injection hc with hc; subst hc; exact hk, fun h => by cases h⟩
    · exact st.has p hp
  · rcases List.mem_cons.1 hp with rfl | hp
    · cases ho
    · exact st.own p hp ho
  · simp only [List.filterMap_cons_some (show (fun p : Ent => p.key) ⟨some b, false, k⟩ = some b from rfl)]
    refine List.nodup_cons.2 ⟨fun hm => ?_, st.dis⟩
    obtain ⟨p, hp, he⟩ := List.mem_filterMap.1 hm
    exact hn p hp he
/-- A block of the caller's, that is written. -/
theorem Stt.mine {X : List Nat} {H0 H : Hp} {L : List Ent} (st : Stt X H0 H L) {b : Nat} {k : Blk} (hk : H.m b = some k) (hr : k.rw = true) (hb : b ∈ X) (hn : ∀ p ∈ L, p.key ≠ some b) : Stt X H0 H (⟨some b, true, k⟩ :: L) := by
  refine ⟨st.wf0, st.wf, st.nx, st.frm, fun p hp => ?_, fun p hp ho => ?_, ?_⟩
  · rcases List.mem_cons.1 hp with rfl | hp
    · exact ⟨fun c hc => by injection hc with hc; subst hc; exact hk, fun h => by cases h⟩
    · exact st.has p hp
  · rcases List.mem_cons.1 hp with rfl | hp
    · exact ⟨hr, fun c hc => by injection hc with hc; subst hc; exact .inr hb⟩
    · exact st.own p hp ho
  · simp only [List.filterMap_cons_some (show (fun p : Ent => p.key) ⟨some b, true, k⟩ = some b from rfl)]
    refine List.nodup_cons.2 ⟨fun hm => ?_, st.dis⟩
    obtain ⟨p, hp, he⟩ := List.mem_filterMap.1 hm
    exact hn p hp he
/-- A nil slice, to be appended to. -/
theorem Stt.nil {X : List Nat} {H0 H : Hp} {L : List Ent} (st : Stt X H0 H L) (e : TypeId) : Stt X H0 H (⟨none, true, ⟨true, e, []⟩⟩ :: L) := by
  refine ⟨st.wf0, st.wf, st.nx, st.frm, fun p hp => ?_, fun p hp ho => ?_, ?_⟩
  · rcases List.mem_cons.1 hp with rfl | hp
    · exact ⟨fun c hc => by (cases hc), fun _ => rfl⟩
    · exact st.has p hp
  · rcases List.mem_cons.1 hp with rfl | hp
    · exact ⟨rfl, fun c hc => by (cases hc)⟩
    · exact st.own p hp ho
  · rw [List.filterMap_cons_none (show (fun p : Ent => p.key) ⟨none, true, ⟨true, e, []⟩⟩ = none from rfl)]
    exact st.dis
theorem Stt.push {X : List Nat} {H0 H : Hp} {L : List Ent} (st : Stt X H0 H L) (k : Blk) (hr : k.rw = true) : Stt X H0 (H.push k) (⟨some H.nx, true, k⟩ :: L) := by
  refine ⟨st.wf0, st.wf.push k, Nat.le_trans st.nx (Nat.le_succ _), fun b hb hx => ?_, fun p hp => ?_, fun p hp ho => ?_, ?_⟩
  · have := st.nx
    rw [← st.frm b hb hx]
    exact (Frm.push H k).2 b (by omega)
  · rcases List.mem_cons.1 hp with rfl | hp
    · exact ⟨fun c hc => by injection hc with hc; subst hc; simp [Hp.push], fun h => by cases h⟩
    · exact ⟨fun b hb => by rw [(Frm.push H k).2 b (key_lt st hp hb)]; exact (st.has p hp).1 b hb, (st.has p hp).2⟩
  · rcases List.mem_cons.1 hp with rfl | hp
    · exact ⟨hr, fun c hc => by injection hc with hc; subst hc; exact .inl st.nx⟩
    · exact st.own p hp ho
  · simp only [List.filterMap_cons_some (show (fun p : Ent => p.key) ⟨some H.nx, true, k⟩ = some H.nx from rfl)]
    refine List.nodup_cons.2 ⟨fun hm => ?_, st.dis⟩
    obtain ⟨p, hp, he⟩ := List.mem_filterMap.1 hm
    have := key_lt st hp he
    omega
theorem Stt.get {X : List Nat} {H0 H : Hp} {L : List Ent} (st : Stt X H0 H L) {j b : Nat} {ok : Bool} {k : Blk} (hi : L[j]? = some ⟨some b, ok, k⟩) : H.m b = some k := (st.has _ (List.mem_of_getElem? hi)).1 b rfl
theorem set_keys {L : List Ent} {j : Nat} {p q : Ent} (hi : L[j]? = some p) (hk : q.key = p.key) : (L.set j q).filterMap (·.key) = L.filterMap (·.key) := by
  induction L generalizing j with
  | nil => simp at hi
  | cons a L ih =>
    cases j with
    | zero =>
      simp only [List.getElem?_cons_zero, Option.some.injEq] at hi
      subst hi
      simp only [List.set_cons_zero, List.filterMap_cons, hk]
    | succ j =>
      simp only [List.getElem?_cons_succ] at hi
      simp only [List.set_cons_succ, List.filterMap_cons, ih hi]
theorem nodup_keys {L : List Ent} (h : (L.filterMap (·.key)).Nodup) : ∀ {i j : Nat} {p q : Ent} {b : Nat}, L[i]? = some p → L[j]? = some q → p.key = some b → q.key = some b → i = j := by
  induction L with
  | nil => intro i j p q b hi; simp at hi
  | cons a L ih =>
    intro i j p q b hi hj hp hq
    have inL : ∀ {k : Nat} {r : Ent}, L[k]? = some r → r.key = some b → b ∈ L.filterMap (·.key) := fun hk hr => List.mem_filterMap.2 ⟨_, List.mem_of_getElem? hk, hr⟩
    rcases ha : a.key with _ | c
    · rw [List.filterMap_cons_none ha] at h
      cases i with
      | zero => simp at hi; subst hi; rw [ha] at hp; cases hp
      | succ i => cases j with
        | zero => simp at hj; subst hj; rw [ha] at hq; cases hq
        | succ j => exact congrArg _ (ih h (i := i) (j := j) (by simpa using hi) (by simpa using hj) hp hq)
    · rw [List.filterMap_cons_some ha] at h
      obtain ⟨h1, h2⟩ := List.nodup_cons.1 h
      cases i with
      | zero => cases j with
        | zero => rfl
        | succ j =>
          simp at hi
          subst hi
          rw [ha] at hp
          injection hp with hp
          subst hp
          exact absurd (inL (by simpa using hj) hq) h1
      | succ i => cases j with
        | zero =>
          simp at hj
          subst hj
          rw [ha] at hq
          injection hq with hq
          subst hq
          exact absurd (inL (by simpa using hi) hp) h1
        | succ j => exact congrArg _ (ih h2 (i := i) (j := j) (by simpa using hi) (by simpa using hj) hp hq)
theorem Stt.put {X : List Nat} {H0 H : Hp} {L : List Ent} (st : Stt X H0 H L) {j b : Nat} {k : Blk} (hi : L[j]? = some ⟨some b, true, k⟩) (cs : List Value) : Stt X H0 (H.set b { k with cells := cs }) (L.set j ⟨some b, true, { k with cells := cs }⟩) := by
  have hm := List.mem_of_getElem? hi
  have hlt := key_lt st hm rfl
  obtain ⟨hrw, hown⟩ := st.own _ hm rfl
  have hset : ∀ c, (H.set b { k with cells := cs }).m c = if c = b then some { k with cells := cs } else H.m c := fun c => rfl
  refine ⟨st.wf0, st.wf.set hlt _, st.nx, fun c hc hx => ?_, fun p hp => ?_, fun p hp ho => ?_, ?_⟩
  · rw [hset, if_neg ?_]
    · exact st.frm c hc hx
    · intro e
      subst e
      rcases hown c rfl with h | h
      · omega
      · exact hx h
  · obtain ⟨i, hp'⟩ := List.mem_iff_getElem?.1 hp
    rw [List.getElem?_set] at hp'
    split at hp'
    · split at hp'
      · injection hp' with hp'
        subst hp'
        exact ⟨fun c hc => by injection hc with hc; subst hc; rw [hset, if_pos rfl], fun h => by cases h⟩
      · cases hp'
    · rename_i hij
      refine ⟨fun c hc => ?_, (st.has p (List.mem_of_getElem? hp')).2⟩
      rw [hset, if_neg ?_]
      · exact (st.has p (List.mem_of_getElem? hp')).1 c hc
      · intro e
        subst e
        exact hij (nodup_keys st.dis hi hp' rfl hc)
  · obtain ⟨i, hp'⟩ := List.mem_iff_getElem?.1 hp
    rw [List.getElem?_set] at hp'
    split at hp'
    · split at hp'
      · injection hp' with hp'
        subst hp'
        exact ⟨hrw, hown⟩
      · cases hp'
    · exact st.own p (List.mem_of_getElem? hp') ho
  · rw [set_keys hi (q := ⟨some b, true, { k with cells := cs }⟩) rfl]
    exact st.dis
/-- Entries are picked out. -/
theorem Stt.sub {X : List Nat} {H0 H : Hp} {L : List Ent} (st : Stt X H0 H L) {L' : List Ent} (h1 : ∀ p ∈ L', p ∈ L) (h2 : (L'.filterMap (·.key)).Nodup) : Stt X H0 H L' :=
  ⟨st.wf0, st.wf, st.nx, st.frm, fun p hp => st.has p (h1 p hp), fun p hp => st.own p (h1 p hp), h2⟩
theorem Stt.pick {X : List Nat} {H0 H : Hp} {L : List Ent} (st : Stt X H0 H L) (j : Nat) {p : Ent} (hi : L[j]? = some p) : Stt X H0 H [p] := by
  refine st.sub (fun q hq => ?_) ?_
  · rw [List.mem_singleton.1 hq]
    exact List.mem_of_getElem? hi
  · rcases hk : p.key with _ | b
    · rw [List.filterMap_cons_none hk]; exact List.nodup_nil
    · rw [List.filterMap_cons_some hk]; simp
theorem Stt.drop {X : List Nat} {H0 H : Hp} {L : List Ent} (st : Stt X H0 H L) : Stt X H0 H [] := st.sub (by simp) (by simp)
theorem Stt.swap {X : List Nat} {H0 H : Hp} {L L' : List Ent} (st : Stt X H0 H L) (h : L.Perm L') : Stt X H0 H L' :=
  st.sub (fun p hp => h.mem_iff.2 hp) (((h.filterMap _).nodup_iff).1 st.dis)
theorem Stt.pick2 {X : List Nat} {H0 H : Hp} {L : List Ent} (st : Stt X H0 H L) (i j : Nat) {p q : Ent} (hi : L[i]? = some p) (hj : L[j]? = some q) (hij : i ≠ j) : Stt X H0 H [p, q] := by
  refine st.sub (fun r hr => ?_) ?_
  · rcases List.mem_cons.1 hr with rfl | hr
    · exact List.mem_of_getElem? hi
    · rw [List.mem_singleton.1 hr]
      exact List.mem_of_getElem? hj
  · rcases hk : p.key with _ | b <;> rcases hl : q.key with _ | c <;> simp [List.filterMap_cons, hk, hl]
    rintro rfl
    exact hij (nodup_keys st.dis hi hj hk hl)
theorem Stt.tail {X : List Nat} {H0 H : Hp} {p : Ent} {L : List Ent} (st : Stt X H0 H (p :: L)) : Stt X H0 H L := by
  refine st.sub (fun q hq => List.mem_cons_of_mem _ hq) ?_
  have := st.dis
  rcases hk : p.key with _ | b
  · rwa [List.filterMap_cons_none hk] at this
  · rw [List.filterMap_cons_some hk] at this
    exact (List.nodup_cons.1 this).2
theorem Stt.frm0 {H0 H : Hp} {L : List Ent} (st : Stt [] H0 H L) : Frm H0 H := ⟨st.nx, fun b hb => st.frm b hb (by simp)⟩
theorem Stt.of_frm {H0 H : Hp} (hw0 : Wf H0) (hw : Wf H) (h : Frm H0 H) : Stt [] H0 H [] := ⟨hw0, hw, h.1, fun b hb _ => h.2 b hb, by simp, by simp, by simp⟩
theorem nodup_app {α : Type} {xs ys : List α} (h1 : xs.Nodup) (h2 : ys.Nodup) (h : ∀ a ∈ xs, a ∉ ys) : (xs ++ ys).Nodup := by
  refine List.nodup_append.2 ⟨h1, h2, fun a ha b hb e => ?_⟩
  subst e
  exact h a ha hb
/-- A call that writes none of what was there. -/
theorem Stt.call {X : List Nat} {H0 H H' : Hp} {L L' : List Ent} (st : Stt X H0 H L) (h : Stt [] H H' L') (ho : L'.all (·.ok) = true) : Stt X H0 H' (L' ++ L) := by
  have hnew : ∀ p ∈ L', ∀ b, p.key = some b → H.nx ≤ b := fun p hp b hb => by
    rcases (h.own p hp (List.all_eq_true.1 ho p hp)).2 b hb with h1 | h1
    · exact h1
    · cases h1
  refine ⟨st.wf0, h.wf, Nat.le_trans st.nx h.nx, fun b hb hx => ?_, fun p hp => ?_, fun p hp hok => ?_, ?_⟩
  · have := st.nx
    rw [h.frm b (by omega) (by simp)]
    exact st.frm b hb hx
  · rcases List.mem_append.1 hp with hp | hp
    · exact h.has p hp
    · exact ⟨fun b hb => by rw [h.frm b (key_lt st hp hb) (by simp)]; exact (st.has p hp).1 b hb, (st.has p hp).2⟩
  · rcases List.mem_append.1 hp with hp | hp
    · refine ⟨(h.own p hp hok).1, fun b hb => .inl ?_⟩
      have := hnew p hp b hb
      have := st.nx
      omega
    · exact st.own p hp hok
  · rw [List.filterMap_append]
    refine nodup_app h.dis st.dis fun b hb hb' => ?_
    obtain ⟨p, hp, he⟩ := List.mem_filterMap.1 hb
    obtain ⟨q, hq, hf⟩ := List.mem_filterMap.1 hb'
    have := hnew p hp b he
    have := key_lt st hq hf
    omega
/-- A call that writes one block of ours. -/
theorem Stt.callX {X : List Nat} {H0 H H' : Hp} {L L' : List Ent} {b : Nat} {k k' : Blk} (st : Stt X H0 H L) (j : Nat) (hj : L[j]? = some ⟨some b, true, k⟩) (h : Stt [b] H H' (⟨some b, true, k'⟩ :: L')) (ho : L'.all (·.ok) = true) : Stt X H0 H' (⟨some b, true, k'⟩ :: (L' ++ L.eraseIdx j)) := by
  have hm := List.mem_of_getElem? hj
  have hblt := key_lt st hm rfl
  obtain ⟨hrw, hown⟩ := st.own _ hm rfl
  have hdis := h.dis
  rw [List.filterMap_cons_some (show (fun p : Ent => p.key) ⟨some b, true, k'⟩ = some b from rfl)] at hdis
  obtain ⟨hd1, hd2⟩ := List.nodup_cons.1 hdis
  have hnew : ∀ p ∈ L', ∀ c, p.key = some c → H.nx ≤ c := fun p hp c hc => by
    rcases (h.own p (List.mem_cons_of_mem _ hp) (List.all_eq_true.1 ho p hp)).2 c hc with h1 | h1
    · exact h1
    · rw [List.mem_singleton.1 h1] at hc
      exact absurd (List.mem_filterMap.2 ⟨p, hp, hc⟩) hd1
  have her : ∀ p ∈ L.eraseIdx j, p ∈ L ∧ p.key ≠ some b := fun p hp => by
    obtain ⟨i, hij, hpi⟩ := List.mem_eraseIdx_iff_getElem?.1 hp
    exact ⟨List.mem_of_getElem? hpi, fun e => hij (nodup_keys st.dis hpi hj e rfl)⟩
  refine ⟨st.wf0, h.wf, Nat.le_trans st.nx h.nx, fun c hc hx => ?_, fun p hp => ?_, fun p hp hok => ?_, ?_⟩
  · have := st.nx
    rw [h.frm c (by omega) ?_]
    · exact st.frm c hc hx
    · intro hcb
      rw [List.mem_singleton.1 hcb] at hx hc
      rcases hown b rfl with h1 | h1
      · omega
      · exact hx h1
  · rcases List.mem_cons.1 hp with rfl | hp
    · exact h.has _ (by simp)
    · rcases List.mem_append.1 hp with hp | hp
      · exact h.has p (List.mem_cons_of_mem _ hp)
      · obtain ⟨h1, h2⟩ := her p hp
        exact ⟨fun c hc => by rw [h.frm c (key_lt st h1 hc) (by intro e; rw [List.mem_singleton.1 e] at hc; exact h2 hc)]; exact (st.has p h1).1 c hc, (st.has p h1).2⟩
  · rcases List.mem_cons.1 hp with rfl | hp
    · exact ⟨(h.own _ (by simp) rfl).1, hown⟩
    · rcases List.mem_append.1 hp with hp | hp
      · refine ⟨(h.own p (List.mem_cons_of_mem _ hp) hok).1, fun c hc => .inl ?_⟩
        have := hnew p hp c hc
        have := st.nx
        omega
      · exact st.own p (her p hp).1 hok
  · rw [List.filterMap_cons_some (show (fun p : Ent => p.key) ⟨some b, true, k'⟩ = some b from rfl), List.filterMap_append]
    have hsub : ((L.eraseIdx j).filterMap (·.key)).Nodup := List.Nodup.sublist ((List.eraseIdx_sublist L j).filterMap _) st.dis
    refine List.nodup_cons.2 ⟨fun hb => ?_, nodup_app hd2 hsub fun c hc hc' => ?_⟩
    · rcases List.mem_append.1 hb with hb | hb
      · exact hd1 hb
      · obtain ⟨p, hp, he⟩ := List.mem_filterMap.1 hb
        exact (her p hp).2 he
    · obtain ⟨p, hp, he⟩ := List.mem_filterMap.1 hc
      obtain ⟨q, hq, hf⟩ := List.mem_filterMap.1 hc'
      have := hnew p hp c he
      have := key_lt st (her q hq).1 hf
      omega
/-- A slice that grows: nil, or a row of one's own. -/
def accV (ob : Option Nat) (n sz : Nat) : Value :=
  match ob with
  | none => .slice none 0 0
  | some b => .slice (some ⟨b, 0, none⟩) n sz
/-- Elements behind a slice of one's own: the old block is gone, a new one is there. -/
theorem Stt.grow {X : List Nat} {H0 H : Hp} {L : List Ent} (st : Stt X H0 H L) {j b : Nat} {k : Blk} (hi : L[j]? = some ⟨some b, true, k⟩) (k' : Blk) (hr : k'.rw = true) : Stt X H0 ((H.cut b).push k') (L.set j ⟨some H.nx, true, k'⟩) := by
  have hm := List.mem_of_getElem? hi
  have hblt := key_lt st hm rfl
  obtain ⟨hrw, hown⟩ := st.own _ hm rfl
  have hset : ∀ c, ((H.cut b).push k').m c = if c = H.nx then some k' else if c = b then none else H.m c := fun c => rfl
  refine ⟨st.wf0, (st.wf.cut b).push k', Nat.le_trans st.nx (Nat.le_succ _), fun c hc hx => ?_, fun p hp => ?_, fun p hp ho => ?_, ?_⟩
  · have := st.nx
    rw [hset, if_neg (by omega), if_neg ?_]
    · exact st.frm c hc hx
    · intro e
      subst e
      rcases hown c rfl with h | h
      · omega
      · exact hx h
  · obtain ⟨i, hp'⟩ := List.mem_iff_getElem?.1 hp
    rw [List.getElem?_set] at hp'
    split at hp'
    · split at hp'
      · injection hp' with hp'
        subst hp'
        exact ⟨fun c hc => by injection hc with hc; subst hc; rw [hset, if_pos rfl], fun h => by cases h⟩
      · cases hp'
    · rename_i hij
      have hpL := List.mem_of_getElem? hp'
      refine ⟨fun c hc => ?_, (st.has p hpL).2⟩
      have := key_lt st hpL hc
      rw [hset, if_neg (by omega), if_neg ?_]
      · exact (st.has p hpL).1 c hc
      · intro e
        subst e
        exact hij (nodup_keys st.dis hi hp' rfl hc)
  · obtain ⟨i, hp'⟩ := List.mem_iff_getElem?.1 hp
    rw [List.getElem?_set] at hp'
    split at hp'
    · split at hp'
      · injection hp' with hp'
        subst hp'
        exact ⟨hr, fun c hc => by injection hc with hc; subst hc; exact .inl st.nx⟩
      · cases hp'
    · exact st.own p (List.mem_of_getElem? hp') ho
  · have key : ∀ {L : List Ent} {j : Nat} {q : Ent} {n : Nat}, (L.filterMap (·.key)).Nodup → L[j]? = some ⟨some b, true, k⟩ → (∀ p ∈ L, ∀ c, p.key = some c → c < n) → ((L.set j ⟨some n, true, k'⟩).filterMap (·.key)).Nodup := by
      intro L
      induction L with
      | nil => intro j q n _ h; simp at h
      | cons a L ih =>
        intro j q n hd hj hlt
        cases j with
        | zero =>
          simp only [List.getElem?_cons_zero, Option.some.injEq] at hj
          subst hj
          rw [List.filterMap_cons_some (show (fun p : Ent => p.key) ⟨some b, true, k⟩ = some b from rfl)] at hd
          rw [List.set_cons_zero, List.filterMap_cons_some (show (fun p : Ent => p.key) ⟨some n, true, k'⟩ = some n from rfl)]
          refine List.nodup_cons.2 ⟨fun hm => ?_, (List.nodup_cons.1 hd).2⟩
          obtain ⟨p, hp, he⟩ := List.mem_filterMap.1 hm
          have := hlt p (List.mem_cons_of_mem _ hp) _ he
          omega
        | succ j =>
          simp only [List.getElem?_cons_succ] at hj
          rw [List.set_cons_succ]
          rcases ha : a.key with _ | c
          · rw [List.filterMap_cons_none ha] at hd ⊢
            exact ih (q := q) hd hj fun p hp => hlt p (List.mem_cons_of_mem _ hp)
          · rw [List.filterMap_cons_some ha] at hd ⊢
            obtain ⟨h1, h2⟩ := List.nodup_cons.1 hd
            refine List.nodup_cons.2 ⟨fun hm => ?_, ih (q := q) h2 hj fun p hp => hlt p (List.mem_cons_of_mem _ hp)⟩
            obtain ⟨p, hp, he⟩ := List.mem_filterMap.1 hm
            obtain ⟨i, hp'⟩ := List.mem_iff_getElem?.1 hp
            rw [List.getElem?_set] at hp'
            split at hp'
            · split at hp'
              · injection hp' with hp'
                subst hp'
                injection he with he
                have := hlt a (by simp) c ha
                omega
              · cases hp'
            · exact h1 (List.mem_filterMap.2 ⟨p, List.mem_of_getElem? hp', he⟩)
    exact key (q := ⟨none, true, k⟩) st.dis hi fun p hp c hc => key_lt st hp hc
/-- The first elements of a slice that was nil. -/
theorem Stt.first {X : List Nat} {H0 H : Hp} {L : List Ent} (st : Stt X H0 H L) {j : Nat} {k : Blk} {ok : Bool} (hi : L[j]? = some ⟨none, ok, k⟩) (k' : Blk) (hr : k'.rw = true) : Stt X H0 (H.push k') (L.set j ⟨some H.nx, true, k'⟩) := by
  have h1 := st.push k' hr
  refine h1.sub (fun p hp => ?_) ?_
  · obtain ⟨i, hp'⟩ := List.mem_iff_getElem?.1 hp
    rw [List.getElem?_set] at hp'
    split at hp'
    · split at hp'
      · injection hp' with hp'
        subst hp'
        exact List.mem_cons_self ..
      · cases hp'
    · exact List.mem_cons_of_mem _ (List.mem_of_getElem? hp')
  · have key : ∀ {L : List Ent} {j : Nat} {n : Nat}, (L.filterMap (·.key)).Nodup → L[j]? = some ⟨none, ok, k⟩ → (∀ p ∈ L, ∀ c, p.key = some c → c < n) → ((L.set j ⟨some n, true, k'⟩).filterMap (·.key)).Nodup := by
      intro L
      induction L with
      | nil => intro j n _ h; simp at h
      | cons a L ih =>
        intro j n hd hj hlt
        cases j with
        | zero =>
          simp only [List.getElem?_cons_zero, Option.some.injEq] at hj
          subst hj
          rw [List.filterMap_cons_none (show (fun p : Ent => p.key) ⟨none, ok, k⟩ = none from rfl)] at hd
          rw [List.set_cons_zero, List.filterMap_cons_some (show (fun p : Ent => p.key) ⟨some n, true, k'⟩ = some n from rfl)]
          refine List.nodup_cons.2 ⟨fun hm => ?_, hd⟩
          obtain ⟨p, hp, he⟩ := List.mem_filterMap.1 hm
          have := hlt p (List.mem_cons_of_mem _ hp) _ he
          omega
        | succ j =>
          simp only [List.getElem?_cons_succ] at hj
          rw [List.set_cons_succ]
          rcases ha : a.key with _ | c
          · rw [List.filterMap_cons_none ha] at hd ⊢
            exact ih hd hj fun p hp => hlt p (List.mem_cons_of_mem _ hp)
          · rw [List.filterMap_cons_some ha] at hd ⊢
            obtain ⟨h1, h2⟩ := List.nodup_cons.1 hd
            refine List.nodup_cons.2 ⟨fun hm => ?_, ih h2 hj fun p hp => hlt p (List.mem_cons_of_mem _ hp)⟩
            obtain ⟨p, hp, he⟩ := List.mem_filterMap.1 hm
            obtain ⟨i, hp'⟩ := List.mem_iff_getElem?.1 hp
            rw [List.getElem?_set] at hp'
            split at hp'
            · split at hp'
              · injection hp' with hp'
                subst hp'
                injection he with he
                have := hlt a (by simp) c ha
                omega
              · cases hp'
            · exact h1 (List.mem_filterMap.2 ⟨p, List.mem_of_getElem? hp', he⟩)
    exact key st.dis hi fun p hp c hc => key_lt st hp hc
end Go.Proofs.Ytloeadlmcdddnaa.Abs
