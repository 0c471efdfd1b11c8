/- Functions that are handed a slice of the caller's own to append to. -/
import Derived.Test.YtloeadlmcdddnaaP2
set_option linter.unusedVariables false
set_option linter.unusedSimpArgs false
namespace Go.Proofs.Ytloeadlmcdddnaa.Abs
open Go Go.RowKit
theorem nodup_app' {α : Type} {l m : List α} (h1 : l.Nodup) (h2 : m.Nodup) (h : ∀ a, a ∈ l → a ∈ m → False) : (l ++ m).Nodup := List.nodup_append.2 ⟨h1, h2, fun a ha b hb e => h a ha (e ▸ hb)⟩
/-- A call that may use up one of the known blocks. -/
theorem Stt.callT {X : List Nat} {H0 H H' : Hp} {L L' : List Ent} {ob : Option Nat} {k : Blk} (st : Stt X H0 H L) (j : Nat) (hj : L[j]? = some ⟨ob, true, k⟩) (h : Stt ob.toList H H' L') (ho : L'.all (·.ok) = true) : Stt X H0 H' (L' ++ L.eraseIdx j) := by
  have hm := List.mem_of_getElem? hj
  obtain ⟨hrw, hown⟩ := st.own _ hm rfl
  have hnew : ∀ p ∈ L', ∀ c, p.key = some c → H.nx ≤ c ∨ ob = some c := fun p hp c hc => by
    rcases (h.own p hp (List.all_eq_true.1 ho p hp)).2 c hc with h1 | h1
    · exact .inl h1
    · exact .inr (by simpa [eq_comm] using h1)
  have her : ∀ p ∈ L.eraseIdx j, p ∈ L ∧ ∀ b, ob = some b → p.key ≠ some b := fun p hp => by
    obtain ⟨i, hij, hpi⟩ := List.mem_eraseIdx_iff_getElem?.1 hp
    exact ⟨List.mem_of_getElem? hpi, fun b hb e => hij (nodup_keys st.dis hpi hj e hb)⟩
  refine ⟨st.wf0, h.wf, Nat.le_trans st.nx h.nx, fun c hc hx => ?_, fun p hp => ?_, fun p hp hok => ?_, ?_⟩
  · have := st.nx
    rw [h.frm c (by omega) ?_]
    · exact st.frm c hc hx
    · intro hcb
      rcases hown c (by simpa [eq_comm] using hcb) with h1 | h1
      · omega
      · exact hx h1
  · rcases List.mem_append.1 hp with hp | hp
    · exact h.has p hp
    · obtain ⟨h1, h2⟩ := her p hp
      exact ⟨fun c hc => by rw [h.frm c (key_lt st h1 hc) (by intro e; exact h2 c (by simpa [eq_comm] using e) hc)]; exact (st.has p h1).1 c hc, (st.has p h1).2⟩
  · rcases List.mem_append.1 hp with hp | hp
    · refine ⟨(h.own p hp hok).1, fun c hc => ?_⟩
      rcases hnew p hp c hc with h1 | h1
      · have := st.nx
        exact .inl (by omega)
      · exact hown c h1
    · exact st.own p (her p hp).1 hok
  · rw [List.filterMap_append]
    have hsub : ((L.eraseIdx j).filterMap (·.key)).Nodup := List.Nodup.sublist ((List.eraseIdx_sublist L j).filterMap _) st.dis
    refine nodup_app' h.dis hsub fun c hc hc' => ?_
    obtain ⟨p, hp, he⟩ := List.mem_filterMap.1 hc
    obtain ⟨q, hq, hf⟩ := List.mem_filterMap.1 hc'
    rcases hnew p hp c he with h1 | h1
    · have := key_lt st (her q hq).1 hf
      omega
    · exact (her q hq).2 c h1 hf
/-- The beginning of such a function. -/
theorem Stt.own1 {H : Hp} {ob : Option Nat} {k : Blk} (hw : Wf H) (hk : ∀ b, ob = some b → H.m b = some k) (hr : k.rw = true) (hn : ob = none → k.cells = []) : Stt ob.toList H H [⟨ob, true, k⟩] := by
  refine ⟨hw, hw, Nat.le_refl _, fun _ _ _ => rfl, fun p hp => ?_, fun p hp ho => ?_, ?_⟩
  · rw [List.mem_singleton.1 hp]; exact ⟨hk, hn⟩
  · rw [List.mem_singleton.1 hp]; exact ⟨hr, fun b hb => .inr (by simp only at hb; simp [hb])⟩
  · cases ob <;> simp
/-- What a known block of a list is, for a call that takes it. -/
theorem Stt.got {X : List Nat} {H0 H : Hp} {L : List Ent} {ob : Option Nat} {ok : Bool} {k : Blk} (st : Stt X H0 H L) (j : Nat) (hj : L[j]? = some ⟨ob, ok, k⟩) : (∀ b, ob = some b → H.m b = some k) ∧ (ob = none → k.cells = []) := st.has _ (List.mem_of_getElem? hj)
end Go.Proofs.Ytloeadlmcdddnaa.Abs
