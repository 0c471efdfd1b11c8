/- Reservations: what stays true of a table. -/
import Derived.Test.YtihkghfmihdicaaT3
set_option linter.unusedVariables false
set_option linter.unusedSimpArgs false
set_option maxRecDepth 100000
namespace Go.Proofs.Ytihkghfmihdicaa.Abs
open Go Go.RowKit

structure WFT (P : PT) : Prop where
  sorted : P.regs.Pairwise (fun a b => a.1 < b.1)
  rng : ∀ r ∈ P.regs, 0 ≤ r.1 ∧ r.1 < 8 ∧ 0 < r.2 ∧ r.2 < 18446744073709551616
  gen : 0 ≤ P.gen ∧ P.gen < 4294967296
  kind : P.kind = 0 ∨ typeB P.kind = true
  none : P.kind = 0 → P.holder = -1
  hold : P.kind ≠ 0 → allB P.kind = false → (keyM P.regs P.holder).2 = true
  all : P.kind ≠ 0 → allB P.kind = true → P.regs ≠ []
theorem keyM_mem {l : List (Int × Int)} {n : Int} (h : (keyM l n).2 = true) : (n, (keyM l n).1) ∈ l := by
  unfold keyM at h ⊢
  rcases hf : l.find? (·.1 == n) with _ | r
  · rw [hf] at h; cases h
  · have h1 := List.find?_some hf
    have h2 := List.mem_of_find?_eq_some hf
    simp only [beq_iff_eq] at h1
    subst h1
    rw [hf]
    exact h2
theorem keyM_of {l : List (Int × Int)} {n : Int} (h : ∃ r ∈ l, r.1 = n) : (keyM l n).2 = true := by
  obtain ⟨r, hr, hn⟩ := h
  unfold keyM
  rcases hf : l.find? (·.1 == n) with _ | q
  · rw [List.find?_eq_none] at hf
    exact absurd hn (by simpa using hf r hr)
  · rw [hf]
theorem keyM_iff {l : List (Int × Int)} {n : Int} : (keyM l n).2 = true ↔ ∃ r ∈ l, r.1 = n := ⟨fun h => ⟨_, keyM_mem h, rfl⟩, keyM_of⟩
theorem keyM_false {l : List (Int × Int)} {n : Int} (h : (keyM l n).2 = false) : keyM l n = (0, false) ∧ ∀ r ∈ l, r.1 ≠ n := by
  refine ⟨?_, fun r hr hn => by rw [keyM_of ⟨r, hr, hn⟩] at h; cases h⟩
  unfold keyM at h ⊢
  rcases hf : l.find? (·.1 == n) with _ | q
  · rw [hf]
  · rw [hf] at h; cases h
theorem uniqR {l : List (Int × Int)} (hs : l.Pairwise (fun a b => a.1 < b.1)) {r q : Int × Int} (hr : r ∈ l) (hq : q ∈ l) (h : r.1 = q.1) : r = q := by
  induction l with
  | nil => cases hr
  | cons a l ih =>
    obtain ⟨h1, h2⟩ := List.pairwise_cons.1 hs
    rcases List.mem_cons.1 hr with hra | hra
    · rcases List.mem_cons.1 hq with hqa | hqa
      · rw [hra, hqa]
      · have := h1 q hqa; rw [hra] at h; omega
    · rcases List.mem_cons.1 hq with hqa | hqa
      · have := h1 r hra; rw [hqa] at h; omega
      · exact ih h2 hra hqa
theorem keyM_eq {l : List (Int × Int)} (hs : l.Pairwise (fun a b => a.1 < b.1)) {n k : Int} (h : (n, k) ∈ l) : keyM l n = (k, true) := by
  have h1 : (keyM l n).2 = true := keyM_of ⟨_, h, rfl⟩
  have h2 := uniqR hs (keyM_mem h1) h rfl
  injection h2 with _ h3
  exact Prod.ext h3 h1
theorem mem_setM {l : List (Int × Int)} {n k : Int} {r : Int × Int} : r ∈ setM l n k ↔ (r ∈ l ∧ r.1 ≠ n) ∨ (k ≠ 0 ∧ r = (n, k)) := by
  unfold setM
  simp only [List.mem_append, List.mem_filter, decide_eq_true_eq]
  constructor
  · rintro ((⟨h1, h2⟩ | h) | ⟨h1, h2⟩)
    · exact .inl ⟨h1, by omega⟩
    · split at h
      · cases h
      · rename_i hk
        exact .inr ⟨hk, List.mem_singleton.1 h⟩
    · exact .inl ⟨h1, by omega⟩
  · rintro (⟨h1, h2⟩ | ⟨h1, h2⟩)
    · rcases Int.lt_or_gt_of_ne h2 with h | h
      · exact .inl (.inl ⟨h1, h⟩)
      · exact .inr ⟨h1, h⟩
    · refine .inl (.inr ?_)
      rw [if_neg h1]
      exact List.mem_singleton.2 h2
theorem sorted_setM {l : List (Int × Int)} (hs : l.Pairwise (fun a b => a.1 < b.1)) (n k : Int) : (setM l n k).Pairwise (fun a b => a.1 < b.1) := by
  unfold setM
  refine List.pairwise_append.2 ⟨List.pairwise_append.2 ⟨hs.filter _, ?_, ?_⟩, hs.filter _, ?_⟩
  · split
    · exact List.Pairwise.nil
    · exact List.pairwise_singleton _ _
  · intro a ha b hb
    rw [List.mem_filter] at ha
    split at hb
    · cases hb
    · rw [List.mem_singleton.1 hb]
      simpa using ha.2
  · intro a ha b hb
    rw [List.mem_filter] at hb
    have hb2 : b.1 > n := by simpa using hb.2
    rcases List.mem_append.1 ha with ha | ha
    · rw [List.mem_filter] at ha
      have : a.1 < n := by simpa using ha.2
      omega
    · split at ha
      · cases ha
      · rw [List.mem_singleton.1 ha]
        exact hb2
theorem inc32_bd (g : Int) : 0 ≤ inc32 g ∧ inc32 g < 4294967296 := by
  unfold inc32
  rw [w32]
  omega
theorem len_bd : ∀ (l : List (Int × Int)) (m : Int), l.Pairwise (fun a b => a.1 < b.1) → (∀ r ∈ l, m ≤ r.1 ∧ r.1 < 8) → m ≤ 8 → (l.length : Int) ≤ 8 - m
  | [], m, _, _, hm => by simp; omega
  | a :: l, m, hs, h, hm => by
    obtain ⟨h1, h2⟩ := List.pairwise_cons.1 hs
    have ha := h a List.mem_cons_self
    have ih := len_bd l (a.1 + 1) h2 (fun r hr => ⟨by have := h1 r hr; omega, (h r (List.mem_cons_of_mem _ hr)).2⟩) (by omega)
    simp only [List.length_cons]
    omega
theorem WFT.len {P : PT} (h : WFT P) : P.regs.length ≤ 8 := by
  have := len_bd P.regs 0 h.sorted (fun r hr => ⟨(h.rng r hr).1, (h.rng r hr).2.1⟩) (by decide)
  omega
theorem WFT.key {P : PT} (h : WFT P) {n : Int} (hk : (keyM P.regs n).2 = true) : 0 ≤ n ∧ n < 8 ∧ 0 < (keyM P.regs n).1 ∧ (keyM P.regs n).1 < 18446744073709551616 := h.rng _ (keyM_mem hk)
theorem WFT.key0 {P : PT} (h : WFT P) {n : Int} : (keyM P.regs n).2 = true ↔ (keyM P.regs n).1 ≠ 0 := by
  constructor
  · intro hk
    have := h.key hk
    omega
  · intro hk
    rcases hb : (keyM P.regs n).2 with _ | _
    · exact absurd (by rw [(keyM_false hb).1]) hk
    · rfl
def PT0 : PT := ⟨[], 0, 0, -1, false⟩
theorem PT0_wf : WFT PT0 := ⟨List.Pairwise.nil, fun r hr => (by cases hr), by decide, .inl rfl, fun _ => rfl, fun h => absurd rfl h, fun h => absurd rfl h⟩
theorem allB_type {k : Int} (h : allB k = true) : k = 7 ∨ k = 8 := by
  unfold allB at h
  simpa using h
theorem set_rng {l : List (Int × Int)} (h : ∀ r ∈ l, 0 ≤ r.1 ∧ r.1 < 8 ∧ 0 < r.2 ∧ r.2 < 18446744073709551616) {n k : Int} (hn : 0 ≤ n ∧ n < 8) (hk : 0 ≤ k ∧ k < 18446744073709551616) : ∀ r ∈ setM l n k, 0 ≤ r.1 ∧ r.1 < 8 ∧ 0 < r.2 ∧ r.2 < 18446744073709551616 := fun r hr => by
  rcases mem_setM.1 hr with ⟨h1, _⟩ | ⟨h1, rfl⟩
  · exact h r h1
  · exact ⟨hn.1, hn.2, by show 0 < k; omega, hk.2⟩
theorem register_wf {P : PT} (h : WFT P) {n : Int} {o : POut} (hn : 0 ≤ n ∧ n < 8) (ho : 0 ≤ o.act ∧ o.act < 18446744073709551616) : WFT (registerP P n o (keyM P.regs n).2) := by
  by_cases ha : o.act = 0
  · rcases hk : (keyM P.regs n).2 with _ | _
    · rw [(reg2 ha rfl).1]
      exact ⟨h.sorted, h.rng, inc32_bd _, h.kind, h.none, h.hold, h.all⟩
    · rcases hf : frM P n with _ | _
      · rw [(reg4 ha rfl hf).1]
        refine ⟨sorted_setM h.sorted n 0, set_rng h.rng hn (by decide), inc32_bd _, h.kind, h.none, fun h0 hA => ?_, fun h0 hA => ?_⟩
        · show (keyM (setM P.regs n 0) P.holder).2 = true
          obtain ⟨r, hr, hr1⟩ := keyM_iff.1 (h.hold h0 hA)
          refine keyM_of ⟨r, mem_setM.2 (.inl ⟨hr, fun e => ?_⟩), hr1⟩
          unfold frM at hf
          rw [hA, show (P.kind != 0) = true by simpa using h0, show (P.holder == n) = true by rw [← hr1, e]; simp] at hf
          simp at hf
        · show setM P.regs n 0 ≠ []
          have hA' : allB P.kind = true := hA
          unfold frM at hf
          rw [hA'] at hf
          have hl : P.regs.length ≠ 1 := by simpa using hf
          obtain ⟨r, hr, hr1⟩ := keyM_iff.1 hk
          intro hnil
          have hall : ∀ q ∈ P.regs, q = r := fun q hq => by
            by_cases hqn : q.1 = n
            · exact uniqR h.sorted hq hr (by rw [hqn, hr1])
            · have : q ∈ setM P.regs n 0 := mem_setM.2 (.inl ⟨hq, hqn⟩)
              rw [hnil] at this; cases this
          have hs := h.sorted
          match hP : P.regs with
          | [] => rw [hP] at hr; cases hr
          | [a] => exact hl (by rw [hP]; rfl)
          | a :: b :: l =>
            rw [hP] at hs hall
            have h1 := hall a List.mem_cons_self
            have h2 := hall b (List.mem_cons_of_mem _ List.mem_cons_self)
            have := (List.pairwise_cons.1 hs).1 b List.mem_cons_self
            rw [h1, h2] at this
            omega
      · rw [(reg3 ha rfl hf).1]
        exact ⟨sorted_setM h.sorted n 0, set_rng h.rng hn (by decide), inc32_bd _, .inl rfl, fun _ => rfl, fun h0 => absurd rfl h0, fun h0 => absurd rfl h0⟩
  · rw [(reg1 ha).1]
    refine ⟨sorted_setM h.sorted n o.act, set_rng h.rng hn ho, inc32_bd _, h.kind, h.none, fun h0 hA => ?_, fun h0 hA => ?_⟩
    · show (keyM (setM P.regs n o.act) P.holder).2 = true
      obtain ⟨r, hr, hr1⟩ := keyM_iff.1 (h.hold h0 hA)
      by_cases hn : r.1 = n
      · exact keyM_of ⟨(n, o.act), mem_setM.2 (.inr ⟨ha, rfl⟩), by rw [← hr1, hn]⟩
      · exact keyM_of ⟨r, mem_setM.2 (.inl ⟨hr, hn⟩), hr1⟩
    · show setM P.regs n o.act ≠ []
      intro hnil
      have : (n, o.act) ∈ setM P.regs n o.act := mem_setM.2 (.inr ⟨ha, rfl⟩)
      rw [hnil] at this; cases this
theorem free_wf {P : PT} (h : WFT P) : WFT (freeP P) := ⟨h.sorted, h.rng, h.gen, .inl rfl, fun _ => rfl, fun h0 => absurd rfl h0, fun h0 => absurd rfl h0⟩
theorem clear_wf {P : PT} (h : WFT P) : WFT (clearP P) := ⟨List.Pairwise.nil, fun r hr => (by cases hr), inc32_bd _, .inl rfl, fun _ => rfl, fun h0 => absurd rfl h0, fun h0 => absurd rfl h0⟩
theorem type_ne0 {k : Int} (h : typeB k = true) : k ≠ 0 := by
  rintro rfl
  exact absurd h (by decide)
theorem reserve_wf {P : PT} (h : WFT P) {n : Int} {o : POut} (hk : (keyM P.regs n).2 = true) : WFT (reserveM P n o).tab := by
  unfold reserveM
  split
  · exact h
  · rename_i ht
    have ht' : typeB o.ty = true := by simpa using ht
    split
    · refine ⟨h.sorted, h.rng, h.gen, .inr ht', fun h0 => absurd h0 (type_ne0 ht'), fun _ _ => hk, fun _ _ => ?_⟩
      obtain ⟨r, hr, _⟩ := keyM_iff.1 hk
      intro hnil
      have hnil' : P.regs = [] := hnil
      rw [hnil'] at hr; cases hr
    · split
      · exact h
      · exact h
theorem release_wf {P : PT} (h : WFT P) {n : Int} {o : POut} : WFT (releaseM P n o).tab := by
  unfold releaseM
  split
  · exact h
  · split
    · exact h
    · exact free_wf h
theorem left_mem {P : PT} {n : Int} {o : POut} {r : Int × Int} : r ∈ leftM P n o ↔ r ∈ P.regs ∧ stays P n o r = true := List.mem_filter
theorem preempt_wf {P : PT} (h : WFT P) {n : Int} {o : POut} (hk : (keyM P.regs n).2 = true) : WFT (preemptM P n o).tab := by
  unfold preemptM
  split
  · exact h
  · split
    · exact h
    · rename_i hc2
      split
      · exact h
      · obtain ⟨r, hr, hr1⟩ := keyM_iff.1 hk
        have hrl : r ∈ leftM P n o := left_mem.2 ⟨hr, by unfold stays; simp [hr1]⟩
        have hne : leftM P n o ≠ [] := fun e => by rw [e] at hrl; cases hrl
        refine ⟨h.sorted.filter _, fun q hq => h.rng q (left_mem.1 hq).1, inc32_bd _, ?_, ?_, ?_, ?_⟩
        · show (if _ then o.ty else P.kind) = 0 ∨ typeB (if _ then o.ty else P.kind) = true
          by_cases ht : (heldB P o || pallB P o) = true
          · rw [if_pos ht]
            rcases hb : typeB o.ty with _ | _
            · exact absurd ⟨ht, hb⟩ hc2
            · exact .inr rfl
          · rw [if_neg ht]; exact h.kind
        · show (if _ then o.ty else P.kind) = 0 → (if _ then n else P.holder) = -1
          by_cases ht : (heldB P o || pallB P o) = true
          · rw [if_pos ht, if_pos ht]
            rcases hb : typeB o.ty with _ | _
            · exact absurd ⟨ht, hb⟩ hc2
            · exact fun h0 => absurd h0 (type_ne0 hb)
          · rw [if_neg ht, if_neg ht]; exact h.none
        · show (if _ then o.ty else P.kind) ≠ 0 → allB (if _ then o.ty else P.kind) = false → (keyM (leftM P n o) (if _ then n else P.holder)).2 = true
          by_cases ht : (heldB P o || pallB P o) = true
          · rw [if_pos ht, if_pos ht]
            exact fun _ _ => keyM_of ⟨r, hrl, hr1⟩
          · rw [if_neg ht, if_neg ht]
            intro h0 hA
            obtain ⟨q, hq, hq1⟩ := keyM_iff.1 (h.hold h0 hA)
            refine keyM_of ⟨q, left_mem.2 ⟨hq, ?_⟩, hq1⟩
            simp only [Bool.or_eq_true, not_or, Bool.not_eq_true] at ht
            have hh := ht.1
            unfold heldB at hh
            rw [List.any_eq_false] at hh
            have h2 := hh q hq
            unfold stays
            rw [ht.2]
            rw [hA, show (P.kind != 0) = true by simpa using h0, show (q.1 == P.holder) = true by simpa using hq1] at h2
            have h3 : (q.2 == o.act) = false := by simpa using h2
            have h4 : (q.2 != o.act) = true := by simpa using h3
            rw [h4]
            simp
        · exact fun _ _ => hne
theorem doM_wf {P : PT} (h : WFT P) {n : Int} {o : POut} (ho : 0 ≤ o.act ∧ o.act < 18446744073709551616) : WFT (doM P n o).tab := by
  unfold doM
  split
  · exact h
  · rename_i hr
    split
    · exact register_wf h (by omega) ho
    · split
      · split
        · exact h
        · exact register_wf h (by omega) ho
      · split
        · exact h
        · rename_i hk
          have hk' : (keyM P.regs n).2 = true := by
            rcases hb : (keyM P.regs n).2 with _ | _
            · exact absurd (.inl hb) hk
            · rfl
          split
          · exact reserve_wf h hk'
          · split
            · exact release_wf h
            · split
              · exact clear_wf h
              · exact preempt_wf h hk'
/-- What is refused changes nothing. -/
theorem doM_keeps {P : PT} {n : Int} {o : POut} : ((doM P n o).st = 0 → (doM P n o).code = 0) ∧ ((doM P n o).st ≠ 0 → (doM P n o).tab = P ∧ (doM P n o).ev = [] ∧ ((doM P n o).st = 2 ↔ (doM P n o).code ≠ 0)) := by
  unfold doM
  split
  · simp
  · split
    · simp
    · split
      · split <;> simp
      · split
        · simp
        · split
          · unfold reserveM
            split
            · simp
            · split
              · simp
              · split <;> simp
          · split
            · unfold releaseM
              split
              · simp
              · split <;> simp
            · split
              · simp
              · unfold preemptM
                split
                · simp
                · split
                  · simp
                  · split <;> simp

end Go.Proofs.Ytihkghfmihdicaa.Abs
