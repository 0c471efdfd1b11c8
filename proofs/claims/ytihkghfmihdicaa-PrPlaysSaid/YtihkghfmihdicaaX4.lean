/- The tables of the document out of bytes, in plain words. -/
import Derived.Test.YtihkghfmihdicaaX1
import Derived.Test.YtihkghfmihdicaaTS
set_option linter.unusedVariables false
set_option linter.unusedSimpArgs false
set_option maxRecDepth 100000
namespace Go.Proofs.Ytihkghfmihdicaa.Abs
open Go Go.RowKit

set_option linter.unusedSectionVars false
def PX (X : XT) (hh : Int) : PT := ⟨xr X.ks, X.gen, X.kd, hh, X.ls⟩
def Rel (X : XT) (hh : Int) : Prop := reservedM (PX X hh) = reservedM (xpt X)
theorem resX {X : XT} {hh : Int} : reservedM (PX X hh) = if X.kd = 0 then (0, -1) else if allB X.kd = true then (X.kd, -1) else (X.kd, hh) := rfl
theorem resXp {X : XT} : reservedM (xpt X) = if X.kd = 0 then (0, -1) else if allB X.kd = true then (X.kd, -1) else (X.kd, if X.kd = 0 then -1 else X.hd) := rfl
theorem rel_cases {X : XT} {hh : Int} (h : Rel X hh) : X.kd = 0 ∨ allB X.kd = true ∨ hh = X.hd := by
  unfold Rel at h
  rw [resX, resXp] at h
  by_cases h0 : X.kd = 0
  · exact .inl h0
  · by_cases hA : allB X.kd = true
    · exact .inr (.inl hA)
    · rw [if_neg h0, if_neg h0, if_neg hA, if_neg hA, if_neg h0] at h
      injection h with _ h
      exact .inr (.inr h)
theorem rel_of {X : XT} {hh : Int} (h : X.kd = 0 ∨ allB X.kd = true ∨ hh = X.hd) : Rel X hh := by
  unfold Rel
  rw [resX, resXp]
  by_cases h0 : X.kd = 0
  · rw [if_pos h0, if_pos h0]
  · by_cases hA : allB X.kd = true
    · rw [if_neg h0, if_neg h0, if_pos hA, if_pos hA]
    · rw [if_neg h0, if_neg h0, if_neg hA, if_neg hA, if_neg h0]
      rcases h with h | h | h
      · exact absurd h h0
      · exact absurd h hA
      · rw [h]
theorem rel_holds {X : XT} {hh : Int} (h : Rel X hh) (n : Int) : holdsM (PX X hh) n = holdsM (xpt X) n := by
  show (if X.kd = 0 then false else if allB X.kd = true then (keyM (xr X.ks) n).2 else hh == n) = (if X.kd = 0 then false else if allB X.kd = true then (keyM (xr X.ks) n).2 else (if X.kd = 0 then (-1 : Int) else X.hd) == n)
  by_cases h0 : X.kd = 0
  · rw [if_pos h0, if_pos h0]
  · by_cases hA : allB X.kd = true
    · rw [if_neg h0, if_neg h0, if_pos hA, if_pos hA]
    · rcases rel_cases h with h | h | h
      · exact absurd h h0
      · exact absurd h hA
      · rw [h]
        simp only [if_neg h0]
theorem rel_confl {X : XT} {hh : Int} (h : Rel X hh) (n c : Int) : conflictM (PX X hh) n c = conflictM (xpt X) n c := by
  unfold conflictM
  rw [rel_holds h]
  rfl
theorem rel_save {X : XT} {hh : Int} (h : Rel X hh) : saveM (PX X hh) = saveM (xpt X) := by
  unfold saveM
  rw [show reservedM (PX X hh) = reservedM (xpt X) from h]
  rfl
theorem xr_more (ks : List Int) (j : Nat) : ∀ k, ∃ t, xrTo ks (j + k) = xrTo ks j ++ t
  | 0 => ⟨[], by rw [List.append_nil]; rfl⟩
  | k + 1 => by
    obtain ⟨t, ht⟩ := xr_more ks j k
    by_cases h : ks.getD (j + k) 0 = 0
    · exact ⟨t, by rw [← Nat.add_assoc, xrTo_f h, ht]⟩
    · exact ⟨t ++ [(((j + k : Nat) : Int), ks.getD (j + k) 0)], by rw [← Nat.add_assoc, xrTo_t h, ht, List.append_assoc]⟩
theorem xr_at {ks : List Int} {j : Nat} (hj : j < 8) (h : ks.getD j 0 ≠ 0) : (xrTo ks j).length < (xr ks).length ∧ (xr ks).getD (xrTo ks j).length (0, 0) = ((j : Int), ks.getD j 0) := by
  obtain ⟨t, ht⟩ := xr_more ks (j + 1) (7 - j)
  have e : xr ks = xrTo ks j ++ ((j : Int), ks.getD j 0) :: t := by
    unfold xr
    rw [show 8 = j + 1 + (7 - j) by omega, ht, xrTo_t h, List.append_assoc]
    rfl
  rw [e]
  refine ⟨by rw [List.length_append, List.length_cons]; omega, ?_⟩
  simp [List.getD]
def kf (p : List Int) : Nat → List Int
  | 0 => [0, 0, 0, 0, 0, 0, 0, 0]
  | j + 1 => (kf p j).set (recN p j).1.toNat (recN p j).2
theorem kf_len (p : List Int) : ∀ j, (kf p j).length = 8
  | 0 => rfl
  | j + 1 => by unfold kf; rw [List.length_set]; exact kf_len p j
theorem recN_rng {p : List Int} (hb : ByteL p) (i : Nat) : 0 ≤ (recN p i).2 ∧ (recN p i).2 < 18446744073709551616 := by
  show 0 ≤ rgetV p _ 8 ∧ rgetV p _ 8 < _
  unfold rgetV
  split
  · refine ⟨beN_nonneg ((hb.drop _).take _), Int.lt_of_lt_of_le (beN_lt ((hb.drop _).take _)) ?_⟩
    rw [show (18446744073709551616 : Int) = 256 ^ 8 by decide]
    have : (((p.drop (((5 + 9 * i + 1 : Nat) : Int)).toNat).take (8 : Int).toNat)).length ≤ 8 := by rw [List.length_take]; exact Nat.min_le_left _ _
    have h2 : ∀ n : Nat, n ≤ 8 → (256 : Int) ^ n ≤ 256 ^ 8 := by
      intro n hn
      have : n = 0 ∨ n = 1 ∨ n = 2 ∨ n = 3 ∨ n = 4 ∨ n = 5 ∨ n = 6 ∨ n = 7 ∨ n = 8 := by omega
      rcases this with h | h | h | h | h | h | h | h | h <;> subst h <;> decide
    exact h2 _ this
  · exact ⟨Int.le_refl _, by decide⟩
theorem kf_rng {p : List Int} (hb : ByteL p) : ∀ j, (∀ i, i < j → (recN p i).1 < 8) → ∀ i, 0 ≤ (kf p j).getD i 0 ∧ (kf p j).getD i 0 < 18446744073709551616
  | 0, _, i => by
    have : ∀ i : Nat, (kf p 0).getD i 0 = 0 := by
      intro i
      match i with
      | 0 | 1 | 2 | 3 | 4 | 5 | 6 | 7 => rfl
      | i + 8 => rfl
    rw [this]; decide
  | j + 1, h, i => by
    have ih := kf_rng hb j (fun i hi => h i (by omega)) i
    have h1 := h j (by omega)
    have h2 := hb.getD (5 + 9 * j)
    have h3 : (recN p j).1 = p.getD (5 + 9 * j) 0 := rfl
    unfold kf
    rw [set_getD (by rw [kf_len]; omega)]
    split
    · exact recN_rng hb j
    · exact ih
theorem rec_prev {p : List Int} : ∀ j, (∀ i, i < j → okAt p i = true) → ∀ i, i < j → (recN p i).1 ≤ prevN p j
  | 0, _, i, hi => by omega
  | j + 1, h, i, hi => by
    have e : prevN p (j + 1) = (recN p j).1 := by unfold prevN; rw [if_neg (by omega)]; rfl
    rw [e]
    rcases Nat.lt_succ_iff_lt_or_eq.1 hi with h1 | h1
    · have := rec_prev j (fun i hi => h i (by omega)) i h1
      have h2 := h j (by omega)
      unfold okAt at h2
      simp only [Bool.and_eq_true, decide_eq_true_eq] at h2
      omega
    · subst h1; exact Int.le_refl _
theorem okAt_of {p : List Int} {j : Nat} (h : okAt p j = true) : prevN p j < (recN p j).1 ∧ (recN p j).1 < 8 ∧ (recN p j).2 ≠ 0 := by
  unfold okAt at h
  simp only [Bool.and_eq_true, decide_eq_true_eq, bne_iff_ne] at h
  exact ⟨h.1.1, h.1.2, h.2⟩
theorem setM_last {l : List (Int × Int)} {n v : Int} (h : ∀ r ∈ l, r.1 < n) (hv : v ≠ 0) : setM l n v = l ++ [(n, v)] := by
  unfold setM
  rw [if_neg hv, List.filter_eq_self.2 fun r hr => decide_eq_true (h r hr), List.filter_eq_nil_iff.2 fun r hr => by simpa using Int.le_of_lt (h r hr), List.append_nil]
theorem kf_xr {p : List Int} (hb : ByteL p) : ∀ j, (∀ i, i < j → okAt p i = true) → xr (kf p j) = recs p j
  | 0, _ => rfl
  | j + 1, h => by
    have ih := kf_xr hb j fun i hi => h i (by omega)
    obtain ⟨h1, h2, h3⟩ := okAt_of (h j (by omega))
    have hp := hb.getD (5 + 9 * j)
    have e1 : (recN p j).1 = p.getD (5 + 9 * j) 0 := rfl
    unfold kf
    rw [← xset (kf_len p j) (n := (recN p j).1) (by omega), ih, setM_last ?_ h3, recs_step]
    intro r hr
    unfold recs at hr
    obtain ⟨i, hi, rfl⟩ := List.mem_map.1 hr
    have := rec_prev j (fun i hi => h i (by omega)) i (List.mem_range.1 hi)
    omega
/-- What is told of bytes that are read. -/
structure LF (p : List Int) : Prop where
  n0 : p.length ≠ 0
  hd : ¬ headB p
  ok : ∀ i, i < cntN p → okAt p i = true
  kd : ((p.getD 2 0 = 0 ∨ allB (p.getD 2 0) = true) ∧ hold3 p = -1 ∧ ¬ (allB (p.getD 2 0) = true ∧ cntN p = 0)) ∨ (¬ (p.getD 2 0 = 0 ∨ allB (p.getD 2 0) = true) ∧ (keyM (recs p (cntN p)) (hold3 p)).2 = true ∧ typeB (p.getD 2 0) = true)
theorem load_inv {p : List Int} {P : PT} (h0 : p.length ≠ 0) (h : loadM p = some P) : LF p := by
  by_cases h1 : headB p
  · rw [lm1 h0 h1] at h; cases h
  · rcases h2 : (List.range (cntN p)).all (okAt p) with _ | _
    · rw [lm2 h0 h1 h2] at h; cases h
    · refine ⟨h0, h1, fun i hi => List.all_eq_true.1 h2 i (List.mem_range.2 hi), ?_⟩
      by_cases h3 : p.getD 2 0 = 0 ∨ allB (p.getD 2 0) = true
      · by_cases k : hold3 p ≠ -1 ∨ (allB (p.getD 2 0) = true ∧ cntN p = 0)
        · rw [lm3 h0 h1 h2 h3 k] at h; cases h
        · refine .inl ⟨h3, ?_, fun hc => k (.inr hc)⟩
          by_cases hh : hold3 p = -1
          · exact hh
          · exact absurd (.inl hh) k
      · by_cases k : (keyM (recs p (cntN p)) (hold3 p)).2 = true ∧ typeB (p.getD 2 0) = true
        · exact .inr ⟨h3, k⟩
        · rw [lm5 h0 h1 h2 h3 k] at h; cases h
theorem load_none {p : List Int} (h0 : p.length ≠ 0) (h : LF p → False) : loadM p = none := by
  rcases hl : loadM p with _ | P
  · rfl
  · exact (h (load_inv h0 hl)).elim
theorem wi8 {x : Int} (h : 0 ≤ x ∧ x ≤ 255) : IntKind.i8.wrap x = if x < 128 then x else x - 256 := by
  unfold IntKind.wrap
  simp [IntKind.signed, IntKind.bits]
  split <;> split <;> omega
section
variable {p : List Int} (hb : ByteL p) (h : LF p)
include hb h
theorem lf_len : p.length = 5 + 9 * cntN p := (head_no hb h.hd).2.2.2.1
theorem lf_m {m : Nat} (hm : p.length = 5 + 9 * m) : cntN p = m := by have := lf_len hb h; omega
theorem lf_ks : xr (kf p (cntN p)) = recs p (cntN p) := kf_xr hb _ h.ok
theorem lf_hold (h1 : 0 ≤ hold3 p) : p.getD 3 0 = hold3 p := by
  have := hb.getD 3
  unfold hold3 at h1 ⊢
  have h2 := wi8 this
  rw [h2] at h1 ⊢
  split at h1
  · rename_i h3; rw [if_pos h3, wi _ (by omega)]
  · rw [wi _ (by omega)] at h1; omega
theorem lf_byte3 : IntKind.u8.wrap (hold3 p) = p.getD 3 0 := by
  have := hb.getD 3
  unfold hold3
  have h2 := wi8 this
  rw [h2]
  split
  · rw [wi _ (by omega), w8]; omega
  · rw [wi _ (by omega), w8]; omega
theorem lf_type (h0 : p.getD 2 0 ≠ 0) : typeB (p.getD 2 0) = true := by
  rcases h.kd with ⟨h1 | h1, _⟩ | ⟨_, _, h1⟩
  · exact absurd h1 h0
  · rcases allB_type h1 with h2 | h2 <;> rw [h2] <;> decide
  · exact h1
theorem lf_sole (h0 : p.getD 2 0 ≠ 0) (hA : allB (p.getD 2 0) = false) : p.getD 3 0 ≤ 7 ∧ (kf p (cntN p)).getD (p.getD 3 0).toNat 0 ≠ 0 := by
  rcases h.kd with ⟨h1 | h1, _⟩ | ⟨_, h2, _⟩
  · exact absurd h1 h0
  · rw [hA] at h1; cases h1
  · rw [← lf_ks hb h] at h2
    have hn : 0 ≤ hold3 p ∧ hold3 p < 8 := by
      rcases Classical.em (hold3 p < 0 ∨ hold3 p > 7) with hc | hc
      · rw [xkey_out _ hc] at h2; cases h2
      · omega
    have h3 := lf_hold hb h hn.1
    rw [xkey _ hn] at h2
    refine ⟨by omega, ?_⟩
    rw [h3]
    simpa using h2
theorem lf_save {X : XT} (h1 : X.ks = kf p (cntN p)) (h2 : X.kd = p.getD 2 0) (h3 : X.hd = p.getD 3 0) (h4 : X.ls = true) : saveM (xpt X) = p := by
  obtain ⟨q0, q1, q2, q3, q4⟩ := head_no hb h.hd
  have hr : IntKind.u8.wrap (reservedM (xpt X)).2 = p.getD 3 0 := by
    rw [resXp, h2, h3]
    rcases h.kd with ⟨h5, h6, _⟩ | ⟨h5, h6, _⟩
    · have h7 := lf_byte3 hb h
      rw [h6] at h7
      rcases h5 with h5 | h5
      · rw [if_pos h5]; exact h7
      · split
        · exact h7
        · exact h7
    · have h8 := lf_byte3 hb h
      have b3 := hb.getD 3
      rw [if_neg (fun hc => h5 (.inl hc)), if_neg (fun hc => h5 (.inr hc)), if_neg (fun hc => h5 (.inl hc))]
      show IntKind.u8.wrap (p.getD 3 0) = _
      rw [w8]; omega
  have hk : (reservedM (xpt X)).1 = p.getD 2 0 := by
    rw [resXp, h2]
    by_cases h0 : p.getD 2 0 = 0
    · rw [if_pos h0, h0]
    · rw [if_neg h0]; split <;> rfl
  have hreg : (xpt X).regs = recs p (cntN p) := by
    show xr X.ks = _
    rw [h1]; exact lf_ks hb h
  have hbody : ∀ j, j ≤ cntN p → (recs p j).flatMap regB = (p.drop 5).take (9 * j) := by
    intro j
    induction j with
    | zero => intro _; rfl
    | succ j ih =>
      intro hj
      rw [recs_step, List.flatMap_append, ih (by omega)]
      have e : [recN p j].flatMap regB = (p.drop (5 + 9 * j)).take 9 := by
        simp only [List.flatMap_cons, List.flatMap_nil, List.append_nil]
        have hf : rfieldE p.length ((5 + 9 * j + 1 : Nat) : Int) 8 = 0 := by
          unfold rfieldE
          rw [if_neg (by decide), if_neg (by omega)]
        have e2 : (recN p j).2 = beN ((p.drop (5 + 9 * j + 1)).take 8) := if_pos hf
        have hl : ((p.drop (5 + 9 * j + 1)).take 8).length = 8 := by simp; omega
        have hbb : ByteL ((p.drop (5 + 9 * j + 1)).take 8) := (hb.drop _).take _
        have e3 := beB_beN hbb
        rw [hl] at e3
        show IntKind.u8.wrap (p.getD (5 + 9 * j) 0) :: beB 8 (recN p j).2 = _
        have b5 := hb.getD (5 + 9 * j)
        rw [e2, e3, show IntKind.u8.wrap (p.getD (5 + 9 * j) 0) = p.getD (5 + 9 * j) 0 by rw [w8]; omega]
        have hlt : 5 + 9 * j < p.length := by omega
        rw [List.drop_eq_getElem_cons hlt, List.take_succ_cons]
        simp [List.getD, List.getElem?_eq_getElem hlt]
      rw [e, show 9 * (j + 1) = 9 * j + 9 by omega, List.take_add, List.drop_drop]
  have b4 := hb.getD 4
  have hc : ((cntN p : Nat) : Int) = p.getD 4 0 := by unfold cntN; omega
  unfold saveM
  rw [if_neg (by show ¬ X.ls = false; rw [h4]; decide), hr, hk, hreg, recs_len, hbody _ (Nat.le_refl _), show IntKind.u8.wrap ((cntN p : Nat) : Int) = p.getD 4 0 by rw [hc, w8]; omega]
  rw [List.take_of_length_le (by rw [List.length_drop]; omega)]
  match p, q0, q1, q2 with
  | a :: b :: c :: d :: e :: t, _, q1, q2 =>
    rw [show a = 80 from q1, show b = 82 from q2]
    rfl
end
/-- What the document asks for. -/
def xbad (p : List Int) (m : Nat) : Bool := (p.getD 2 0 != 0 && !typeB (p.getD 2 0)) || (allB (p.getD 2 0) && (((xr (kf p m)).length : Int) == 0))
def xbad2 (p : List Int) (m : Nat) : Bool := (p.getD 2 0 != 0 && !allB (p.getD 2 0)) && (decide (p.getD 3 0 > 7) || ((kf p m).getD (p.getD 3 0).toNat 0 == 0))
def xld (p : List Int) (m : Nat) : XT := ⟨kf p m, p.getD 2 0, p.getD 3 0, 0, true⟩
def xldN (p : List Int) (m : Nat) : XT := ⟨kf p m, p.getD 2 0, if allB (p.getD 2 0) = true ∨ p.getD 2 0 = 0 then 0 else p.getD 3 0, 0, true⟩
section
variable {p : List Int} (hb : ByteL p) {m : Nat} (hm : p.length = 5 + 9 * m)
include hb hm
theorem xl1 (h : xbad p m = true) : loadM p = none := load_none (by omega) fun hl => by
  have e := lf_m hb hl hm
  subst e
  unfold xbad at h
  rw [lf_ks hb hl, recs_len] at h
  simp only [Bool.or_eq_true, Bool.and_eq_true, bne_iff_ne, beq_iff_eq, Bool.not_eq_true'] at h
  rcases h with ⟨h1, h2⟩ | ⟨h1, h2⟩
  · rw [lf_type hb hl h1] at h2; cases h2
  · rcases hl.kd with ⟨_, _, h3⟩ | ⟨h3, _⟩
    · exact h3 ⟨h1, by omega⟩
    · exact h3 (.inr h1)
theorem xl2 (h : xbad2 p m = true) : loadM p = none := load_none (by omega) fun hl => by
  have e := lf_m hb hl hm
  subst e
  unfold xbad2 at h
  simp only [Bool.or_eq_true, Bool.and_eq_true, bne_iff_ne, beq_iff_eq, Bool.not_eq_true', decide_eq_true_eq] at h
  obtain ⟨h1, h2⟩ := lf_sole hb hl h.1.1 h.1.2
  rcases h.2 with h3 | h3
  · omega
  · exact h2 h3
theorem xl3 (h : saveM (xpt (xld p m)) ≠ p) : loadM p = none := load_none (by omega) fun hl => by
  have e := lf_m hb hl hm
  subst e
  exact h (lf_save hb hl rfl rfl rfl rfl)
theorem xl4 {j : Nat} (hj : j < m) (h : p.getD (5 + 9 * j) 0 > 7) : loadM p = none := load_none (by omega) fun hl => by
  have e := lf_m hb hl hm
  have := (okAt_of (hl.ok j (by omega))).2.1
  have e1 : (recN p j).1 = p.getD (5 + 9 * j) 0 := rfl
  omega
theorem xl5 (hk : ∀ i, i < m → (recN p i).1 < 8) (h1 : xbad p m = false) (h2 : xbad2 p m = false) (h3 : saveM (xpt (xld p m)) = p) :
    loadM p = some (PX (xldN p m) (reservedM (xpt (xld p m))).2) ∧ Rel (xldN p m) (reservedM (xpt (xld p m))).2 ∧ XOK (xldN p m) := by
  have b2 := hb.getD 2
  have b3 := hb.getD 3
  have hr := kf_rng hb m hk
  unfold xbad at h1
  unfold xbad2 at h2
  simp only [Bool.or_eq_false_iff] at h1
  have t1 : p.getD 2 0 = 0 ∨ typeB (p.getD 2 0) = true := by
    rcases Classical.em (p.getD 2 0 = 0) with h | h
    · exact .inl h
    · refine .inr ?_
      have := h1.1
      rw [bne_iff_ne.2 h] at this
      simpa using this
  have t2 : allB (p.getD 2 0) = true → xr (kf p m) ≠ [] := fun hA he => by
    have := h1.2
    rw [hA, he] at this
    cases this
  have t3 : p.getD 2 0 ≠ 0 → allB (p.getD 2 0) = false → p.getD 3 0 ≤ 7 ∧ (kf p m).getD (p.getD 3 0).toNat 0 ≠ 0 := fun h0 hA => by
    rw [bne_iff_ne.2 h0, hA] at h2
    simp only [Bool.not_false, Bool.and_true, Bool.true_and, Bool.or_eq_false_iff, decide_eq_false_iff_not, beq_eq_false_iff_ne] at h2
    exact ⟨by omega, h2.2⟩
  have hwf : WFT (xpt (xld p m)) := by
    refine ⟨xrTo_sorted _ 8, fun r hr2 => ?_, by show (0 : Int) ≤ 0 ∧ (0 : Int) < 4294967296; decide, t1, fun h0 => if_pos h0, fun h0 hA => ?_, fun h0 hA => t2 hA⟩
    · obtain ⟨i, hi, rfl, h0⟩ := xrTo_mem.1 hr2
      have := hr i
      have h0 : (kf p m).getD i 0 ≠ 0 := h0
      exact ⟨by show 0 ≤ (i : Int); omega, by show (i : Int) < 8; omega, by show 0 < (kf p m).getD i 0; omega, this.2⟩
    · obtain ⟨q1, q2⟩ := t3 h0 hA
      show (keyM (xr (kf p m)) (if p.getD 2 0 = 0 then -1 else p.getD 3 0)).2 = true
      rw [if_neg (show ¬ p.getD 2 0 = 0 from h0), xkey _ (by omega)]
      simpa using q2
  have hl := load_save hwf rfl
  rw [h3] at hl
  refine ⟨hl, rel_of ?_, ⟨kf_len p m, hr, ?_, by show 0 ≤ p.getD 2 0 ∧ p.getD 2 0 < 256; omega⟩⟩
  · show p.getD 2 0 = 0 ∨ allB (p.getD 2 0) = true ∨ _ = (if allB (p.getD 2 0) = true ∨ p.getD 2 0 = 0 then 0 else p.getD 3 0)
    by_cases h0 : p.getD 2 0 = 0
    · exact .inl h0
    · rcases hA : allB (p.getD 2 0) with _ | _
      · refine .inr (.inr ?_)
        rw [if_neg (fun hc => hc.elim (fun h => by cases h) h0), resXp]
        show (if p.getD 2 0 = 0 then ((0 : Int), (-1 : Int)) else if allB (p.getD 2 0) = true then (p.getD 2 0, -1) else (p.getD 2 0, if p.getD 2 0 = 0 then -1 else p.getD 3 0)).2 = _
        rw [if_neg h0, hA, if_neg (by decide), if_neg h0]
      · exact .inr (.inl rfl)
  · show 0 ≤ (if allB (p.getD 2 0) = true ∨ p.getD 2 0 = 0 then 0 else p.getD 3 0) ∧ (if allB (p.getD 2 0) = true ∨ p.getD 2 0 = 0 then 0 else p.getD 3 0) < 8
    split
    · decide
    · rename_i hc
      have := (t3 (fun h => hc (.inr h)) (by rcases hA : allB (p.getD 2 0) with _ | _; rfl; exact absurd (.inl hA) hc)).1
      omega
end
theorem ld_mod {p : List Int} (hb : ByteL p) (h0 : p.length ≠ 0) (h : p.length < 5 ∨ (p.length - 5) % 9 ≠ 0) : loadM p = none := load_none h0 fun hl => by
  have := lf_len hb hl
  omega
theorem rem9 {a : Nat} (h5 : 5 ≤ a) (h : a ≤ 140737488351232) : aBin 5 .rem (.int .i64 (IntKind.i64.wrap ((a : Int) - 5))) (.int .i64 9) = some (.int .i64 (((a - 5) % 9 : Nat) : Int)) := by
  rw [wi _ (by omega)]
  simp only [aBin, isShift, aInt, if_neg (show ¬ (9 : Int) = 0 by decide)]
  rw [Int.tmod_eq_emod_of_nonneg (by omega)]
  have : ((a : Int) - 5) % 9 = (((a - 5) % 9 : Nat) : Int) := by omega
  simp [this]
theorem ne_strs {tk : Nat} {xs ys : List Int} (hx : ByteL xs) (hy : ByteL ys) (h : xs ≠ ys) : aBin tk .neq (.string (ofInts xs)) (.string (ofInts ys)) = some (.bool true) := by
  simp only [aBin, aStr]
  rw [texts_beq hx hy, decide_eq_false h]
  rfl
theorem xsave_bytes {X : XT} (hk : 0 ≤ X.kd ∧ X.kd < 256) : ByteL (saveM (xpt X)) := by
  unfold saveM
  split
  · exact ByteL.nil
  · refine ByteL.app ?_ ?_
    · simp only [byteL_cons, byteL_nil, and_true]
      rw [res1]
      refine ⟨by decide, by decide, ?_, by rw [w8]; omega, by rw [w8]; omega⟩
      show 0 ≤ X.kd ∧ X.kd ≤ 255
      omega
    · intro z hz
      obtain ⟨r, hr, hz⟩ := List.mem_flatMap.1 hz
      rcases List.mem_cons.1 hz with rfl | hz
      · rw [w8]; omega
      · exact beB_bytes _ _ z hz
def X00 : XT := ⟨[0, 0, 0, 0, 0, 0, 0, 0], 0, 0, 0, false⟩
theorem x00 : PX X00 (-1) = PT0 := rfl
theorem x00_rel : Rel X00 (-1) := rel_of (.inl rfl)
theorem x00_ok : XOK X00 := by
  refine ⟨rfl, fun i => ?_, by decide, by decide⟩
  have : ∀ i : Nat, X00.ks.getD i 0 = 0 := by
    intro i
    match i with
    | 0 | 1 | 2 | 3 | 4 | 5 | 6 | 7 => rfl
    | i + 8 => rfl
  rw [this]; decide
theorem xl_load {p : List Int} {m : Nat} (h : loadM p = some (PX (xldN p m) (reservedM (xpt (xld p m))).2) ∧ Rel (xldN p m) (reservedM (xpt (xld p m))).2 ∧ XOK (xldN p m)) {hd : Int} (e : (if allB (p.getD 2 0) = true ∨ p.getD 2 0 = 0 then 0 else p.getD 3 0) = hd) : ∃ hh, loadM p = some (PX ⟨kf p m, p.getD 2 0, hd, 0, true⟩ hh) ∧ Rel ⟨kf p m, p.getD 2 0, hd, 0, true⟩ hh ∧ XOK ⟨kf p m, p.getD 2 0, hd, 0, true⟩ := by
  subst e
  exact ⟨_, h⟩
theorem xr_keys {X : XT} (hX : XOK X) {hh : Int} : ∀ r ∈ (PX X hh).regs, 0 ≤ r.2 ∧ r.2 < 18446744073709551616 := fun r hr => by
  obtain ⟨i, _, rfl, _⟩ := xrTo_mem.1 hr
  exact hX.rng i

end Go.Proofs.Ytihkghfmihdicaa.Abs
