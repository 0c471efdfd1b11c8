/- The services of the document, in plain words. -/
import Derived.Test.YtihkghfmihdicaaX4
set_option linter.unusedVariables false
set_option linter.unusedSimpArgs false
set_option maxRecDepth 100000
namespace Go.Proofs.Ytihkghfmihdicaa.Abs
open Go Go.RowKit

def goes (n : Int) (o : POut) (i : Nat) (k : Int) : Bool := (i : Int) != n && k != 0 && (o.act == 0 || k == o.act)
def zk (ks : List Int) (n : Int) (o : POut) : Nat → List Int
  | 0 => ks
  | j + 1 => if goes n o j (ks.getD j 0) = true then (zk ks n o j).set j 0 else zk ks n o j
theorem zk_len (ks : List Int) (n : Int) (o : POut) : ∀ j, (zk ks n o j).length = ks.length
  | 0 => rfl
  | j + 1 => by
    unfold zk
    split
    · rw [List.length_set]; exact zk_len ks n o j
    · exact zk_len ks n o j
theorem zk_get {ks : List Int} (n : Int) (o : POut) : ∀ (j i : Nat), j ≤ ks.length → (zk ks n o j).getD i 0 = if i < j ∧ goes n o i (ks.getD i 0) = true then 0 else ks.getD i 0
  | 0, i, _ => by rw [if_neg (by omega)]; rfl
  | j + 1, i, h => by
    have ih := zk_get (ks := ks) n o j i (by omega)
    unfold zk
    by_cases hg : goes n o j (ks.getD j 0) = true
    · rw [if_pos hg, set_getD (ks := zk ks n o j) (by rw [zk_len]; omega)]
      by_cases hi : i = j
      · subst hi
        rw [if_pos rfl, if_pos ⟨by omega, hg⟩]
      · rw [if_neg hi, ih]
        by_cases hc : i < j ∧ goes n o i (ks.getD i 0) = true
        · rw [if_pos hc, if_pos ⟨by omega, hc.2⟩]
        · rw [if_neg hc, if_neg (fun h2 => hc ⟨by omega, h2.2⟩)]
    · rw [if_neg hg, ih]
      by_cases hc : i < j ∧ goes n o i (ks.getD i 0) = true
      · rw [if_pos hc, if_pos ⟨by omega, hc.2⟩]
      · rw [if_neg hc, if_neg (fun h2 => hc ⟨by rcases Nat.lt_succ_iff_lt_or_eq.1 h2.1 with h3 | h3; exact h3; subst h3; exact absurd h2.2 hg, h2.2⟩)]
theorem zk_at {ks : List Int} (n : Int) (o : POut) {j : Nat} (h : j ≤ ks.length) : (zk ks n o j).getD j 0 = ks.getD j 0 := by
  rw [zk_get n o j j h, if_neg (fun hc => Nat.lt_irrefl _ hc.1)]
section
variable {X : XT} {n : Int} {o : POut}
theorem pall_eq (h : ¬ (o.act = 0 ∧ pallB (xpt X) o = false)) : pallB (xpt X) o = (o.act == 0) := by
  rcases hp : pallB (xpt X) o with _ | _
  · symm
    rw [beq_eq_false_iff_ne]
    exact fun h0 => h ⟨h0, hp⟩
  · unfold pallB at hp
    simp only [Bool.and_eq_true] at hp
    exact hp.2.symm
theorem goes_stays (hp : pallB (xpt X) o = (o.act == 0)) {i : Nat} {k : Int} (hk : k ≠ 0) : goes n o i k = !stays (xpt X) n o ((i : Int), k) := by
  unfold goes stays
  rw [hp]
  show ((i : Int) != n && k != 0 && (o.act == 0 || k == o.act)) = !((i : Int) == n || (k != o.act && !(o.act == 0)))
  rw [bne_iff_ne.2 hk]
  rcases h1 : ((i : Int) == n) with _ | _ <;> rcases h2 : (o.act == 0) with _ | _ <;> rcases h3 : (k == o.act) with _ | _ <;> simp_all [bne]
theorem xr_zk (hl : X.ks.length = 8) (hp : pallB (xpt X) o = (o.act == 0)) : xr (zk X.ks n o 8) = leftM (xpt X) n o := by
  refine sorted_ext (xrTo_sorted _ 8) ((xrTo_sorted X.ks 8).filter _) fun r => ?_
  rw [show leftM (xpt X) n o = (xr X.ks).filter (stays (xpt X) n o) from rfl, List.mem_filter]
  unfold xr
  rw [xrTo_mem, xrTo_mem]
  constructor
  · rintro ⟨i, hi, rfl, h0⟩
    rw [zk_get n o 8 i (by omega)] at h0 ⊢
    by_cases hc : i < 8 ∧ goes n o i (X.ks.getD i 0) = true
    · rw [if_pos hc] at h0; exact absurd rfl h0
    · rw [if_neg hc] at h0 ⊢
      refine ⟨⟨i, hi, rfl, h0⟩, ?_⟩
      have hg : goes n o i (X.ks.getD i 0) = false := by
        rcases hb : goes n o i (X.ks.getD i 0) with _ | _
        · rfl
        · exact absurd ⟨hi, hb⟩ hc
      rw [goes_stays hp h0] at hg
      simpa using hg
  · rintro ⟨⟨i, hi, rfl, h0⟩, hs⟩
    have hg : goes n o i (X.ks.getD i 0) = false := by rw [goes_stays hp h0, hs]; rfl
    exact ⟨i, hi, by rw [zk_get n o 8 i (by omega), if_neg (fun hc => by rw [hg] at hc; cases hc.2)], by rw [zk_get n o 8 i (by omega), if_neg (fun hc => by rw [hg] at hc; cases hc.2)]; exact h0⟩
def goneTo (X : XT) (n : Int) (o : POut) (j : Nat) : List (Int × Int) := ((xrTo X.ks j).filter (fun r => !stays (xpt X) n o r)).map fun r => (r.1, 10757)
theorem gone_t (hp : pallB (xpt X) o = (o.act == 0)) {j : Nat} (h : goes n o j (X.ks.getD j 0) = true) : goneTo X n o (j + 1) = goneTo X n o j ++ [((j : Int), 10757)] := by
  have hk : X.ks.getD j 0 ≠ 0 := by
    intro h0
    unfold goes at h
    rw [h0] at h
    simp at h
  unfold goneTo
  rw [goes_stays hp hk] at h
  rw [xrTo_t hk, List.filter_append, List.map_append, List.filter_cons, if_pos h]
  rfl
theorem gone_f (hp : pallB (xpt X) o = (o.act == 0)) {j : Nat} (h : goes n o j (X.ks.getD j 0) = false) : goneTo X n o (j + 1) = goneTo X n o j := by
  unfold goneTo
  by_cases hk : X.ks.getD j 0 = 0
  · rw [xrTo_f hk]
  · rw [goes_stays hp hk] at h
    rw [xrTo_t hk, List.filter_append, List.map_append, List.filter_cons, if_neg (by rw [h]; decide)]
    simp
theorem gone_len (X : XT) (n : Int) (o : POut) (j : Nat) : (goneTo X n o j).length ≤ j := by
  unfold goneTo
  rw [List.length_map]
  exact Nat.le_trans (List.length_filter_le _ _) (xrTo_len _ j)
theorem held_act (h : heldB (xpt X) o = true) : o.act ≠ 0 := by
  unfold heldB at h
  obtain ⟨r, hr, h1⟩ := List.any_eq_true.1 h
  obtain ⟨i, hi, rfl, h0⟩ := xrTo_mem.1 hr
  simp only [Bool.and_eq_true, beq_iff_eq] at h1
  rw [← h1.2]
  exact h0
theorem xheld (hX : XOK X) : heldB (xpt X) o = (X.kd != 0 && !allB X.kd && (X.ks.getD X.hd.toNat 0 == o.act) && o.act != 0) := by
  rw [Bool.eq_iff_iff]
  constructor
  · intro h
    have ha := held_act h
    unfold heldB at h
    obtain ⟨r, hr, h1⟩ := List.any_eq_true.1 h
    obtain ⟨i, hi, rfl, h0⟩ := xrTo_mem.1 hr
    simp only [Bool.and_eq_true, beq_iff_eq] at h1
    obtain ⟨⟨⟨h2, h3⟩, h4⟩, h5⟩ := h1
    have hk : X.kd ≠ 0 := bne_iff_ne.1 h2
    have h4' : (i : Int) = if X.kd = 0 then -1 else X.hd := h4
    rw [if_neg hk] at h4'
    rw [show X.hd.toNat = i by omega]
    simp only [Bool.and_eq_true, beq_iff_eq, bne_iff_ne]
    exact ⟨⟨⟨hk, h3⟩, h5⟩, ha⟩
  · intro h
    simp only [Bool.and_eq_true, beq_iff_eq, bne_iff_ne] at h
    obtain ⟨⟨⟨hk, h3⟩, h5⟩, ha⟩ := h
    have hh := hX.hd
    unfold heldB
    rw [List.any_eq_true]
    refine ⟨(X.hd, X.ks.getD X.hd.toNat 0), xrTo_mem.2 ⟨X.hd.toNat, by omega, by rw [show ((X.hd.toNat : Nat) : Int) = X.hd by omega], by rw [h5]; exact ha⟩, ?_⟩
    simp only [Bool.and_eq_true, beq_iff_eq, bne_iff_ne]
    refine ⟨⟨⟨hk, h3⟩, ?_⟩, h5⟩
    show X.hd = if X.kd = 0 then -1 else X.hd
    rw [if_neg hk]
theorem any_xr {ks : List Int} {a : Int} (ha : a ≠ 0) : (List.range 8).any (fun i => ks.getD i 0 == a) = (xr ks).any fun r => r.2 == a := by
  rw [Bool.eq_iff_iff, List.any_eq_true, List.any_eq_true]
  constructor
  · rintro ⟨i, hi, h⟩
    have h' : ks.getD i 0 = a := by simpa using h
    exact ⟨((i : Int), ks.getD i 0), xrTo_mem.2 ⟨i, List.mem_range.1 hi, rfl, by rw [h']; exact ha⟩, h⟩
  · rintro ⟨r, hr, h⟩
    obtain ⟨i, hi, rfl, _⟩ := xrTo_mem.1 hr
    exact ⟨i, List.mem_range.2 hi, h⟩
theorem any_range {p : Nat → Bool} {j : Nat} : (List.range (j + 1)).any p = ((List.range j).any p || p j) := by
  rw [List.range_succ, List.any_append]
  simp
theorem ite_bd {c : Prop} [Decidable c] {a b lo hi : Int} (ha : lo ≤ a ∧ a < hi) (hb : lo ≤ b ∧ b < hi) : lo ≤ (if c then a else b) ∧ (if c then a else b) < hi := by
  by_cases h : c
  · rw [if_pos h]; exact ha
  · rw [if_neg h]; exact hb
theorem zk_ok (hX : XOK X) {kd hd g : Int} {l : Bool} (hk : 0 ≤ kd ∧ kd < 256) (hh : 0 ≤ hd ∧ hd < 8) : XOK ⟨zk X.ks n o 8, kd, hd, g, l⟩ := by
  refine ⟨by show (zk X.ks n o 8).length = 8; rw [zk_len]; exact hX.len, fun i => ?_, hh, hk⟩
  show 0 ≤ (zk X.ks n o 8).getD i 0 ∧ _
  rw [zk_get n o 8 i (by rw [hX.len]; omega)]
  split
  · decide
  · exact hX.rng i
theorem set_ok (hX : XOK X) {i : Nat} {v kd hd g : Int} {l : Bool} (hv : 0 ≤ v ∧ v < 18446744073709551616) (hi : i < 8) (hk : 0 ≤ kd ∧ kd < 256) (hh : 0 ≤ hd ∧ hd < 8) : XOK ⟨X.ks.set i v, kd, hd, g, l⟩ := by
  refine ⟨by show (X.ks.set i v).length = 8; rw [List.length_set]; exact hX.len, fun m => ?_, hh, hk⟩
  show 0 ≤ (X.ks.set i v).getD m 0 ∧ _
  rw [set_getD (by rw [hX.len]; exact hi)]
  split
  · exact hv
  · exact hX.rng m
end

set_option linter.unusedSectionVars false
section
variable {X : XT} {n : Int} {o : POut}
theorem xk1 (hn : 0 ≤ n ∧ n < 8) : (keyM (xpt X).regs n).1 = X.ks.getD n.toNat 0 := by
  show (keyM (xr X.ks) n).1 = _
  rw [xkey _ hn]
theorem xk2 (hn : 0 ≤ n ∧ n < 8) : (keyM (xpt X).regs n).2 = (X.ks.getD n.toNat 0 != 0) := by
  show (keyM (xr X.ks) n).2 = _
  rw [xkey _ hn]
theorem dx1 (h : n < 0 ∨ n ≥ 8 ∨ o.sv > 6) : doM (xpt X) n o = ⟨2, 9216, [], xpt X⟩ := if_pos h
variable (hn : 0 ≤ n ∧ n < 8) (hs : ¬ o.sv > 6)
include hn hs
theorem dx0 (h : o.sv = 6 ∨ (o.sv = 0 ∧ o.key = X.ks.getD n.toNat 0)) : doM (xpt X) n o = ⟨0, 0, registerE (xpt X) n o (X.ks.getD n.toNat 0 != 0), registerP (xpt X) n o (X.ks.getD n.toNat 0 != 0)⟩ := by
  unfold doM
  rw [if_neg (fun hc => by omega), xk1 hn, xk2 hn]
  rcases h with h | ⟨h, h2⟩
  · rw [if_pos h]
  · rw [if_neg (by omega), if_pos h, if_neg (fun hc => hc h2)]
theorem dx2 (h : o.sv = 0) (hk : o.key ≠ X.ks.getD n.toNat 0) : doM (xpt X) n o = ⟨24, 0, [], xpt X⟩ := by
  unfold doM
  rw [if_neg (fun hc => by omega), xk1 hn, if_neg (by omega), if_pos h, if_pos hk]
theorem dx3 (h0 : o.sv ≠ 0) (h6 : o.sv ≠ 6) (hk : X.ks.getD n.toNat 0 = 0 ∨ o.key ≠ X.ks.getD n.toNat 0) : doM (xpt X) n o = ⟨24, 0, [], xpt X⟩ := by
  unfold doM
  rw [if_neg (fun hc => by omega), xk1 hn, xk2 hn, if_neg h6, if_neg h0, if_pos (hk.imp (fun h => by rw [h]; rfl) id)]
theorem dx4 (h0 : o.sv ≠ 0) (h6 : o.sv ≠ 6) (hk : ¬ (X.ks.getD n.toNat 0 = 0 ∨ o.key ≠ X.ks.getD n.toNat 0)) : doM (xpt X) n o = if o.sv = 1 then reserveM (xpt X) n o else if o.sv = 2 then releaseM (xpt X) n o else if o.sv = 3 then ⟨0, 0, clearE (xpt X) n, clearP (xpt X)⟩ else preemptM (xpt X) n o := by
  unfold doM
  rw [if_neg (fun hc => by omega), xk1 hn, xk2 hn, if_neg h6, if_neg h0, if_neg (fun hc => hk (hc.imp (fun h => by simpa using h) id))]
end
section
variable {X : XT} {n : Int} {o : POut}
def XR (X : XT) (X1 : XT) (n : Int) (o : POut) : Prop := XOK X1 ∧ registerP (xpt X) n o (X.ks.getD n.toNat 0 != 0) = { xpt X1 with aptpl := o.ap, gen := inc32 X.gen }
theorem rgA (hX : XOK X) (hn : 0 ≤ n ∧ n < 8) (ho : 0 ≤ o.act ∧ o.act < 18446744073709551616) (ha : o.act ≠ 0) : XR X ⟨X.ks.set n.toNat o.act, X.kd, X.hd, X.gen, X.ls⟩ n o ∧ registerE (xpt X) n o (X.ks.getD n.toNat 0 != 0) = [] := by
  refine ⟨⟨set_ok hX ho (by omega) hX.kd hX.hd, ?_⟩, if_neg (fun hc => ha hc.1)⟩
  unfold registerP
  simp only [if_neg ha]
  rw [show (xpt X).regs = xr X.ks from rfl, xset hX.len hn]
  rfl
theorem rgB (hX : XOK X) (ha : o.act = 0) (hk : X.ks.getD n.toNat 0 = 0) : XR X ⟨X.ks, X.kd, X.hd, X.gen, X.ls⟩ n o ∧ registerE (xpt X) n o (X.ks.getD n.toNat 0 != 0) = [] := by
  have hk2 : (X.ks.getD n.toNat 0 != 0) = false := by rw [hk]; rfl
  refine ⟨⟨hX, ?_⟩, if_neg (fun hc => by rw [hk2] at hc; exact absurd hc.2.1 (by decide))⟩
  unfold registerP
  rw [hk2]
  simp only [if_pos ha]
  rfl
theorem one_iff (hX : XOK X) (hn : 0 ≤ n ∧ n < 8) (hk : X.ks.getD n.toNat 0 ≠ 0) : ((xr X.ks).length == 1) = (((xr (X.ks.set n.toNat 0)).length : Int) == 0) := by
  have hm : (n, X.ks.getD n.toNat 0) ∈ xr X.ks := xrTo_mem.2 ⟨n.toNat, by omega, by rw [show ((n.toNat : Nat) : Int) = n by omega], hk⟩
  have hs : ∀ r, r ∈ xr (X.ks.set n.toNat 0) ↔ r ∈ xr X.ks ∧ r.1 ≠ n := fun r => by
    rw [← xset hX.len hn, mem_setM]
    constructor
    · rintro (h | ⟨h, _⟩)
      · exact h
      · exact absurd rfl h
    · exact .inl
  rw [Bool.eq_iff_iff, beq_iff_eq, beq_iff_eq]
  constructor
  · intro h
    match hx : xr X.ks, h with
    | [a], _ =>
      rw [hx] at hm hs
      have ha := List.mem_singleton.1 hm
      have : xr (X.ks.set n.toNat 0) = [] := List.eq_nil_iff_forall_not_mem.2 fun r hr => by
        obtain ⟨h1, h2⟩ := (hs r).1 hr
        rw [List.mem_singleton.1 h1, ← ha] at h2
        exact h2 rfl
      rw [this]; rfl
  · intro h
    have h0 : xr (X.ks.set n.toNat 0) = [] := List.eq_nil_of_length_eq_zero (by omega)
    have : xr X.ks = [(n, X.ks.getD n.toNat 0)] := sorted_ext (xrTo_sorted _ 8) (List.pairwise_singleton _ _) fun r => by
      constructor
      · intro hr
        by_cases hr1 : r.1 = n
        · exact List.mem_singleton.2 (uniqR (xrTo_sorted _ 8) hr hm hr1)
        · have := (hs r).2 ⟨hr, hr1⟩
          rw [h0] at this; cases this
      · intro hr; rw [List.mem_singleton.1 hr]; exact hm
    rw [this]; rfl
def ownX (X : XT) (n : Int) : Bool := X.kd != 0 && !allB X.kd && (X.hd == n)
theorem frX (hX : XOK X) (hn : 0 ≤ n ∧ n < 8) (hk : X.ks.getD n.toNat 0 ≠ 0) : frM (xpt X) n = (ownX X n || (allB X.kd && (((xr (X.ks.set n.toNat 0)).length : Int) == 0))) := by
  rw [← one_iff hX hn hk]
  show ((allB X.kd && (xr X.ks).length == 1) || ((X.kd != 0 && ((if X.kd = 0 then (-1 : Int) else X.hd) == n)) && !allB X.kd)) = _
  unfold ownX
  by_cases h0 : X.kd = 0
  · rw [h0]; rfl
  · rw [if_neg h0]
    rcases allB X.kd <;> rcases ((xr X.ks).length == 1) <;> rcases (X.hd == n) <;> rcases (X.kd != 0) <;> rfl
theorem rgC (hX : XOK X) (hn : 0 ≤ n ∧ n < 8) (ha : o.act = 0) (hk : X.ks.getD n.toNat 0 ≠ 0) (hf : frM (xpt X) n = false) : XR X ⟨X.ks.set n.toNat 0, X.kd, X.hd, X.gen, X.ls⟩ n o ∧ registerE (xpt X) n o (X.ks.getD n.toNat 0 != 0) = [] := by
  have hk2 : (X.ks.getD n.toNat 0 != 0) = true := bne_iff_ne.2 hk
  refine ⟨⟨set_ok hX (by decide) (by omega) hX.kd hX.hd, ?_⟩, if_neg (fun hc => by rw [hf] at hc; exact absurd hc.2.2 (by decide))⟩
  unfold registerP
  rw [hk2, hf]
  simp only [if_pos ha, if_true]
  rw [show (xpt X).regs = xr X.ks from rfl, xset hX.len hn]
  rfl
theorem rgD (hX : XOK X) (hn : 0 ≤ n ∧ n < 8) (ha : o.act = 0) (hk : X.ks.getD n.toNat 0 ≠ 0) (hf : frM (xpt X) n = true) : XR X ⟨X.ks.set n.toNat 0, 0, 0, X.gen, X.ls⟩ n o ∧ registerE (xpt X) n o (X.ks.getD n.toNat 0 != 0) = freeE (xpt ⟨X.ks.set n.toNat 0, X.kd, X.hd, X.gen, X.ls⟩) n := by
  have hk2 : (X.ks.getD n.toNat 0 != 0) = true := bne_iff_ne.2 hk
  refine ⟨⟨set_ok hX (by decide) (by omega) (by decide) (by decide), ?_⟩, ?_⟩
  · unfold registerP
    rw [hk2, hf]
    simp only [if_pos ha, if_true]
    rw [show (xpt X).regs = xr X.ks from rfl, xset hX.len hn]
    rfl
  · unfold registerE
    rw [if_pos ⟨ha, hk2, hf⟩, show (xpt X).regs = xr X.ks from rfl, xset hX.len hn]
    rfl
theorem xres0 (h : typeB o.ty = false) : reserveM (xpt X) n o = ⟨2, 9216, [], xpt X⟩ := if_pos h
theorem xres1 (h : typeB o.ty = true) (h0 : X.kd = 0) : reserveM (xpt X) n o = ⟨0, 0, [], xpt ⟨X.ks, o.ty, n, X.gen, X.ls⟩⟩ := by
  have h1 := type_ne0 h
  unfold reserveM
  rw [if_neg (by rw [h]; decide), if_pos (show (xpt X).kind = 0 from h0)]
  show _ = (⟨0, 0, [], ⟨xr X.ks, X.gen, o.ty, if o.ty = 0 then -1 else n, X.ls⟩⟩ : PR)
  rw [if_neg h1]
  rfl
theorem xres2 (h : typeB o.ty = true) (h0 : X.kd ≠ 0) (hh : holdsM (xpt X) n = true) (he : X.kd = o.ty) : reserveM (xpt X) n o = ⟨0, 0, [], xpt X⟩ := by
  unfold reserveM
  rw [if_neg (by rw [h]; decide), if_neg (show ¬ (xpt X).kind = 0 from h0)]
  exact if_pos ⟨hh, he⟩
theorem xres3 (h : typeB o.ty = true) (h0 : X.kd ≠ 0) (hh : ¬ (holdsM (xpt X) n = true ∧ X.kd = o.ty)) : reserveM (xpt X) n o = ⟨24, 0, [], xpt X⟩ := by
  unfold reserveM
  rw [if_neg (by rw [h]; decide), if_neg (show ¬ (xpt X).kind = 0 from h0)]
  exact if_neg hh
theorem xrel0 (h : holdsM (xpt X) n = false) : releaseM (xpt X) n o = ⟨0, 0, [], xpt X⟩ := if_pos h
theorem xrel1 (h : holdsM (xpt X) n = true) (h0 : X.kd ≠ o.ty) : releaseM (xpt X) n o = ⟨2, 9216, [], xpt X⟩ := by
  unfold releaseM
  rw [if_neg (by rw [h]; decide), if_pos (show (xpt X).kind ≠ o.ty from h0)]
theorem xrel2 (h : holdsM (xpt X) n = true) (h0 : X.kd = o.ty) : releaseM (xpt X) n o = ⟨0, 0, freeE (xpt X) n, xpt ⟨X.ks, 0, 0, X.gen, X.ls⟩⟩ := by
  unfold releaseM
  rw [if_neg (by rw [h]; decide), if_neg (show ¬ (xpt X).kind ≠ o.ty from fun hc => hc h0)]
  rfl
theorem z8 : 0 ≤ (0 : Int) ∧ (0 : Int) < 8 := by decide
theorem z256 : 0 ≤ (0 : Int) ∧ (0 : Int) < 256 := by decide
theorem zero_ok {kd hd g : Int} {l : Bool} (hk : 0 ≤ kd ∧ kd < 256) (hh : 0 ≤ hd ∧ hd < 8) : XOK ⟨[0, 0, 0, 0, 0, 0, 0, 0], kd, hd, g, l⟩ := by
  refine ⟨rfl, fun i => ?_, hh, hk⟩
  show 0 ≤ ([0, 0, 0, 0, 0, 0, 0, 0] : List Int).getD i 0 ∧ _
  have : ∀ i : Nat, ([0, 0, 0, 0, 0, 0, 0, 0] : List Int).getD i 0 = 0 := by
    intro i
    match i with
    | 0 | 1 | 2 | 3 | 4 | 5 | 6 | 7 => rfl
    | i + 8 => rfl
  rw [this]; decide
end
/-! a table whose holder is told otherwise, where nobody asks for it -/
section
variable {P : PT} {h : Int} (hz : P.kind = 0 ∨ allB P.kind = true) (n : Int) (o : POut)
include hz
theorem si_holds : holdsM { P with holder := h } n = holdsM P n := by
  unfold holdsM
  by_cases h0 : P.kind = 0
  · simp only [if_pos h0]
  · have hA := hz.resolve_left h0
    simp only [if_neg h0, if_pos hA]
theorem si_mask : (P.kind != 0 && !allB P.kind) = false := by
  rcases hz with h0 | hA
  · rw [h0]; rfl
  · rw [hA, Bool.not_true, Bool.and_false]
theorem si_fr : frM { P with holder := h } n = frM P n := by
  unfold frM
  rcases hz with h0 | hA
  · simp only [h0]; rfl
  · simp only [hA, Bool.not_true, Bool.and_false]
theorem si_held : heldB { P with holder := h } o = heldB P o := by
  unfold heldB
  have hm := si_mask hz
  simp only [hm, Bool.false_and]
def Sim (P : PT) (h : Int) (R Q : PR) : Prop := ∃ h', Q = ⟨R.st, R.code, R.ev, { R.tab with holder := h' }⟩ ∧ (R.tab.kind = 0 ∨ allB R.tab.kind = true ∨ h' = R.tab.holder)
theorem si_id {s c : Int} {e : List (Int × Int)} : Sim P h ⟨s, c, e, P⟩ ⟨s, c, e, { P with holder := h }⟩ := ⟨h, rfl, hz.elim .inl (fun x => .inr (.inl x))⟩
omit hz in
theorem si_eq {R : PR} : Sim P h R R := ⟨R.tab.holder, rfl, .inr (.inr rfl)⟩
theorem si_reg (k : Bool) : Sim P h ⟨0, 0, registerE P n o k, registerP P n o k⟩ ⟨0, 0, registerE { P with holder := h } n o k, registerP { P with holder := h } n o k⟩ := by
  have hz' : P.kind = 0 ∨ allB P.kind = true ∨ h = P.holder := hz.elim .inl (fun x => .inr (.inl x))
  unfold registerE registerP
  rw [si_fr (h := h) hz]
  by_cases ha : o.act = 0
  · simp only [if_pos ha]
    cases k with
    | false => simp only [Bool.false_eq_true, if_false, false_and, and_false]; exact ⟨h, rfl, hz'⟩
    | true =>
      simp only [if_true]
      by_cases hf : frM P n = true
      · simp only [if_pos hf]; exact ⟨-1, rfl, .inl rfl⟩
      · simp only [if_neg hf]; exact ⟨h, by simp only [ha, hf]; rfl, hz'⟩
  · simp only [if_neg ha]; exact ⟨h, by simp only [ha, false_and]; rfl, hz'⟩
theorem si_res : Sim P h (reserveM P n o) (reserveM { P with holder := h } n o) := by
  unfold reserveM
  rw [si_holds (h := h) hz]
  by_cases h1 : typeB o.ty = false
  · simp only [if_pos h1]; exact si_id hz
  · simp only [if_neg h1]
    by_cases h2 : P.kind = 0
    · simp only [if_pos h2]; exact si_eq
    · simp only [if_neg h2]
      by_cases h3 : holdsM P n = true ∧ P.kind = o.ty
      · simp only [if_pos h3]; exact si_id hz
      · simp only [if_neg h3]; exact si_id hz
theorem si_rel : Sim P h (releaseM P n o) (releaseM { P with holder := h } n o) := by
  unfold releaseM
  rw [si_holds (h := h) hz]
  by_cases h1 : holdsM P n = false
  · simp only [if_pos h1]; exact si_id hz
  · simp only [if_neg h1]
    by_cases h2 : P.kind ≠ o.ty
    · simp only [if_pos h2]; exact si_id hz
    · simp only [if_neg h2]; exact si_eq
theorem si_pre : Sim P h (preemptM P n o) (preemptM { P with holder := h } n o) := by
  have hz' : P.kind = 0 ∨ allB P.kind = true ∨ h = P.holder := hz.elim .inl (fun x => .inr (.inl x))
  have e1 : pallB { P with holder := h } o = pallB P o := rfl
  have e2 : goneE { P with holder := h } n o = goneE P n o := rfl
  have e3 : leftM { P with holder := h } n o = leftM P n o := rfl
  have e4 : relE { P with holder := h } n o = relE P n o := by unfold relE; rw [si_held (h := h) hz]; rfl
  unfold preemptM
  rw [si_held (h := h) hz, e1, e2, e3, e4]
  by_cases h1 : o.act = 0 ∧ pallB P o = false
  · simp only [if_pos h1]; exact si_id hz
  · simp only [if_neg h1]
    by_cases h2 : (heldB P o || pallB P o) = true ∧ typeB o.ty = false
    · simp only [if_pos h2]; exact si_id hz
    · simp only [if_neg h2]
      by_cases h3 : (P.regs.any fun r => r.2 == o.act) = false ∧ pallB P o = false
      · simp only [if_pos h3]; exact si_id hz
      · simp only [if_neg h3]
        by_cases h4 : (heldB P o || pallB P o) = true
        · simp only [if_pos h4]; exact si_eq
        · simp only [if_neg h4]; exact ⟨h, rfl, hz'⟩
theorem si_do : Sim P h (doM P n o) (doM { P with holder := h } n o) := by
  unfold doM
  by_cases h1 : n < 0 ∨ n ≥ 8 ∨ o.sv > 6
  · simp only [if_pos h1]; exact si_id hz
  · simp only [if_neg h1]
    by_cases h2 : o.sv = 6
    · simp only [if_pos h2]; exact si_reg hz n o _
    · simp only [if_neg h2]
      by_cases h3 : o.sv = 0
      · simp only [if_pos h3]
        by_cases h4 : o.key ≠ (keyM P.regs n).1
        · simp only [if_pos h4]; exact si_id hz
        · simp only [if_neg h4]; exact si_reg hz n o _
      · simp only [if_neg h3]
        by_cases h5 : (keyM P.regs n).2 = false ∨ o.key ≠ (keyM P.regs n).1
        · simp only [if_pos h5]; exact si_id hz
        · simp only [if_neg h5]
          by_cases h6 : o.sv = 1
          · simp only [if_pos h6]; exact si_res hz n o
          · simp only [if_neg h6]
            by_cases h7 : o.sv = 2
            · simp only [if_pos h7]; exact si_rel hz n o
            · simp only [if_neg h7]
              by_cases h8 : o.sv = 3
              · simp only [if_pos h8]; exact si_eq
              · simp only [if_neg h8]; exact si_pre hz n o
end
theorem rel_do {X : XT} {hh : Int} (hr : Rel X hh) {X' : XT} {n : Int} {o : POut} (hx : xpt X' = (doM (xpt X) n o).tab) : ∃ h', doM (PX X hh) n o = ⟨(doM (xpt X) n o).st, (doM (xpt X) n o).code, (doM (xpt X) n o).ev, PX X' h'⟩ ∧ Rel X' h' := by
  have key : Sim (xpt X) hh (doM (xpt X) n o) (doM (PX X hh) n o) := by
    by_cases h0 : X.kd = 0
    · exact si_do (P := xpt X) (h := hh) (.inl h0) n o
    · rcases rel_cases hr with h | h | h
      · exact absurd h h0
      · exact si_do (P := xpt X) (h := hh) (.inr h) n o
      · have e : PX X hh = xpt X := by
          show (⟨xr X.ks, X.gen, X.kd, hh, X.ls⟩ : PT) = ⟨xr X.ks, X.gen, X.kd, if X.kd = 0 then -1 else X.hd, X.ls⟩
          rw [if_neg h0, h]
        rw [e]
        exact ⟨_, rfl, .inr (.inr rfl)⟩
  obtain ⟨h', e, c⟩ := key
  rw [← hx] at e c
  refine ⟨h', e, rel_of ?_⟩
  by_cases h0 : X'.kd = 0
  · exact .inl h0
  · rcases c with c | c | c
    · exact absurd c h0
    · exact .inr (.inl c)
    · refine .inr (.inr ?_)
      rw [c]
      exact if_neg h0
/-- What a service tells. -/
theorem pite {p : PR → Prop} {c : Prop} [Decidable c] {a b : PR} (ha : p a) (hb : p b) : p (if c then a else b) := by
  by_cases h : c
  · rw [if_pos h]; exact ha
  · rw [if_neg h]; exact hb
theorem do_ind {p : PR → Prop} {P : PT} {n : Int} {o : POut} (hid : ∀ s c : Int, ((s = 0 ∨ s = 2 ∨ s = 24) ∧ 0 ≤ c ∧ c < 65536) → p ⟨s, c, [], P⟩) (hreg : ∀ k, p ⟨0, 0, registerE P n o k, registerP P n o k⟩) (hres : p ⟨0, 0, [], { P with kind := o.ty, holder := n }⟩) (hrel : p ⟨0, 0, freeE P n, freeP P⟩) (hcl : p ⟨0, 0, clearE P n, clearP P⟩) (hpre : ∀ T, p ⟨0, 0, goneE P n o ++ relE P n o, T⟩) : p (doM P n o) := by
  unfold doM reserveM releaseM preemptM
  repeat' refine pite (p := p) ?_ ?_
  all_goals first | exact hid _ _ (by decide) | exact hreg _ | exact hres | exact hrel | exact hcl | exact hpre _
theorem ev_codes {P : PT} {n : Int} {o : POut} : (doM P n o).st = 0 ∨ (doM P n o).st = 2 ∨ (doM P n o).st = 24 := do_ind (p := fun R => R.st = 0 ∨ R.st = 2 ∨ R.st = 24) (fun s c h => h.1) (fun _ => .inl rfl) (.inl rfl) (.inl rfl) (.inl rfl) (fun _ => .inl rfl)
theorem c00 : 0 ≤ (0 : Int) ∧ (0 : Int) < 65536 := by decide
theorem ev_code {P : PT} {n : Int} {o : POut} : 0 ≤ (doM P n o).code ∧ (doM P n o).code < 65536 := do_ind (p := fun R => 0 ≤ R.code ∧ R.code < 65536) (fun s c h => h.2) (fun _ => c00) c00 c00 c00 (fun _ => c00)
theorem ev_all {P : PT} {n : Int} {o : POut} : ∀ e ∈ (doM P n o).ev, 0 ≤ e.2 ∧ e.2 < 65536 := by
  have m : ∀ (l : List (Int × Int)) (c : Int), 0 ≤ c ∧ c < 65536 → ∀ e ∈ l.map (fun r => (r.1, c)), 0 ≤ e.2 ∧ e.2 < 65536 := by
    intro l c hc e he
    obtain ⟨r, _, rfl⟩ := List.mem_map.1 he
    exact hc
  have hf : ∀ Q : PT, ∀ e ∈ freeE Q n, 0 ≤ e.2 ∧ e.2 < 65536 := fun Q e he => by
    unfold freeE at he
    split at he
    · exact m _ _ (by decide) e he
    · cases he
  have hre : ∀ k, ∀ e ∈ registerE P n o k, 0 ≤ e.2 ∧ e.2 < 65536 := fun k e he => by
    unfold registerE at he
    split at he
    · exact hf _ e he
    · cases he
  have hp : ∀ e ∈ goneE P n o ++ relE P n o, 0 ≤ e.2 ∧ e.2 < 65536 := fun e he => by
    rcases List.mem_append.1 he with he | he
    · exact m _ _ (by decide) e he
    · unfold relE at he
      split at he
      · exact m _ _ (by decide) e he
      · cases he
  exact do_ind (p := fun R => ∀ e ∈ R.ev, 0 ≤ e.2 ∧ e.2 < 65536) (fun s c _ e he => by cases he) hre (fun e he => by cases he) (hf P) (m _ _ (by decide)) (fun _ => hp)

end Go.Proofs.Ytihkghfmihdicaa.Abs
