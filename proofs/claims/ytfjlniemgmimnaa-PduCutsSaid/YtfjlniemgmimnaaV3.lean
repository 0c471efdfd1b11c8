/- PDUs in pieces: what stays true. -/
import Derived.Test.YtfjlniemgmimnaaV2
set_option linter.unusedVariables false
set_option linter.unusedSimpArgs false
set_option maxRecDepth 100000
namespace Go.Proofs.Ytfjlniemgmimnaa.Abs
open Go Go.RowKit
@[reducible] def PV2 : Type := Pd × Value
def pdV (z : PV2) : List Value := [.int .u8 z.1.op, .int .u8 z.1.fl, .int .u8 z.1.res, .int .u8 z.1.st, .int .u8 z.1.lun, .int .u32 z.1.tag, .int .u32 z.1.w0, .int .u32 z.1.w1, .int .u32 z.1.w2, .int .u32 z.1.w3, .int .u32 z.1.w4, .int .u32 z.1.w5, .int .u32 z.1.w6, z.2]
theorem pdV_len (z : PV2) : (pdV z).length = 14 := rfl
def dzV : PV2 := (zeroP, .slice none 0 0)
def dzE : PZ := (zeroP, none)
def fstP (z : PZ) : Pd := z.1
theorem sl_nil' {H : Hp} : Sl H 1 0 [] (.slice none 0 0) := ⟨by simp, .inl ⟨rfl, .inl rfl⟩⟩
def HeldOf (oh : Option Nat) (ks k : List Int) (x : Value) : Prop := ∀ H2 : Hp, Sl H2 1 ks.length (ks.map (Value.int .u8)) (accV oh ks.length 1) → Sl H2 1 k.length (k.map (Value.int .u8)) x
theorem acc_apart {ob : Option Nat} {b n : Nat} (h : ob ≠ some b) : Apart b (accV ob n 1) := by
  intro c o n' m e hn hc
  subst hc
  cases ob with
  | none => cases e
  | some c' =>
    have e : Value.slice (some ⟨c', 0, none⟩) n 1 = .slice (some ⟨c, o, none⟩) n' m := e
    injection e with e1
    injection e1 with e1
    injection e1 with e1
    exact h (by rw [e1])
theorem held_apart {H : Hp} {b : Nat} {oh : Option Nat} {ks k : List Int} {x : Value} (hd : HeldOf oh ks k x) (hs : Sl H 1 ks.length (ks.map (Value.int .u8)) (accV oh ks.length 1)) (hne : oh ≠ some b) : Apart b x := by
  have h2 : Sl (H.cut b) 1 ks.length (ks.map (Value.int .u8)) (accV oh ks.length 1) := by
    obtain ⟨hl, h | ⟨hn, c, o, m, e, hg⟩⟩ := hs
    · exact ⟨hl, .inl h⟩
    · refine ⟨hl, .inr ⟨hn, c, o, m, e, ?_⟩⟩
      have hc : c ≠ b := acc_apart hne c o _ m e hn
      unfold Hp.get at hg ⊢
      simp only [Hp.cut, if_neg hc]
      exact hg
  have h3 := hd _ h2
  intro c o n m e hn hc
  subst hc
  obtain ⟨hl, ⟨h0, e1 | ⟨c', o', m', e1⟩⟩ | ⟨hn', c', o', m', e1, hg⟩⟩ := h3
  · rw [e] at e1; cases e1
  · rw [e] at e1; injection e1 with e1 e2; omega
  · rw [e] at e1
    injection e1 with e1 e2 e3
    injection e1 with e1
    injection e1 with e1
    subst e1
    unfold Hp.get at hg
    simp [Hp.cut] at hg
theorem rfeed2 {H : Hp} {b : Nat} {k : List Int} {x : Value} {hd dt : Bool} {f : Int} {p : List Int} {y : Value} (hk : H.m b = some ⟨true, 64, [x, .bool hd, .bool dt, .int .i64 f]⟩) (hx : Sl H 1 k.length (k.map (Value.int .u8)) x) (hap : Apart b x) (hy : Sl H 1 p.length (p.map (Value.int .u8)) y) (hapy : Apart b y) (hl : k.length + p.length ≤ 1000000) (hf : f ≠ 0 → x = .slice none 0 0) : ACalls Try.prog 16 [.pointer (some ⟨b, 0, none⟩), y] H (fun v H' => ∃ oh, Stt [b] H H' [⟨some b, true, ⟨true, 64, [accV oh (if f = 0 then k ++ p else []).length 1, .bool hd, .bool dt, .int .i64 f]⟩⟩, ⟨oh, true, ⟨true, 5, ((if f = 0 then k ++ p else [])).map (Value.int .u8)⟩⟩] ∧ (f ≠ 0 → oh = none)) := by
  refine (rfeed_call hk hx hap hy hapy hl).mono fun v H' h => ?_
  rcases h with ⟨h0, st⟩ | ⟨h0, ob, st⟩
  · refine ⟨none, ?_, fun _ => rfl⟩
    rw [if_neg h0]
    have hx0 := hf h0
    subst hx0
    exact (st.nil 5).swap (List.Perm.swap _ _ _)
  · subst h0
    exact ⟨ob, by rw [if_pos rfl]; exact st, fun h => absurd rfl h⟩
section
variable {hd dt : Bool} {A : List Int} {W : List Pd} {e : Int}
theorem AllR.short {h d : Bool} {xs : List Int} {ps : List Pd} {e : Int} (r : AllR h d xs ps e) : ps.length ≤ xs.length := by
  induction r with
  | stop _ => exact Nat.zero_le _
  | step h0 _ ih =>
    have := dec_len h0
    rw [List.length_drop] at ih
    rw [List.length_cons]
    omega
def RInv (hd dt : Bool) (A : List Int) (W : List Pd) (e : Int) (a n : Nat) (k : List Int) (f : Int) : Prop := (f = 0 ∧ AllR hd dt (k ++ A.drop a) (W.drop n) e) ∨ (f ≠ 0 ∧ k = [] ∧ f = e ∧ e ≠ 8 ∧ W.length ≤ n)
def EInv (hd dt : Bool) (e : Int) (a : Nat) (k : List Int) (f ed : Int) : Prop := (f = 0 → 0 < a → ed = 8 ∧ decE k hd dt = 8) ∧ (f ≠ 0 → ed = e)
theorem r_feed {a n q : Nat} {k p : List Int} {f : Int} (h : RInv hd dt A W e a n k f) (hp : p = (A.drop a).take q) : RInv hd dt A W e (a + q) n (if f = 0 then k ++ p else []) f := by
  rcases h with ⟨h0, h⟩ | ⟨h0, h⟩
  · refine .inl ⟨h0, ?_⟩
    rw [if_pos h0, List.append_assoc, hp, ← List.drop_drop, List.take_append_drop]
    exact h
  · rw [if_neg h0]
    exact .inr ⟨h0, rfl, h.2⟩
theorem r_yes {a n : Nat} {k : List Int} (h : RInv hd dt A W e a n k 0) (h0 : decE k hd dt = 0) : ∃ hn : n < W.length, W[n] = decP k hd dt ∧ RInv hd dt A W e a (n + 1) (k.drop (decN k hd dt)) 0 := by
  rcases h with ⟨_, h⟩ | ⟨h1, _⟩
  · obtain ⟨hn, e1, r⟩ := rd_yes h h0
    exact ⟨hn, e1, .inl ⟨rfl, r⟩⟩
  · exact absurd rfl h1
theorem r_bad {a n : Nat} {k : List Int} (h : RInv hd dt A W e a n k 0) (h0 : decE k hd dt ≠ 0) (h8 : decE k hd dt ≠ 8) : RInv hd dt A W e a n [] (decE k hd dt) ∧ EInv hd dt e a [] (decE k hd dt) (decE k hd dt) := by
  rcases h with ⟨_, h⟩ | ⟨h1, _⟩
  · obtain ⟨hn, e1⟩ := rd_no h h0 (.inl h8)
    exact ⟨.inr ⟨h0, rfl, e1.symm, by rw [e1]; exact h8, hn⟩, fun h => absurd h h0, fun _ => e1.symm⟩
  · exact absurd rfl h1
theorem r_fin {a n : Nat} {k : List Int} {f ed : Int} (h : RInv hd dt A W e a n k f) (he : EInv hd dt e a k f ed) (ha : A.length ≤ a) (hk : k.length ≤ a) (haA : a ≤ A.length) : W.length ≤ n ∧ (0 < A.length → ed = e) ∧ (e ≠ 8 → f ≠ 0 ∧ k = [] ∧ f = e) := by
  rcases h with ⟨h0, h⟩ | ⟨h0, h1, h2, h3, h4⟩
  · have hr : A.drop a = [] := List.drop_of_length_le ha
    have hk8 : decE k hd dt = 8 := by
      rcases Nat.eq_zero_or_pos a with hz | hp
      · have : k = [] := List.eq_nil_of_length_eq_zero (by omega)
        rw [this]
        have al := atN_le hd
        exact e_8 (by simp only [List.length_nil]; omega)
      · exact (he.1 h0 hp).2
    obtain ⟨q1, q2⟩ := rd_no h (by rw [hk8]; decide) (.inr hr)
    rw [hk8] at q2
    exact ⟨q1, fun hp => by rw [q2]; exact (he.1 h0 (by omega)).1, fun h8 => absurd q2 h8⟩
  · exact ⟨h4, fun _ => he.2 h0, fun _ => ⟨h0, h1, h2⟩⟩
end
section
variable {P : Program} {R : Tm → Hp → Prop} {t : Tm} {H : Hp} {d : Option Nat} {x y : Opd}
theorem aMinQ {r : Nat} {c : Int} (hx : ev t x = .int .i64 (r : Int)) (hy : ev t y = .int .i64 (IntKind.i64.wrap c)) (hc : 0 ≤ c ∧ c ≤ 255) (kk : ∀ q : Nat, q ≤ r → R (upd t d (.int .i64 (q : Int))) H) : aStep P ⟨d, .minmax false x y, none⟩ R t H := by
  refine aMin hx hy ?_
  rw [wi c (by omega)]
  obtain ⟨c, rfl⟩ := Int.eq_ofNat_of_zero_le hc.1
  by_cases h : (c : Int) < (r : Int)
  · rw [if_pos h]; exact kk c (by omega)
  · rw [if_neg h]; exact kk r (Nat.le_refl _)
theorem ne_int {tk : Nat} {k : IntKind} {n : Int} : aBin tk .neq (.int k n) (.int k n) = some (.bool false) := by simp [aBin, isShift, aInt]
theorem eq_int {tk : Nat} {k : IntKind} {n : Int} : aBin tk .eql (.int k n) (.int k n) = some (.bool true) := by simp [aBin, isShift, aInt]
theorem ne_int0 {tk : Nat} {k : IntKind} {n m : Int} (h : n ≠ m) : aBin tk .neq (.int k n) (.int k m) = some (.bool true) := by simp [aBin, isShift, aInt, h]
theorem kk_len {f : Int} {k p : List Int} {b : Nat} (h : k.length + p.length ≤ b) : (if f = 0 then k ++ p else []).length ≤ b := by
  by_cases h0 : f = 0
  · rw [if_pos h0, List.length_append]; exact h
  · rw [if_neg h0]; exact Nat.zero_le _
theorem kk_bytes {f : Int} {k p : List Int} (hk : ByteL k) (hp : ByteL p) : ByteL (if f = 0 then k ++ p else []) := by
  by_cases h0 : f = 0
  · rw [if_pos h0]; exact hk.app hp
  · rw [if_neg h0]; exact ByteL.nil
theorem ms_lt {i a q A C : Nat} (haL : a < A) (hq : q ≤ A - a) (hqn : ¬ (i < 300 ∧ i < C) → q = A - a) : (300 - (i + 1)) + (if a + q < A then 1 else 0) < (300 - i) + (if a < A then 1 else 0) := by
  by_cases hi : i < 300 ∧ i < C
  · rw [if_pos haL]
    by_cases h2 : a + q < A
    · rw [if_pos h2]; omega
    · rw [if_neg h2]; omega
  · have := hqn hi
    rw [if_pos haL, if_neg (by omega)]
    omega
theorem add_nat {a q : Nat} (h : a + q ≤ 1000000) : aBin 5 .add (.int .i64 (a : Int)) (.int .i64 (q : Int)) = some (.int .i64 ((a + q : Nat) : Int)) := by
  show some (Value.int .i64 (IntKind.i64.wrap ((a : Int) + q))) = _
  rw [wi _ (by omega)]
  simp
theorem sub_nat {a q : Nat} (h : a ≤ 1000000) (hq : q ≤ a) : aBin 5 .sub (.int .i64 (a : Int)) (.int .i64 (q : Int)) = some (.int .i64 ((a - q : Nat) : Int)) := by
  show some (Value.int .i64 (IntKind.i64.wrap ((a : Int) - q))) = _
  rw [wi _ (by omega)]
  exact congrArg (fun z => some (Value.int .i64 z)) (by omega)
end

end Go.Proofs.Ytfjlniemgmimnaa.Abs
