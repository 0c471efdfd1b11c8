/- CdbForms. -/
import Derived.Test.YtlbmfcbcmfcjbaaR0
import Derived.Test.YtlbmfcbcmfcjbaaQ3
import Derived.Test.YtlbmfcbcmfcjbaaP4
set_option linter.unusedVariables false
set_option linter.unusedSimpArgs false
set_option maxRecDepth 100000
namespace Go.Proofs.Ytlbmfcbcmfcjbaa.Abs
open Go Go.RowKit
theorem odd_same {xs ms : List Int} {i l : Nat} (h : xs.getD i 0 = ms.getD i 0) : oddB xs ms i l = false := by unfold oddB; rw [h]; simp
theorem odd_zero {xs ms : List Int} {i l : Nat} (h : xs.getD i 0 = 0) : oddB xs ms i l = false := by unfold oddB; rw [h]; simp
theorem odd_full {xs ms : List Int} {i l : Nat} (h : ms.getD i 0 = 255) (hl : l < 8) : oddB xs ms i l = false := by
  have : ∀ l, l < 8 → (255 : Nat).testBit l = true := by decide
  unfold oddB
  rw [h, show ((255 : Int)).toNat = 255 from rfl, this l hl]
  simp
theorem odd_31 {xs ms : List Int} {i l : Nat} (h : ms.getD i 0 = 31) (hx : 0 ≤ xs.getD i 0 ∧ xs.getD i 0 < 32) (hl : l < 8) : oddB xs ms i l = false := by
  have : ∀ n, n < 32 → ∀ l, l < 8 → (n.testBit l && !(31 : Nat).testBit l) = false := by decide
  unfold oddB
  rw [h, show ((31 : Int)).toNat = 31 from rfl]
  exact this _ (by omega) l hl
theorem remI {k : IntKind} {a b : Int} (ha : 0 ≤ a) (hb : b ≠ 0) : aBin 5 .rem (.int k a) (.int k b) = some (.int k (a % b)) := by
  simp only [aBin, isShift, aInt, if_neg hb]
  rw [Int.tmod_eq_emod_of_nonneg ha]
  simp
theorem tab_at {l : List Int} {j : Nat} (h : j < l.length) : (l.map (Value.int .u8))[0 + ((j : Int)).toNat * 1]? = some (.int .u8 (l.getD j 0)) := map_at h
theorem form6 {op at_ k f g : Int} (ho : op = 8 ∨ op = 10) (ha : 0 ≤ at_ ∧ at_ < 2097152) (hk : 0 ≤ k ∧ k < 256) (h : POdd ([op] ++ beB 3 at_ ++ [k, 0]) f g) : parseM ([op] ++ beB 3 at_ ++ [k, 0]) f g = ({ cmd0 (kindL op) with lba := at_, blocks := if k = 0 then 256 else k }, sns0, true) := by
  obtain ⟨Z, hZ⟩ : ∃ Z, Z = ([op] ++ beB 3 at_ ++ [k, 0]) := ⟨_, rfl⟩
  have hl : Z.length = 6 := by rw [hZ]; rfl
  have r1 : rgetV Z 1 3 = at_ := by
    rw [show rgetV Z 1 3 = rgetV Z ((1 : Nat) : Int) ((3 : Nat) : Int) from rfl, rgetV_in 1 3 (by omega) (by omega), hZ]
    show beN (beB 3 at_) = at_
    rw [beN_beB]
    exact Int.emod_eq_of_lt ha.1 (Int.lt_of_lt_of_le ha.2 (by decide))
  have g0 : Z.getD 0 0 = op := by rw [hZ]; rfl
  have g1 : Z.getD 1 0 = at_ / 256 / 256 % 256 := by rw [hZ]; rfl
  have g4 : Z.getD 4 0 = k := by rw [hZ]; rfl
  rw [← hZ] at h ⊢
  rcases ho with rfl | rfl
  · have hm : useL (Z.getD 0 0) = [8, 31, 255, 255, 255, 0] := by rw [g0]; rfl
    have hod : OddAt (Z.take 6) [8, 31, 255, 255, 255, 0] f g := by
      have := h (by rw [hm]; decide) (by rw [hm, hl]; decide)
      rwa [hm] at this
    rw [List.take_of_length_le (by omega)] at hod
    have hno : OddAt Z [8, 31, 255, 255, 255, 0] (-1) (-1) := by
      refine .inl ⟨rfl, rfl, fun i hi l hl8 => ?_⟩
      have : i = 0 ∨ i = 1 ∨ i = 2 ∨ i = 3 ∨ i = 4 ∨ i = 5 := by omega
      rcases this with rfl | rfl | rfl | rfl | rfl | rfl
      · exact odd_same (by rw [g0]; rfl)
      · exact odd_31 rfl (by rw [g1]; omega) hl8
      · exact odd_full rfl hl8
      · exact odd_full rfl hl8
      · exact odd_full rfl hl8
      · exact odd_zero (by rw [hZ]; rfl)
    obtain ⟨rfl, rfl⟩ := hod.uniq hno
    have hsv : serveB (Z.getD 0 0) (svOf Z) = true := by rw [g0]; rfl
    have q1 : tellsB (Z.getD 0 0) = true → Z.length ≠ 1 := fun _ => by omega
    have e0 : Z.take (useL (Z.getD 0 0)).length = Z := List.take_of_length_le (by rw [hm, hl]; decide)
    have hF : fillF (kindL (Z.getD 0 0)) (useL (Z.getD 0 0)).length (Z.take (useL (Z.getD 0 0)).length) = (-1, 0) := by
      rw [e0, hm, g0]
      show (if (7 : Int) ≤ 10 ∧ (if Z.getD 4 0 = 0 then 256 else Z.getD 4 0) > 256 then ((4 : Int), (7 : Int)) else (-1, 0)) = _
      rw [if_neg (by rw [g4]; intro hc; have := hc.2; split at this <;> omega)]
    rw [pm8 (by omega) q1 (by rw [hm]; decide) (by rw [hm, hl]; decide) (by decide) hsv (by rw [hF]; decide), e0, hm, g0]
    show (({ cmd0 7 with lba := rgetV Z 1 3 % 2097152, blocks := if Z.getD 4 0 = 0 then 256 else Z.getD 4 0 } : Cmd), sns0, true) = _
    rw [r1, g4, Int.emod_eq_of_lt ha.1 ha.2]
    rfl
  · have hm : useL (Z.getD 0 0) = [10, 31, 255, 255, 255, 0] := by rw [g0]; rfl
    have hod : OddAt (Z.take 6) [10, 31, 255, 255, 255, 0] f g := by
      have := h (by rw [hm]; decide) (by rw [hm, hl]; decide)
      rwa [hm] at this
    rw [List.take_of_length_le (by omega)] at hod
    have hno : OddAt Z [10, 31, 255, 255, 255, 0] (-1) (-1) := by
      refine .inl ⟨rfl, rfl, fun i hi l hl8 => ?_⟩
      have : i = 0 ∨ i = 1 ∨ i = 2 ∨ i = 3 ∨ i = 4 ∨ i = 5 := by omega
      rcases this with rfl | rfl | rfl | rfl | rfl | rfl
      · exact odd_same (by rw [g0]; rfl)
      · exact odd_31 rfl (by rw [g1]; omega) hl8
      · exact odd_full rfl hl8
      · exact odd_full rfl hl8
      · exact odd_full rfl hl8
      · exact odd_zero (by rw [hZ]; rfl)
    obtain ⟨rfl, rfl⟩ := hod.uniq hno
    have hsv : serveB (Z.getD 0 0) (svOf Z) = true := by rw [g0]; rfl
    have q1 : tellsB (Z.getD 0 0) = true → Z.length ≠ 1 := fun _ => by omega
    have e0 : Z.take (useL (Z.getD 0 0)).length = Z := List.take_of_length_le (by rw [hm, hl]; decide)
    have hF : fillF (kindL (Z.getD 0 0)) (useL (Z.getD 0 0)).length (Z.take (useL (Z.getD 0 0)).length) = (-1, 0) := by
      rw [e0, hm, g0]
      show (if (8 : Int) ≤ 10 ∧ (if Z.getD 4 0 = 0 then 256 else Z.getD 4 0) > 256 then ((4 : Int), (7 : Int)) else (-1, 0)) = _
      rw [if_neg (by rw [g4]; intro hc; have := hc.2; split at this <;> omega)]
    rw [pm8 (by omega) q1 (by rw [hm]; decide) (by rw [hm, hl]; decide) (by decide) hsv (by rw [hF]; decide), e0, hm, g0]
    show (({ cmd0 8 with lba := rgetV Z 1 3 % 2097152, blocks := if Z.getD 4 0 = 0 then 256 else Z.getD 4 0 } : Cmd), sns0, true) = _
    rw [r1, g4, Int.emod_eq_of_lt ha.1 ha.2]
    rfl

theorem form10 {op at_ k f g : Int} (ho : op = 40 ∨ op = 42 ∨ op = 46 ∨ op = 47) (ha : 0 ≤ at_ ∧ at_ < 4294967296) (hk : 0 ≤ k ∧ k < 65536) (h : POdd ([op, 0] ++ beB 4 at_ ++ [0] ++ beB 2 k ++ [0]) f g) : parseM ([op, 0] ++ beB 4 at_ ++ [0] ++ beB 2 k ++ [0]) f g = if k > 256 then (cmd0 0, flt 7 7, false) else ({ cmd0 (kindL op) with lba := at_, blocks := k }, sns0, true) := by
  obtain ⟨Z, hZ⟩ : ∃ Z, Z = ([op, 0] ++ beB 4 at_ ++ [0] ++ beB 2 k ++ [0]) := ⟨_, rfl⟩
  have hl : Z.length = 10 := by rw [hZ]; rfl
  have r1 : rgetV Z 2 4 = at_ := by
    rw [show rgetV Z 2 4 = rgetV Z ((2 : Nat) : Int) ((4 : Nat) : Int) from rfl, rgetV_in 2 4 (by omega) (by omega), hZ]
    show beN (beB 4 at_) = at_
    rw [beN_beB]
    exact Int.emod_eq_of_lt ha.1 (Int.lt_of_lt_of_le ha.2 (by decide))
  have r2 : rgetV Z 7 2 = k := by
    rw [show rgetV Z 7 2 = rgetV Z ((7 : Nat) : Int) ((2 : Nat) : Int) from rfl, rgetV_in 7 2 (by omega) (by omega), hZ]
    show beN (beB 2 k) = k
    rw [beN_beB]
    exact Int.emod_eq_of_lt hk.1 (Int.lt_of_lt_of_le hk.2 (by decide))
  have g0 : Z.getD 0 0 = op := by rw [hZ]; rfl
  have g1 : Z.getD 1 0 = 0 := by rw [hZ]; rfl
  rw [← hZ] at h ⊢
  rcases ho with rfl | rfl | rfl | rfl
  · have hm : useL (Z.getD 0 0) = [40, 248, 255, 255, 255, 255, 0, 255, 255, 0] := by rw [g0]; rfl
    have hod : OddAt (Z.take 10) [40, 248, 255, 255, 255, 255, 0, 255, 255, 0] f g := by
      have := h (by rw [hm]; decide) (by rw [hm, hl]; decide)
      rwa [hm] at this
    rw [List.take_of_length_le (by omega)] at hod
    have hno : OddAt Z [40, 248, 255, 255, 255, 255, 0, 255, 255, 0] (-1) (-1) := by
      refine .inl ⟨rfl, rfl, fun i hi l hl8 => ?_⟩
      have : i = 0 ∨ i = 1 ∨ i = 2 ∨ i = 3 ∨ i = 4 ∨ i = 5 ∨ i = 6 ∨ i = 7 ∨ i = 8 ∨ i = 9 := by omega
      rcases this with rfl | rfl | rfl | rfl | rfl | rfl | rfl | rfl | rfl | rfl
      · exact odd_same (by rw [g0]; rfl)
      · exact odd_zero (by rw [hZ]; rfl)
      · exact odd_full rfl hl8
      · exact odd_full rfl hl8
      · exact odd_full rfl hl8
      · exact odd_full rfl hl8
      · exact odd_zero (by rw [hZ]; rfl)
      · exact odd_full rfl hl8
      · exact odd_full rfl hl8
      · exact odd_zero (by rw [hZ]; rfl)
    obtain ⟨rfl, rfl⟩ := hod.uniq hno
    have hsv : serveB (Z.getD 0 0) (svOf Z) = true := by rw [g0]; rfl
    have q1 : tellsB (Z.getD 0 0) = true → Z.length ≠ 1 := fun _ => by omega
    have e0 : Z.take (useL (Z.getD 0 0)).length = Z := List.take_of_length_le (by rw [hm, hl]; decide)
    have hF : fillF (kindL (Z.getD 0 0)) (useL (Z.getD 0 0)).length (Z.take (useL (Z.getD 0 0)).length) = if k > 256 then (7, 7) else (-1, 0) := by
      rw [e0, hm, g0]
      show (if (7 : Int) ≤ 10 ∧ rgetV Z 7 2 > 256 then ((7 : Int), (7 : Int)) else (-1, 0)) = _
      rw [r2]
      by_cases hz : k > 256
      · rw [if_pos hz, if_pos ⟨by decide, hz⟩]
      · rw [if_neg hz, if_neg (fun hc => hz hc.2)]
    by_cases hz : k > 256
    · rw [if_pos hz] at hF ⊢
      rw [pm7 (by omega) q1 (by rw [hm]; decide) (by rw [hm, hl]; decide) (by decide) hsv (by rw [hF]; decide), hF]
    · rw [if_neg hz] at hF ⊢
      rw [pm8 (by omega) q1 (by rw [hm]; decide) (by rw [hm, hl]; decide) (by decide) hsv (by rw [hF]; decide), e0, hm, g0]
      show (({ cmd0 7 with lba := rgetV Z 2 4, blocks := rgetV Z 7 2, prot := Z.getD 1 0 / 32, fua := true && (Z.getD 1 0 / 8 % 2 == 1), bytes := false && (Z.getD 1 0 / 2 % 2 == 1), unmap := false && (Z.getD 1 0 / 8 % 2 == 1) } : Cmd), sns0, true) = _
      rw [r1, r2, g1]
      rfl
  · have hm : useL (Z.getD 0 0) = [42, 248, 255, 255, 255, 255, 0, 255, 255, 0] := by rw [g0]; rfl
    have hod : OddAt (Z.take 10) [42, 248, 255, 255, 255, 255, 0, 255, 255, 0] f g := by
      have := h (by rw [hm]; decide) (by rw [hm, hl]; decide)
      rwa [hm] at this
    rw [List.take_of_length_le (by omega)] at hod
    have hno : OddAt Z [42, 248, 255, 255, 255, 255, 0, 255, 255, 0] (-1) (-1) := by
      refine .inl ⟨rfl, rfl, fun i hi l hl8 => ?_⟩
      have : i = 0 ∨ i = 1 ∨ i = 2 ∨ i = 3 ∨ i = 4 ∨ i = 5 ∨ i = 6 ∨ i = 7 ∨ i = 8 ∨ i = 9 := by omega
      rcases this with rfl | rfl | rfl | rfl | rfl | rfl | rfl | rfl | rfl | rfl
      · exact odd_same (by rw [g0]; rfl)
      · exact odd_zero (by rw [hZ]; rfl)
      · exact odd_full rfl hl8
      · exact odd_full rfl hl8
      · exact odd_full rfl hl8
      · exact odd_full rfl hl8
      · exact odd_zero (by rw [hZ]; rfl)
      · exact odd_full rfl hl8
      · exact odd_full rfl hl8
      · exact odd_zero (by rw [hZ]; rfl)
    obtain ⟨rfl, rfl⟩ := hod.uniq hno
    have hsv : serveB (Z.getD 0 0) (svOf Z) = true := by rw [g0]; rfl
    have q1 : tellsB (Z.getD 0 0) = true → Z.length ≠ 1 := fun _ => by omega
    have e0 : Z.take (useL (Z.getD 0 0)).length = Z := List.take_of_length_le (by rw [hm, hl]; decide)
    have hF : fillF (kindL (Z.getD 0 0)) (useL (Z.getD 0 0)).length (Z.take (useL (Z.getD 0 0)).length) = if k > 256 then (7, 7) else (-1, 0) := by
      rw [e0, hm, g0]
      show (if (8 : Int) ≤ 10 ∧ rgetV Z 7 2 > 256 then ((7 : Int), (7 : Int)) else (-1, 0)) = _
      rw [r2]
      by_cases hz : k > 256
      · rw [if_pos hz, if_pos ⟨by decide, hz⟩]
      · rw [if_neg hz, if_neg (fun hc => hz hc.2)]
    by_cases hz : k > 256
    · rw [if_pos hz] at hF ⊢
      rw [pm7 (by omega) q1 (by rw [hm]; decide) (by rw [hm, hl]; decide) (by decide) hsv (by rw [hF]; decide), hF]
    · rw [if_neg hz] at hF ⊢
      rw [pm8 (by omega) q1 (by rw [hm]; decide) (by rw [hm, hl]; decide) (by decide) hsv (by rw [hF]; decide), e0, hm, g0]
      show (({ cmd0 8 with lba := rgetV Z 2 4, blocks := rgetV Z 7 2, prot := Z.getD 1 0 / 32, fua := true && (Z.getD 1 0 / 8 % 2 == 1), bytes := false && (Z.getD 1 0 / 2 % 2 == 1), unmap := false && (Z.getD 1 0 / 8 % 2 == 1) } : Cmd), sns0, true) = _
      rw [r1, r2, g1]
      rfl
  · have hm : useL (Z.getD 0 0) = [46, 240, 255, 255, 255, 255, 0, 255, 255, 0] := by rw [g0]; rfl
    have hod : OddAt (Z.take 10) [46, 240, 255, 255, 255, 255, 0, 255, 255, 0] f g := by
      have := h (by rw [hm]; decide) (by rw [hm, hl]; decide)
      rwa [hm] at this
    rw [List.take_of_length_le (by omega)] at hod
    have hno : OddAt Z [46, 240, 255, 255, 255, 255, 0, 255, 255, 0] (-1) (-1) := by
      refine .inl ⟨rfl, rfl, fun i hi l hl8 => ?_⟩
      have : i = 0 ∨ i = 1 ∨ i = 2 ∨ i = 3 ∨ i = 4 ∨ i = 5 ∨ i = 6 ∨ i = 7 ∨ i = 8 ∨ i = 9 := by omega
      rcases this with rfl | rfl | rfl | rfl | rfl | rfl | rfl | rfl | rfl | rfl
      · exact odd_same (by rw [g0]; rfl)
      · exact odd_zero (by rw [hZ]; rfl)
      · exact odd_full rfl hl8
      · exact odd_full rfl hl8
      · exact odd_full rfl hl8
      · exact odd_full rfl hl8
      · exact odd_zero (by rw [hZ]; rfl)
      · exact odd_full rfl hl8
      · exact odd_full rfl hl8
      · exact odd_zero (by rw [hZ]; rfl)
    obtain ⟨rfl, rfl⟩ := hod.uniq hno
    have hsv : serveB (Z.getD 0 0) (svOf Z) = true := by rw [g0]; rfl
    have q1 : tellsB (Z.getD 0 0) = true → Z.length ≠ 1 := fun _ => by omega
    have e0 : Z.take (useL (Z.getD 0 0)).length = Z := List.take_of_length_le (by rw [hm, hl]; decide)
    have hF : fillF (kindL (Z.getD 0 0)) (useL (Z.getD 0 0)).length (Z.take (useL (Z.getD 0 0)).length) = if k > 256 then (7, 7) else (-1, 0) := by
      rw [e0, hm, g0]
      show (if (9 : Int) ≤ 10 ∧ rgetV Z 7 2 > 256 then ((7 : Int), (7 : Int)) else (-1, 0)) = _
      rw [r2]
      by_cases hz : k > 256
      · rw [if_pos hz, if_pos ⟨by decide, hz⟩]
      · rw [if_neg hz, if_neg (fun hc => hz hc.2)]
    by_cases hz : k > 256
    · rw [if_pos hz] at hF ⊢
      rw [pm7 (by omega) q1 (by rw [hm]; decide) (by rw [hm, hl]; decide) (by decide) hsv (by rw [hF]; decide), hF]
    · rw [if_neg hz] at hF ⊢
      rw [pm8 (by omega) q1 (by rw [hm]; decide) (by rw [hm, hl]; decide) (by decide) hsv (by rw [hF]; decide), e0, hm, g0]
      show (({ cmd0 9 with lba := rgetV Z 2 4, blocks := rgetV Z 7 2, prot := Z.getD 1 0 / 32, fua := false && (Z.getD 1 0 / 8 % 2 == 1), bytes := false && (Z.getD 1 0 / 2 % 2 == 1), unmap := false && (Z.getD 1 0 / 8 % 2 == 1) } : Cmd), sns0, true) = _
      rw [r1, r2, g1]
      rfl
  · have hm : useL (Z.getD 0 0) = [47, 242, 255, 255, 255, 255, 0, 255, 255, 0] := by rw [g0]; rfl
    have hod : OddAt (Z.take 10) [47, 242, 255, 255, 255, 255, 0, 255, 255, 0] f g := by
      have := h (by rw [hm]; decide) (by rw [hm, hl]; decide)
      rwa [hm] at this
    rw [List.take_of_length_le (by omega)] at hod
    have hno : OddAt Z [47, 242, 255, 255, 255, 255, 0, 255, 255, 0] (-1) (-1) := by
      refine .inl ⟨rfl, rfl, fun i hi l hl8 => ?_⟩
      have : i = 0 ∨ i = 1 ∨ i = 2 ∨ i = 3 ∨ i = 4 ∨ i = 5 ∨ i = 6 ∨ i = 7 ∨ i = 8 ∨ i = 9 := by omega
      rcases this with rfl | rfl | rfl | rfl | rfl | rfl | rfl | rfl | rfl | rfl
      · exact odd_same (by rw [g0]; rfl)
      · exact odd_zero (by rw [hZ]; rfl)
      · exact odd_full rfl hl8
      · exact odd_full rfl hl8
      · exact odd_full rfl hl8
      · exact odd_full rfl hl8
      · exact odd_zero (by rw [hZ]; rfl)
      · exact odd_full rfl hl8
      · exact odd_full rfl hl8
      · exact odd_zero (by rw [hZ]; rfl)
    obtain ⟨rfl, rfl⟩ := hod.uniq hno
    have hsv : serveB (Z.getD 0 0) (svOf Z) = true := by rw [g0]; rfl
    have q1 : tellsB (Z.getD 0 0) = true → Z.length ≠ 1 := fun _ => by omega
    have e0 : Z.take (useL (Z.getD 0 0)).length = Z := List.take_of_length_le (by rw [hm, hl]; decide)
    have hF : fillF (kindL (Z.getD 0 0)) (useL (Z.getD 0 0)).length (Z.take (useL (Z.getD 0 0)).length) = if k > 256 then (7, 7) else (-1, 0) := by
      rw [e0, hm, g0]
      show (if (10 : Int) ≤ 10 ∧ rgetV Z 7 2 > 256 then ((7 : Int), (7 : Int)) else (-1, 0)) = _
      rw [r2]
      by_cases hz : k > 256
      · rw [if_pos hz, if_pos ⟨by decide, hz⟩]
      · rw [if_neg hz, if_neg (fun hc => hz hc.2)]
    by_cases hz : k > 256
    · rw [if_pos hz] at hF ⊢
      rw [pm7 (by omega) q1 (by rw [hm]; decide) (by rw [hm, hl]; decide) (by decide) hsv (by rw [hF]; decide), hF]
    · rw [if_neg hz] at hF ⊢
      rw [pm8 (by omega) q1 (by rw [hm]; decide) (by rw [hm, hl]; decide) (by decide) hsv (by rw [hF]; decide), e0, hm, g0]
      show (({ cmd0 10 with lba := rgetV Z 2 4, blocks := rgetV Z 7 2, prot := Z.getD 1 0 / 32, fua := false && (Z.getD 1 0 / 8 % 2 == 1), bytes := true && (Z.getD 1 0 / 2 % 2 == 1), unmap := false && (Z.getD 1 0 / 8 % 2 == 1) } : Cmd), sns0, true) = _
      rw [r1, r2, g1]
      rfl

theorem form16 {op at_ k f g : Int} (ho : op = 136 ∨ op = 138) (ha : 0 ≤ at_ ∧ at_ < 18446744073709551616) (hk : 0 ≤ k ∧ k < 4294967296) (h : POdd ([op, 0] ++ beB 8 at_ ++ beB 4 k ++ [0, 0]) f g) : parseM ([op, 0] ++ beB 8 at_ ++ beB 4 k ++ [0, 0]) f g = if k > 256 then (cmd0 0, flt 10 7, false) else ({ cmd0 (kindL op) with lba := at_, blocks := k }, sns0, true) := by
  obtain ⟨Z, hZ⟩ : ∃ Z, Z = ([op, 0] ++ beB 8 at_ ++ beB 4 k ++ [0, 0]) := ⟨_, rfl⟩
  have hl : Z.length = 16 := by rw [hZ]; rfl
  have r1 : rgetV Z 2 8 = at_ := by
    rw [show rgetV Z 2 8 = rgetV Z ((2 : Nat) : Int) ((8 : Nat) : Int) from rfl, rgetV_in 2 8 (by omega) (by omega), hZ]
    show beN (beB 8 at_) = at_
    rw [beN_beB]
    exact Int.emod_eq_of_lt ha.1 (Int.lt_of_lt_of_le ha.2 (by decide))
  have r2 : rgetV Z 10 4 = k := by
    rw [show rgetV Z 10 4 = rgetV Z ((10 : Nat) : Int) ((4 : Nat) : Int) from rfl, rgetV_in 10 4 (by omega) (by omega), hZ]
    show beN (beB 4 k) = k
    rw [beN_beB]
    exact Int.emod_eq_of_lt hk.1 (Int.lt_of_lt_of_le hk.2 (by decide))
  have g0 : Z.getD 0 0 = op := by rw [hZ]; rfl
  have g1 : Z.getD 1 0 = 0 := by rw [hZ]; rfl
  rw [← hZ] at h ⊢
  rcases ho with rfl | rfl
  · have hm : useL (Z.getD 0 0) = [136, 248, 255, 255, 255, 255, 255, 255, 255, 255, 255, 255, 255, 255, 0, 0] := by rw [g0]; rfl
    have hod : OddAt (Z.take 16) [136, 248, 255, 255, 255, 255, 255, 255, 255, 255, 255, 255, 255, 255, 0, 0] f g := by
      have := h (by rw [hm]; decide) (by rw [hm, hl]; decide)
      rwa [hm] at this
    rw [List.take_of_length_le (by omega)] at hod
    have hno : OddAt Z [136, 248, 255, 255, 255, 255, 255, 255, 255, 255, 255, 255, 255, 255, 0, 0] (-1) (-1) := by
      refine .inl ⟨rfl, rfl, fun i hi l hl8 => ?_⟩
      have : i = 0 ∨ i = 1 ∨ i = 2 ∨ i = 3 ∨ i = 4 ∨ i = 5 ∨ i = 6 ∨ i = 7 ∨ i = 8 ∨ i = 9 ∨ i = 10 ∨ i = 11 ∨ i = 12 ∨ i = 13 ∨ i = 14 ∨ i = 15 := by omega
      rcases this with rfl | rfl | rfl | rfl | rfl | rfl | rfl | rfl | rfl | rfl | rfl | rfl | rfl | rfl | rfl | rfl
      · exact odd_same (by rw [g0]; rfl)
      · exact odd_zero (by rw [hZ]; rfl)
      · exact odd_full rfl hl8
      · exact odd_full rfl hl8
      · exact odd_full rfl hl8
      · exact odd_full rfl hl8
      · exact odd_full rfl hl8
      · exact odd_full rfl hl8
      · exact odd_full rfl hl8
      · exact odd_full rfl hl8
      · exact odd_full rfl hl8
      · exact odd_full rfl hl8
      · exact odd_full rfl hl8
      · exact odd_full rfl hl8
      · exact odd_zero (by rw [hZ]; rfl)
      · exact odd_zero (by rw [hZ]; rfl)
    obtain ⟨rfl, rfl⟩ := hod.uniq hno
    have hsv : serveB (Z.getD 0 0) (svOf Z) = true := by rw [g0]; rfl
    have q1 : tellsB (Z.getD 0 0) = true → Z.length ≠ 1 := fun _ => by omega
    have e0 : Z.take (useL (Z.getD 0 0)).length = Z := List.take_of_length_le (by rw [hm, hl]; decide)
    have hF : fillF (kindL (Z.getD 0 0)) (useL (Z.getD 0 0)).length (Z.take (useL (Z.getD 0 0)).length) = if k > 256 then (10, 7) else (-1, 0) := by
      rw [e0, hm, g0]
      show (if (7 : Int) ≤ 10 ∧ rgetV Z 10 4 > 256 then ((10 : Int), (7 : Int)) else (-1, 0)) = _
      rw [r2]
      by_cases hz : k > 256
      · rw [if_pos hz, if_pos ⟨by decide, hz⟩]
      · rw [if_neg hz, if_neg (fun hc => hz hc.2)]
    by_cases hz : k > 256
    · rw [if_pos hz] at hF ⊢
      rw [pm7 (by omega) q1 (by rw [hm]; decide) (by rw [hm, hl]; decide) (by decide) hsv (by rw [hF]; decide), hF]
    · rw [if_neg hz] at hF ⊢
      rw [pm8 (by omega) q1 (by rw [hm]; decide) (by rw [hm, hl]; decide) (by decide) hsv (by rw [hF]; decide), e0, hm, g0]
      show (({ cmd0 7 with lba := rgetV Z 2 8, blocks := rgetV Z 10 4, prot := Z.getD 1 0 / 32, fua := true && (Z.getD 1 0 / 8 % 2 == 1), bytes := false && (Z.getD 1 0 / 2 % 2 == 1), unmap := false && (Z.getD 1 0 / 8 % 2 == 1) } : Cmd), sns0, true) = _
      rw [r1, r2, g1]
      rfl
  · have hm : useL (Z.getD 0 0) = [138, 248, 255, 255, 255, 255, 255, 255, 255, 255, 255, 255, 255, 255, 0, 0] := by rw [g0]; rfl
    have hod : OddAt (Z.take 16) [138, 248, 255, 255, 255, 255, 255, 255, 255, 255, 255, 255, 255, 255, 0, 0] f g := by
      have := h (by rw [hm]; decide) (by rw [hm, hl]; decide)
      rwa [hm] at this
    rw [List.take_of_length_le (by omega)] at hod
    have hno : OddAt Z [138, 248, 255, 255, 255, 255, 255, 255, 255, 255, 255, 255, 255, 255, 0, 0] (-1) (-1) := by
      refine .inl ⟨rfl, rfl, fun i hi l hl8 => ?_⟩
      have : i = 0 ∨ i = 1 ∨ i = 2 ∨ i = 3 ∨ i = 4 ∨ i = 5 ∨ i = 6 ∨ i = 7 ∨ i = 8 ∨ i = 9 ∨ i = 10 ∨ i = 11 ∨ i = 12 ∨ i = 13 ∨ i = 14 ∨ i = 15 := by omega
      rcases this with rfl | rfl | rfl | rfl | rfl | rfl | rfl | rfl | rfl | rfl | rfl | rfl | rfl | rfl | rfl | rfl
      · exact odd_same (by rw [g0]; rfl)
      · exact odd_zero (by rw [hZ]; rfl)
      · exact odd_full rfl hl8
      · exact odd_full rfl hl8
      · exact odd_full rfl hl8
      · exact odd_full rfl hl8
      · exact odd_full rfl hl8
      · exact odd_full rfl hl8
      · exact odd_full rfl hl8
      · exact odd_full rfl hl8
      · exact odd_full rfl hl8
      · exact odd_full rfl hl8
      · exact odd_full rfl hl8
      · exact odd_full rfl hl8
      · exact odd_zero (by rw [hZ]; rfl)
      · exact odd_zero (by rw [hZ]; rfl)
    obtain ⟨rfl, rfl⟩ := hod.uniq hno
    have hsv : serveB (Z.getD 0 0) (svOf Z) = true := by rw [g0]; rfl
    have q1 : tellsB (Z.getD 0 0) = true → Z.length ≠ 1 := fun _ => by omega
    have e0 : Z.take (useL (Z.getD 0 0)).length = Z := List.take_of_length_le (by rw [hm, hl]; decide)
    have hF : fillF (kindL (Z.getD 0 0)) (useL (Z.getD 0 0)).length (Z.take (useL (Z.getD 0 0)).length) = if k > 256 then (10, 7) else (-1, 0) := by
      rw [e0, hm, g0]
      show (if (8 : Int) ≤ 10 ∧ rgetV Z 10 4 > 256 then ((10 : Int), (7 : Int)) else (-1, 0)) = _
      rw [r2]
      by_cases hz : k > 256
      · rw [if_pos hz, if_pos ⟨by decide, hz⟩]
      · rw [if_neg hz, if_neg (fun hc => hz hc.2)]
    by_cases hz : k > 256
    · rw [if_pos hz] at hF ⊢
      rw [pm7 (by omega) q1 (by rw [hm]; decide) (by rw [hm, hl]; decide) (by decide) hsv (by rw [hF]; decide), hF]
    · rw [if_neg hz] at hF ⊢
      rw [pm8 (by omega) q1 (by rw [hm]; decide) (by rw [hm, hl]; decide) (by decide) hsv (by rw [hF]; decide), e0, hm, g0]
      show (({ cmd0 8 with lba := rgetV Z 2 8, blocks := rgetV Z 10 4, prot := Z.getD 1 0 / 32, fua := true && (Z.getD 1 0 / 8 % 2 == 1), bytes := false && (Z.getD 1 0 / 2 % 2 == 1), unmap := false && (Z.getD 1 0 / 8 % 2 == 1) } : Cmd), sns0, true) = _
      rw [r1, r2, g1]
      rfl

end Go.Proofs.Ytlbmfcbcmfcjbaa.Abs
