/- be.Within and be.Meet answer as the document's do, and Meet whichever range comes first, for any numbers of 64 bits: no condition. -/
import Derived.Test.YtgnfeeddapiihaaPBeRangesx1
set_option linter.unusedVariables false
set_option linter.unusedSimpArgs false
namespace Go.Proofs.Ytgnfeeddapiihaa.Pure
open Go.RowKit Go.Proofs.Ytgnfeeddapiihaa.PBeRanges Go.Proofs.YtgnfeeddapiihaaW.PrintWords Go.Proofs.YtgnfeeddapiihaaW.PrintLast Go.Proofs.YtgnfeeddapiihaaW.PrintMore

theorem u64_id {n : Int} (h0 : 0 ≤ n) (h1 : n < 18446744073709551616) : IntKind.u64.wrap n = n := by
  rw [show IntKind.u64.wrap n = n % 18446744073709551616 from by simp [IntKind.wrap, IntKind.bits, IntKind.signed]]
  omega
theorem w64_id {n : Int} (h0 : -9223372036854775808 ≤ n) (h1 : n ≤ 9223372036854775807) : wrap64 n = n := by
  unfold wrap64
  omega
theorem or8_u64 {x y : Int} (hx0 : 0 ≤ x) (hx1 : x * 256 < 18446744073709551616) (hy0 : 0 ≤ y) (hy1 : y ≤ 255) :
    Go.bits .or .u64 (IntKind.u64.wrap (x * 256)) (IntKind.u64.wrap y) = x * 256 + y := by
  rw [u64_id (by omega) hx1, u64_id hy0 (by omega)]
  exact bits_join .u64 64 (by decide) (fun n h0 h1 => u64_id h0 (by simpa using h1)) 8 (x * 256) y (by omega) (by omega) (by simpa using hx1) hy0 (by omega) (by omega)
/-- The number that bytes are. -/
def numS (l : List Int) (v : Int) : Int := l.foldl (fun v b => v * 256 + b) v
def Bytes (l : List Int) : Prop := ∀ x ∈ l, 0 ≤ x ∧ x ≤ 255
theorem bytes_of_wf {l : List Int} (h : ∀ x ∈ l, (Lit.int .u8 x).wf = true) : Bytes l := by
  intro x hx
  have := h x hx
  simp [Lit.wf, IntKind.min, IntKind.max, IntKind.signed, IntKind.bits] at this
  omega
theorem i64_of_wf {x : Int} (h : (Lit.int .i64 x).wf = true) : -9223372036854775808 ≤ x ∧ x ≤ 9223372036854775807 := by
  simp [Lit.wf, IntKind.min, IntKind.max, IntKind.signed, IntKind.bits] at h
  omega
theorem u64_of_wf {x : Int} (h : (Lit.int .u64 x).wf = true) : 0 ≤ x ∧ x < 18446744073709551616 := by
  simp [Lit.wf, IntKind.min, IntKind.max, IntKind.signed, IntKind.bits] at h
  omega
theorem rd_nat (l : List Int) (i : Nat) (h : i < l.length) : rd l (i : Int) = l[i] := by
  simp [rd, h]
theorem Bytes.at {l : List Int} (hb : Bytes l) (i : Nat) (h : i < l.length) : 0 ≤ l[i] ∧ l[i] ≤ 255 := hb _ (List.getElem_mem h)
theorem pow_step (i : Nat) : (256 : Int) ^ (i + 1) = 256 ^ i * 256 := by rw [Int.pow_succ]
theorem pow_le8 (i : Nat) (h : i ≤ 8) : (256 : Int) ^ i ≤ 18446744073709551616 := by
  match i, h with
  | 0, _ | 1, _ | 2, _ | 3, _ | 4, _ | 5, _ | 6, _ | 7, _ | 8, _ => decide
theorem numS_bound (l : List Int) (hb : Bytes l) : ∀ (v : Int) (i : Nat), 0 ≤ v → v < 256 ^ i → 0 ≤ numS l v ∧ numS l v < 256 ^ (i + l.length) := by
  induction l with
  | nil => intro v i h0 h1; exact ⟨h0, h1⟩
  | cons b l ih =>
    intro v i h0 h1
    have hb0 := hb b (by simp)
    have := ih (fun x hx => hb x (by simp [hx])) (v * 256 + b) (i + 1) (by omega) (by rw [pow_step]; omega)
    simpa [numS, Nat.add_comm, Nat.add_left_comm] using this
theorem get_loop (ys : List Int) (hb : Bytes ys) (h8 : ys.length ≤ 8) : ∀ (d k : Nat) (acc : Int) (i : Nat), i + d = ys.length → d < k → 0 ≤ acc → acc < 256 ^ i →
    be_Get.l0 k acc ys ys.length i = some (numS (ys.drop i) acc, 0) := by
  intro d
  induction d with
  | zero =>
    intro k acc i hi hk _ _
    obtain ⟨k, rfl⟩ : ∃ m, k = m + 1 := ⟨k - 1, by omega⟩
    simp only [be_Get.l0]
    rw [if_neg (by omega), List.drop_eq_nil_of_le (by omega)]
    rfl
  | succ d ih =>
    intro k acc i hi hk h0 h1
    obtain ⟨k, rfl⟩ : ∃ m, k = m + 1 := ⟨k - 1, by omega⟩
    have hlt : i < ys.length := by omega
    have hbi := hb.at i hlt
    have hp := pow_step i
    have hp8 := pow_le8 (i + 1) (by omega)
    simp only [be_Get.l0]
    rw [if_pos (by omega), if_pos (by omega), if_pos (by omega), rd_nat ys i hlt, or8_u64 h0 (by omega) hbi.1 hbi.2, w64_id (by omega) (by omega), show ((i : Int) + 1) = ((i + 1 : Nat) : Int) from by omega,
      ih k (acc * 256 + ys[i]) (i + 1) (by omega) (by omega) (by omega) (by omega)]
    rw [List.drop_eq_getElem_cons hlt]
    rfl
def fieldS (len a n : Int) : Int := if n < 1 ∨ 8 < n then 1 else if a < 0 ∨ len - n < a then 4 else 0
theorem field_ok (l : List Int) (a n : Int) (k : Nat) (hk : 0 < k) (hl : (l.length : Int) ≤ 140737488351232) : be_field.f k l a n = some (fieldS l.length a n) := by
  obtain ⟨k, rfl⟩ : ∃ m, k = m + 1 := ⟨k - 1, by omega⟩
  unfold be_field.f fieldS
  by_cases h1 : n < 1
  · rw [if_pos h1, if_pos (.inl h1)]
    simp [be_field.j0]
  · rw [if_neg h1]
    by_cases h8 : n > 8
    · rw [if_pos (.inr h8)]
      simp [be_field.j0, h8]
    · rw [if_neg (by omega)]
      have hd : decide (n > 8) = false := by simp; omega
      simp only [be_field.j0, hd]
      rw [if_neg (by decide)]
      by_cases ha : a < 0
      · rw [if_pos ha, if_pos (.inl ha)]
      · rw [if_neg ha, w64_id (by omega) (by omega)]
        by_cases hb : a > (l.length : Int) - n
        · rw [if_pos hb, if_pos (.inr hb)]
        · rw [if_neg hb, if_neg (by omega)]
theorem cut_length (l : List Int) (a n : Nat) (h : a + n ≤ l.length) : ((l.take (a + n)).drop a).length = n := by
  rw [List.length_drop, List.length_take]
  omega
theorem Bytes.cut {l : List Int} (hb : Bytes l) (a n : Nat) : Bytes ((l.take n).drop a) := fun x hx => hb x (List.mem_of_mem_take (List.mem_of_mem_drop hx))
/-- What be.Get answers. -/
theorem get_ok (l : List Int) (hb : Bytes l) (hl : (l.length : Int) ≤ 140737488351232) (a n : Int) (k : Nat) (hk : 9 < k) :
    be_Get.f k l a n = some (if fieldS l.length a n = 0 then (numS ((l.take (a.toNat + n.toNat)).drop a.toNat) 0, 0) else (0, fieldS l.length a n)) := by
  unfold be_Get.f
  rw [field_ok l a n k (by omega) hl]
  simp only [Option.bind_some]
  by_cases h : fieldS l.length a n = 0
  · rw [if_pos h, if_pos h]
    have h2 : 1 ≤ n ∧ n ≤ 8 ∧ 0 ≤ a ∧ a + n ≤ l.length := by
      unfold fieldS at h
      split at h
      · omega
      · split at h <;> omega
    obtain ⟨h1, h8, h0, hle⟩ := h2
    obtain ⟨a, rfl⟩ := Int.eq_ofNat_of_zero_le h0
    obtain ⟨n, rfl⟩ := Int.eq_ofNat_of_zero_le (show 0 ≤ n by omega)
    rw [w64_id (by omega) (by omega), if_pos h0, if_pos (by omega), if_pos hle]
    have ht : ((a : Int) + (n : Int)).toNat = a + n := by omega
    simp only [ht, Int.toNat_natCast]
    have hc := cut_length l a n (by omega)
    have := get_loop ((l.take (a + n)).drop a) (hb.cut a (a + n)) (by omega) n k 0 0 (by omega) (by omega) (by omega) (by decide)
    exact this
  · rw [if_neg h, if_neg h]
theorem awake_ok (k : Nat) (hk : 9 < k) : palletlaw01_awake.f k = some true := by
  unfold palletlaw01_awake.f
  rw [get_ok [1, 2] (by intro x hx; simp at hx; omega) (by decide) 0 2 k hk]
  decide

theorem u64_mod (n : Int) : IntKind.u64.wrap n = n % 18446744073709551616 := by simp [IntKind.wrap, IntKind.bits, IntKind.signed]
theorem meet_ok (a n b m : Int) (ha : 0 ≤ a ∧ a < 18446744073709551616) (hn : 0 ≤ n) (hb : 0 ≤ b ∧ b < 18446744073709551616) (hm : 0 ≤ m) :
    be_Meet.f a n b m = some (decide (0 < n ∧ 0 < m ∧ a < b + m ∧ b < a + n)) := by
  unfold be_Meet.f
  by_cases h : a > b
  · rw [if_pos h, u64_id (by omega) (by omega)]
    by_cases h2 : m > a - b
    · rw [if_pos h2]
      congr 1
      apply decide_eq_decide.mpr
      omega
    · rw [if_neg h2]
      have : ¬ (0 < n ∧ 0 < m ∧ a < b + m ∧ b < a + n) := by omega
      simp [this]
  · rw [if_neg h, u64_id (by omega) (by omega)]
    by_cases h2 : n > b - a
    · rw [if_pos h2]
      congr 1
      apply decide_eq_decide.mpr
      omega
    · rw [if_neg h2]
      have : ¬ (0 < n ∧ 0 < m ∧ a < b + m ∧ b < a + n) := by omega
      simp [this]
theorem meet_ref (a n b m : Int) (ha : 0 ≤ a ∧ a < 18446744073709551616) (hn : 0 ≤ n) (hb : 0 ≤ b ∧ b < 18446744073709551616) (hm : 0 ≤ m) :
    palletref01_Meet.f a n b m = some (decide (0 < n ∧ 0 < m ∧ a < b + m ∧ b < a + n)) := by
  unfold palletref01_Meet.f
  by_cases h1 : n = 0
  · rw [if_pos h1]
    have : ¬ (0 < n ∧ 0 < m ∧ a < b + m ∧ b < a + n) := by omega
    simp [this]
  rw [if_neg h1]
  by_cases h2 : m = 0
  · rw [if_pos h2]
    have : ¬ (0 < n ∧ 0 < m ∧ a < b + m ∧ b < a + n) := by omega
    simp [this]
  rw [if_neg h2]
  by_cases h3 : a ≥ b
  · rw [if_pos h3, u64_id (by omega) (by omega)]
    by_cases h4 : a - b < m
    · rw [if_pos h4]
      have : (0 < n ∧ 0 < m ∧ a < b + m ∧ b < a + n) := by omega
      simp [this]
    · rw [if_neg h4]
      have h5 : ¬ (0 < n ∧ 0 < m ∧ a < b + m ∧ b < a + n) := by omega
      by_cases h6 : b ≥ a
      · rw [if_pos h6, u64_id (by omega) (by omega)]
        congr 1
        apply decide_eq_decide.mpr
        omega
      · rw [if_neg h6]
        simp [h5]
  · rw [if_neg h3, if_pos (by omega), u64_id (by omega) (by omega)]
    congr 1
    apply decide_eq_decide.mpr
    omega
theorem BeRanges : palletlaw01_BeRanges.Pure := by
  intro a n b m ha hn hb hm
  obtain ⟨a0, a1⟩ := u64_of_wf ha
  obtain ⟨n0, n1⟩ := u64_of_wf hn
  obtain ⟨b0, b1⟩ := u64_of_wf hb
  obtain ⟨m0, m1⟩ := u64_of_wf hm
  have hw : be_Within.f a n b = some (decide (a + n ≤ b)) := by
    unfold be_Within.f
    by_cases h : a ≤ b
    · rw [if_pos h, u64_id (by omega) (by omega)]
      congr 1
      apply decide_eq_decide.mpr
      omega
    · rw [if_neg h]
      have : ¬ (a + n ≤ b) := by omega
      simp [this]
  have hv : palletref01_Within.f a n b = some (decide (a + n ≤ b)) := by
    unfold palletref01_Within.f
    rw [u64_mod]
    by_cases h : (a + n) % 18446744073709551616 ≥ a
    · rw [if_pos h]
      congr 1
      apply decide_eq_decide.mpr
      omega
    · rw [if_neg h]
      have : ¬ (a + n ≤ b) := by omega
      simp [this]
  have h1 := meet_ok a n b m ⟨a0, a1⟩ n0 ⟨b0, b1⟩ m0
  have h2 := meet_ref a n b m ⟨a0, a1⟩ n0 ⟨b0, b1⟩ m0
  have h3 := meet_ok b m a n ⟨b0, b1⟩ m0 ⟨a0, a1⟩ n0
  have h4 : decide (0 < m ∧ 0 < n ∧ b < a + n ∧ a < b + m) = decide (0 < n ∧ 0 < m ∧ a < b + m ∧ b < a + n) := by
    apply decide_eq_decide.mpr
    omega
  refine ⟨10, ?_⟩
  unfold palletlaw01_BeRanges.f
  rw [awake_ok 10 (by omega), hw, hv, h1, h2, h3, h4]
  simp

end Go.Proofs.Ytgnfeeddapiihaa.Pure
