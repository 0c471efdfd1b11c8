/- be.Odd answers as the document's Odd does, of any bytes under any mask: no condition. -/
import Derived.Test.YtgnfeeddapiihaaPBeOddsx2
set_option linter.unusedVariables false
set_option linter.unusedSimpArgs false
namespace Go.Proofs.Ytgnfeeddapiihaa.Pure
open Go.RowKit Go.Proofs.Ytgnfeeddapiihaa.PBeOdds Go.Proofs.YtgnfeeddapiihaaW.PrintWords Go.Proofs.YtgnfeeddapiihaaW.PrintLast Go.Proofs.YtgnfeeddapiihaaW.PrintMore

theorem u64_id {n : Int} (h0 : 0 ≤ n) (h1 : n < 18446744073709551616) : IntKind.u64.wrap n = n := by
  rw [show IntKind.u64.wrap n = n % 18446744073709551616 from by simp [IntKind.wrap, IntKind.bits, IntKind.signed]]
  omega
theorem w64_id {n : Int} (h0 : -9223372036854775808 ≤ n) (h1 : n ≤ 9223372036854775807) : wrap64 n = n := by
  unfold wrap64
  omega
theorem or8_u64 {x y : Int} (hx0 : 0 ≤ x) (hx1 : x * 256 < 18446744073709551616) (hy0 : 0 ≤ y) (hy1 : y ≤ 255) :
    Go.bits .or .u64 (IntKind.u64.wrap (x * 256)) (IntKind.u64.wrap y) = x * 256 + y := by
  rw [u64_id (by omega) hx1, u64_id hy0 (by omega)]
  exact bits_join .u64 64 (by decide) (fun n h0 h1 => u64_id h0 (by simpa using h1)) 8 (x * 256) y (by omega) (by omega) (by simpa using hx1) hy0 (by omega) (by omega)
/-- The number that bytes are. -/
def numS (l : List Int) (v : Int) : Int := l.foldl (fun v b => v * 256 + b) v
def Bytes (l : List Int) : Prop := ∀ x ∈ l, 0 ≤ x ∧ x ≤ 255
theorem bytes_of_wf {l : List Int} (h : ∀ x ∈ l, (Lit.int .u8 x).wf = true) : Bytes l := by
  intro x hx
  have := h x hx
  simp [Lit.wf, IntKind.min, IntKind.max, IntKind.signed, IntKind.bits] at this
  omega
theorem i64_of_wf {x : Int} (h : (Lit.int .i64 x).wf = true) : -9223372036854775808 ≤ x ∧ x ≤ 9223372036854775807 := by
  simp [Lit.wf, IntKind.min, IntKind.max, IntKind.signed, IntKind.bits] at h
  omega
theorem u64_of_wf {x : Int} (h : (Lit.int .u64 x).wf = true) : 0 ≤ x ∧ x < 18446744073709551616 := by
  simp [Lit.wf, IntKind.min, IntKind.max, IntKind.signed, IntKind.bits] at h
  omega
theorem rd_nat (l : List Int) (i : Nat) (h : i < l.length) : rd l (i : Int) = l[i] := by
  simp [rd, h]
theorem Bytes.at {l : List Int} (hb : Bytes l) (i : Nat) (h : i < l.length) : 0 ≤ l[i] ∧ l[i] ≤ 255 := hb _ (List.getElem_mem h)
theorem pow_step (i : Nat) : (256 : Int) ^ (i + 1) = 256 ^ i * 256 := by rw [Int.pow_succ]
theorem pow_le8 (i : Nat) (h : i ≤ 8) : (256 : Int) ^ i ≤ 18446744073709551616 := by
  match i, h with
  | 0, _ | 1, _ | 2, _ | 3, _ | 4, _ | 5, _ | 6, _ | 7, _ | 8, _ => decide
theorem numS_bound (l : List Int) (hb : Bytes l) : ∀ (v : Int) (i : Nat), 0 ≤ v → v < 256 ^ i → 0 ≤ numS l v ∧ numS l v < 256 ^ (i + l.length) := by
  induction l with
  | nil => intro v i h0 h1; exact ⟨h0, h1⟩
  | cons b l ih =>
    intro v i h0 h1
    have hb0 := hb b (by simp)
    have := ih (fun x hx => hb x (by simp [hx])) (v * 256 + b) (i + 1) (by omega) (by rw [pow_step]; omega)
    simpa [numS, Nat.add_comm, Nat.add_left_comm] using this
theorem get_loop (ys : List Int) (hb : Bytes ys) (h8 : ys.length ≤ 8) : ∀ (d k : Nat) (acc : Int) (i : Nat), i + d = ys.length → d < k → 0 ≤ acc → acc < 256 ^ i →
    be_Get.l0 k acc ys ys.length i = some (numS (ys.drop i) acc, 0) := by
  intro d
  induction d with
  | zero =>
    intro k acc i hi hk _ _
    obtain ⟨k, rfl⟩ : ∃ m, k = m + 1 := ⟨k - 1, by omega⟩
    simp only [be_Get.l0]
    rw [if_neg (by omega), List.drop_eq_nil_of_le (by omega)]
    rfl
  | succ d ih =>
    intro k acc i hi hk h0 h1
    obtain ⟨k, rfl⟩ : ∃ m, k = m + 1 := ⟨k - 1, by omega⟩
    have hlt : i < ys.length := by omega
    have hbi := hb.at i hlt
    have hp := pow_step i
    have hp8 := pow_le8 (i + 1) (by omega)
    simp only [be_Get.l0]
    rw [if_pos (by omega), if_pos (by omega), if_pos (by omega), rd_nat ys i hlt, or8_u64 h0 (by omega) hbi.1 hbi.2, w64_id (by omega) (by omega), show ((i : Int) + 1) = ((i + 1 : Nat) : Int) from by omega,
      ih k (acc * 256 + ys[i]) (i + 1) (by omega) (by omega) (by omega) (by omega)]
    rw [List.drop_eq_getElem_cons hlt]
    rfl
def fieldS (len a n : Int) : Int := if n < 1 ∨ 8 < n then 1 else if a < 0 ∨ len - n < a then 4 else 0
theorem field_ok (l : List Int) (a n : Int) (k : Nat) (hk : 0 < k) (hl : (l.length : Int) ≤ 140737488351232) : be_field.f k l a n = some (fieldS l.length a n) := by
  obtain ⟨k, rfl⟩ : ∃ m, k = m + 1 := ⟨k - 1, by omega⟩
  unfold be_field.f fieldS
  by_cases h1 : n < 1
  · rw [if_pos h1, if_pos (.inl h1)]
    simp [be_field.j0]
  · rw [if_neg h1]
    by_cases h8 : n > 8
    · rw [if_pos (.inr h8)]
      simp [be_field.j0, h8]
    · rw [if_neg (by omega)]
      have hd : decide (n > 8) = false := by simp; omega
      simp only [be_field.j0, hd]
      rw [if_neg (by decide)]
      by_cases ha : a < 0
      · rw [if_pos ha, if_pos (.inl ha)]
      · rw [if_neg ha, w64_id (by omega) (by omega)]
        by_cases hb : a > (l.length : Int) - n
        · rw [if_pos hb, if_pos (.inr hb)]
        · rw [if_neg hb, if_neg (by omega)]
theorem cut_length (l : List Int) (a n : Nat) (h : a + n ≤ l.length) : ((l.take (a + n)).drop a).length = n := by
  rw [List.length_drop, List.length_take]
  omega
theorem Bytes.cut {l : List Int} (hb : Bytes l) (a n : Nat) : Bytes ((l.take n).drop a) := fun x hx => hb x (List.mem_of_mem_take (List.mem_of_mem_drop hx))
/-- What be.Get answers. -/
theorem get_ok (l : List Int) (hb : Bytes l) (hl : (l.length : Int) ≤ 140737488351232) (a n : Int) (k : Nat) (hk : 9 < k) :
    be_Get.f k l a n = some (if fieldS l.length a n = 0 then (numS ((l.take (a.toNat + n.toNat)).drop a.toNat) 0, 0) else (0, fieldS l.length a n)) := by
  unfold be_Get.f
  rw [field_ok l a n k (by omega) hl]
  simp only [Option.bind_some]
  by_cases h : fieldS l.length a n = 0
  · rw [if_pos h, if_pos h]
    have h2 : 1 ≤ n ∧ n ≤ 8 ∧ 0 ≤ a ∧ a + n ≤ l.length := by
      unfold fieldS at h
      split at h
      · omega
      · split at h <;> omega
    obtain ⟨h1, h8, h0, hle⟩ := h2
    obtain ⟨a, rfl⟩ := Int.eq_ofNat_of_zero_le h0
    obtain ⟨n, rfl⟩ := Int.eq_ofNat_of_zero_le (show 0 ≤ n by omega)
    rw [w64_id (by omega) (by omega), if_pos h0, if_pos (by omega), if_pos hle]
    have ht : ((a : Int) + (n : Int)).toNat = a + n := by omega
    simp only [ht, Int.toNat_natCast]
    have hc := cut_length l a n (by omega)
    have := get_loop ((l.take (a + n)).drop a) (hb.cut a (a + n)) (by omega) n k 0 0 (by omega) (by omega) (by omega) (by decide)
    exact this
  · rw [if_neg h, if_neg h]
theorem awake_ok (k : Nat) (hk : 9 < k) : palletlaw01_awake.f k = some true := by
  unfold palletlaw01_awake.f
  rw [get_ok [1, 2] (by intro x hx; simp at hx; omega) (by decide) 0 2 k hk]
  decide

theorem shr_pow (p : Nat) (i : Nat) (hi : i < 8) : shr .u8 (p : Int) (i : Int) = ((p / 2 ^ i : Nat) : Int) := by
  have : min (i : Int).toNat (IntKind.bits .u8) = i := by simp [IntKind.bits]; omega
  unfold shr
  rw [this]
  simp
theorem shl_pow (i : Nat) (hi : i < 8) : shl .u8 1 (i : Int) = ((2 ^ i : Nat) : Int) := by
  match i, hi with
  | 0, _ | 1, _ | 2, _ | 3, _ | 4, _ | 5, _ | 6, _ | 7, _ => decide
theorem u8_wraps (n : Int) (h0 : 0 ≤ n) (h1 : n < 2 ^ 8) : IntKind.u8.wrap n = n := wraps_u8 n h0 h1
theorem and_u8 (a b : Nat) (ha : a < 256) (hb : b < 256) : Go.bits .and .u8 (a : Int) (b : Int) = ((a &&& b : Nat) : Int) := (bits_nat .u8 8 (by decide) u8_wraps a b ha hb).1
theorem andNot_u8 (a b : Nat) (ha : a < 256) (hb : b < 256) : ∃ c : Nat, Go.bits .andNot .u8 (a : Int) (b : Int) = (c : Int) ∧ c < 256 ∧ ∀ i, i < 8 → c.testBit i = (a.testBit i && !b.testBit i) := by
  refine ⟨((BitVec.ofInt 8 a) &&& ~~~(BitVec.ofInt 8 b)).toNat, ?_, ?_, ?_⟩
  · have h : ((BitVec.ofInt 8 a) &&& ~~~(BitVec.ofInt 8 b)).toNat < 256 := ((BitVec.ofInt 8 a) &&& ~~~(BitVec.ofInt 8 b)).isLt
    show IntKind.u8.wrap _ = _
    rw [u8_wraps _ (by exact Int.natCast_nonneg _) (by exact_mod_cast h)]
    rfl
  · exact ((BitVec.ofInt 8 a) &&& ~~~(BitVec.ofInt 8 b)).isLt
  · intro i hi
    rw [BitVec.testBit_toNat, BitVec.getLsbD_and, BitVec.getLsbD_not, BitVec.ofInt_natCast, BitVec.ofInt_natCast, BitVec.getLsbD_ofNat, BitVec.getLsbD_ofNat]
    simp [hi]
/-- The highest of the first j bits that is told. -/
def scan (t : Nat → Bool) : Nat → Option Nat
  | 0 => none
  | j + 1 => if t j = true then some j else scan t j
def oddS (t : Nat → Nat → Bool) (n : Nat) : Nat → Int × Int
  | 0 => (-1, -1)
  | d + 1 => match scan (t (n - (d + 1))) 8 with
    | some b => (((n - (d + 1) : Nat) : Int), (b : Int))
    | none => oddS t n d
theorem and_one (c b : Nat) (hc : c < 256) (hb : b < 8) : (Go.bits .and .u8 (shr .u8 (c : Int) (b : Int)) 1 = 1) ↔ c.testBit b = true := by
  rw [shr_pow c b hb, show (1 : Int) = ((1 : Nat) : Int) from rfl, and_u8 _ _ (Nat.lt_of_le_of_lt (Nat.div_le_self _ _) hc) (by decide), Nat.testBit_eq_decide_div_mod_eq, Nat.and_one_is_mod]
  simp only [decide_eq_true_eq]
  omega
theorem and_pow (c b : Nat) (hc : c < 256) (hb : b < 8) : (Go.bits .and .u8 (c : Int) (shl .u8 1 (b : Int)) = 0) ↔ c.testBit b = false := by
  have hp : 2 ^ b < 256 := by
    match b, hb with
    | 0, _ | 1, _ | 2, _ | 3, _ | 4, _ | 5, _ | 6, _ | 7, _ => decide
  rw [shl_pow b hb, and_u8 _ _ hc hp]
  constructor
  · intro h
    have h1 : c &&& 2 ^ b = 0 := by exact_mod_cast h
    have h2 := congrArg (fun n => n.testBit b) h1
    simpa [Nat.testBit_and, Nat.testBit_two_pow_self] using h2
  · intro h
    have h1 : c &&& 2 ^ b = 0 := by
      apply Nat.eq_of_testBit_eq
      intro i
      rw [Nat.testBit_and, Nat.testBit_two_pow, Nat.zero_testBit]
      by_cases hi : b = i
      · subst hi
        simp [h]
      · simp [hi]
    exact_mod_cast h1
theorem be_bits (x1 x9 : List Int) (n i c : Nat) (hc : c < 256) (hi : (i : Int) ≤ 140737488351232) (M : Nat) (R : Int × Int) (hl0 : ∀ k, M < k → be_Odd.l0 k x1 x9 n (wrap64 ((i : Int) + 1)) = some R) :
    ∀ (j k : Nat), j ≤ 8 → M + j + 1 < k → be_Odd.l1 k x1 i c ((j : Int) - 1) x9 n i = some (match scan c.testBit j with | some b => ((i : Int), (b : Int)) | none => R) := by
  intro j
  induction j with
  | zero =>
    intro k hj hk
    obtain ⟨k, rfl⟩ : ∃ m, k = m + 1 := ⟨k - 1, by omega⟩
    simp only [be_Odd.l1]
    rw [if_neg (by omega)]
    exact hl0 k (by omega)
  | succ j ih =>
    intro k hj hk
    obtain ⟨k, rfl⟩ : ∃ m, k = m + 1 := ⟨k - 1, by omega⟩
    simp only [be_Odd.l1]
    rw [show (((j + 1 : Nat) : Int) - 1) = (j : Int) from by omega, if_pos (by omega), if_pos (by omega)]
    by_cases ht : c.testBit j = true
    · rw [if_pos ((and_one c j hc (by omega)).mpr ht)]
      simp [scan, ht]
    · rw [if_neg (fun h => ht ((and_one c j hc (by omega)).mp h)), w64_id (by omega) (by omega), ih k (by omega) (by omega)]
      simp [scan, ht]
/-- The bits that are asked for: set in p, not in the mask. -/
def tS (p m : List Int) (i b : Nat) : Bool := (p.getD i 0).toNat.testBit b && !(m.getD i 0).toNat.testBit b
theorem scan_congr {t u : Nat → Bool} : ∀ j, (∀ b, b < j → t b = u b) → scan t j = scan u j
  | 0, _ => rfl
  | j + 1, h => by
    have h1 := h j (by omega)
    have h2 := scan_congr j (fun b hb => h b (by omega))
    simp only [scan, h1, h2]
theorem be_all (p m : List Int) (hp : Bytes p) (hm : Bytes m) (hl : (p.length : Int) ≤ 140737488351232) : ∀ (d k : Nat), d ≤ p.length → 12 * d < k → be_Odd.l0 k m p p.length ((p.length - d : Nat) : Int) = some (oddS (tS p m) p.length d) := by
  intro d
  induction d with
  | zero =>
    intro k hd hk
    obtain ⟨k, rfl⟩ : ∃ q, k = q + 1 := ⟨k - 1, by omega⟩
    simp only [be_Odd.l0]
    rw [if_neg (by omega)]
    rfl
  | succ d ih =>
    intro k hd hk
    obtain ⟨k, rfl⟩ : ∃ q, k = q + 1 := ⟨k - 1, by omega⟩
    obtain ⟨i, hi⟩ : ∃ i, i = p.length - (d + 1) := ⟨_, rfl⟩
    have hlt : i < p.length := by omega
    have hpi := hp.at i hlt
    have next : ∀ k, 12 * d < k → be_Odd.l0 k m p p.length (wrap64 ((i : Int) + 1)) = some (oddS (tS p m) p.length d) := fun k hk => by
      rw [w64_id (by omega) (by omega), show ((i : Int) + 1) = ((p.length - d : Nat) : Int) from by omega]
      exact ih k (by omega) hk
    have key : ∀ c : Nat, c < 256 → (∀ b, b < 8 → c.testBit b = tS p m i b) → ∀ k, 12 * d + 11 < k → be_Odd.j1 k m i c p p.length i = some (oddS (tS p m) p.length (d + 1)) := fun c hc ht k hk => by
      obtain ⟨k, rfl⟩ : ∃ q, k = q + 1 := ⟨k - 1, by omega⟩
      simp only [be_Odd.j1]
      have := be_bits m p p.length i c hc (by omega) (12 * d) _ next 8 k (by omega) (by omega)
      rw [show (((8 : Nat) : Int) - 1) = 7 from rfl] at this
      rw [this, scan_congr 8 ht]
      simp only [oddS, ← hi]
    simp only [be_Odd.l0]
    rw [← hi, if_pos (by omega), if_pos (by omega), if_pos (by omega), rd_nat p i hlt]
    obtain ⟨c, hc⟩ := Int.eq_ofNat_of_zero_le hpi.1
    have hg : p.getD i 0 = (c : Int) := by simp [hlt, hc]
    rw [hc]
    by_cases hmi : i < m.length
    · rw [if_pos (by omega), rd_nat m i hmi]
      have hmb := hm.at i hmi
      obtain ⟨u, hu⟩ := Int.eq_ofNat_of_zero_le hmb.1
      have hgu : m.getD i 0 = (u : Int) := by simp [hmi, hu]
      rw [hu]
      obtain ⟨q, hq, hq1, hq2⟩ := andNot_u8 c u (by omega) (by omega)
      rw [hq]
      exact key q hq1 (fun b hb => by rw [hq2 b hb]; unfold tS; rw [hg, hgu]; rfl) k (by omega)
    · rw [if_neg (by omega)]
      have hgu : m.getD i 0 = 0 := by simp [List.getD_eq_getElem?_getD, List.getElem?_eq_none (show m.length ≤ i by omega)]
      exact key c (by omega) (fun b hb => by unfold tS; rw [hg, hgu]; simp) k (by omega)
theorem ref_bits (x0 x1 : List Int) (i c u : Nat) (hx : rd x0 i = (c : Int)) (hlt : i < x0.length) (hc : c < 256) (hu : u < 256) (hi : (i : Int) ≤ 140737488351232) (M : Nat) (R : Int × Int) (hl0 : ∀ k, M < k → palletref01_Odd.l0 k x0 x1 (wrap64 ((i : Int) + 1)) = some R) :
    ∀ (j k : Nat), j ≤ 8 → M + j + 1 < k → palletref01_Odd.l1 k x0 x1 i u ((j : Int) - 1) = some (match scan (fun b => c.testBit b && !u.testBit b) j with | some b => ((i : Int), (b : Int)) | none => R) := by
  intro j
  induction j with
  | zero =>
    intro k hj hk
    obtain ⟨k, rfl⟩ : ∃ m, k = m + 1 := ⟨k - 1, by omega⟩
    simp only [palletref01_Odd.l1]
    rw [if_neg (by omega)]
    exact hl0 k (by omega)
  | succ j ih =>
    intro k hj hk
    obtain ⟨k, rfl⟩ : ∃ m, k = m + 1 := ⟨k - 1, by omega⟩
    simp only [palletref01_Odd.l1]
    rw [show (((j + 1 : Nat) : Int) - 1) = (j : Int) from by omega, if_pos (by omega), if_pos (by omega), if_pos (by omega), if_pos (by omega), hx, w64_id (by omega) (by omega), ih k (by omega) (by omega)]
    by_cases ht : c.testBit j = true
    · rw [if_neg (fun h => by rw [(and_pow c j hc (by omega)).mp h] at ht; cases ht)]
      by_cases hv : u.testBit j = true
      · rw [if_neg (fun h => by rw [(and_pow u j hu (by omega)).mp h] at hv; cases hv)]
        simp [scan, ht, hv]
      · rw [if_pos ((and_pow u j hu (by omega)).mpr (by simpa using hv))]
        simp [scan, ht, hv]
    · rw [if_pos ((and_pow c j hc (by omega)).mpr (by simpa using ht))]
      simp [scan, ht]
theorem ref_all (p m : List Int) (hp : Bytes p) (hm : Bytes m) (hl : (p.length : Int) ≤ 140737488351232) : ∀ (d k : Nat), d ≤ p.length → 12 * d < k → palletref01_Odd.l0 k p m ((p.length - d : Nat) : Int) = some (oddS (tS p m) p.length d) := by
  intro d
  induction d with
  | zero =>
    intro k hd hk
    obtain ⟨k, rfl⟩ : ∃ q, k = q + 1 := ⟨k - 1, by omega⟩
    simp only [palletref01_Odd.l0]
    rw [if_neg (by omega)]
    rfl
  | succ d ih =>
    intro k hd hk
    obtain ⟨k, rfl⟩ : ∃ q, k = q + 1 := ⟨k - 1, by omega⟩
    obtain ⟨i, hi⟩ : ∃ i, i = p.length - (d + 1) := ⟨_, rfl⟩
    have hlt : i < p.length := by omega
    have hpi := hp.at i hlt
    have next : ∀ k, 12 * d < k → palletref01_Odd.l0 k p m (wrap64 ((i : Int) + 1)) = some (oddS (tS p m) p.length d) := fun k hk => by
      rw [w64_id (by omega) (by omega), show ((i : Int) + 1) = ((p.length - d : Nat) : Int) from by omega]
      exact ih k (by omega) hk
    obtain ⟨c, hc⟩ := Int.eq_ofNat_of_zero_le hpi.1
    have hg : p.getD i 0 = (c : Int) := by simp [hlt, hc]
    have hr : rd p i = (c : Int) := by rw [rd_nat p i hlt, hc]
    have key : ∀ u : Nat, u < 256 → m.getD i 0 = (u : Int) → ∀ k, 12 * d + 11 < k → palletref01_Odd.j1 k p m i u = some (oddS (tS p m) p.length (d + 1)) := fun u hu hgu k hk => by
      obtain ⟨k, rfl⟩ : ∃ q, k = q + 1 := ⟨k - 1, by omega⟩
      simp only [palletref01_Odd.j1]
      have := ref_bits p m i c u hr hlt (by omega) hu (by omega) (12 * d) _ next 8 k (by omega) (by omega)
      rw [show (((8 : Nat) : Int) - 1) = 7 from rfl] at this
      have ht : ∀ b, b < 8 → (fun b => c.testBit b && !u.testBit b) b = tS p m i b := fun b _ => by unfold tS; rw [hg, hgu]; rfl
      rw [this, scan_congr 8 ht]
      simp only [oddS, ← hi]
    simp only [palletref01_Odd.l0]
    rw [← hi, if_pos (by omega)]
    by_cases hmi : i < m.length
    · have hmb := hm.at i hmi
      obtain ⟨u, hu⟩ := Int.eq_ofNat_of_zero_le hmb.1
      rw [if_pos (by omega), if_pos (by omega), rd_nat m i hmi, hu]
      exact key u (by omega) (by simp [hmi, hu]) k (by omega)
    · rw [if_neg (by omega)]
      exact key 0 (by omega) (by simp [List.getD_eq_getElem?_getD, List.getElem?_eq_none (show m.length ≤ i by omega)]) k (by omega)
theorem BeOdds : palletlaw01_BeOdds.Pure := by
  intro p m _ hp hwp _ hm hwm
  refine ⟨12 * p.length + 13, ?_⟩
  unfold palletlaw01_BeOdds.f be_Odd.f palletref01_Odd.f
  have h1 := be_all p m (bytes_of_wf hwp) (bytes_of_wf hwm) (by omega) p.length (12 * p.length + 13) (by omega) (by omega)
  have h2 := ref_all p m (bytes_of_wf hwp) (bytes_of_wf hwm) (by omega) p.length (12 * p.length + 13) (by omega) (by omega)
  rw [Nat.sub_self] at h1 h2
  rw [awake_ok _ (by omega)]
  simp only [Option.bind_some, if_true]
  rw [show (0 : Int) = ((0 : Nat) : Int) from rfl, h1, h2]
  simp

end Go.Proofs.Ytgnfeeddapiihaa.Pure
