/- be.Put answers as the document's Put does, of any bytes, at any place, for any number of bytes and any value, and what was handed in stays: no condition. -/
import Derived.Test.YtgnfeeddapiihaaPBePutsx2
set_option linter.unusedVariables false
set_option linter.unusedSimpArgs false
namespace Go.Proofs.Ytgnfeeddapiihaa.Pure
open Go.RowKit Go.Proofs.Ytgnfeeddapiihaa.PBePuts Go.Proofs.YtgnfeeddapiihaaW.PrintWords Go.Proofs.YtgnfeeddapiihaaW.PrintLast Go.Proofs.YtgnfeeddapiihaaW.PrintMore

theorem u64_id {n : Int} (h0 : 0 ≤ n) (h1 : n < 18446744073709551616) : IntKind.u64.wrap n = n := by
  rw [show IntKind.u64.wrap n = n % 18446744073709551616 from by simp [IntKind.wrap, IntKind.bits, IntKind.signed]]
  omega
theorem w64_id {n : Int} (h0 : -9223372036854775808 ≤ n) (h1 : n ≤ 9223372036854775807) : wrap64 n = n := by
  unfold wrap64
  omega
theorem or8_u64 {x y : Int} (hx0 : 0 ≤ x) (hx1 : x * 256 < 18446744073709551616) (hy0 : 0 ≤ y) (hy1 : y ≤ 255) :
    Go.bits .or .u64 (IntKind.u64.wrap (x * 256)) (IntKind.u64.wrap y) = x * 256 + y := by
  rw [u64_id (by omega) hx1, u64_id hy0 (by omega)]
  exact bits_join .u64 64 (by decide) (fun n h0 h1 => u64_id h0 (by simpa using h1)) 8 (x * 256) y (by omega) (by omega) (by simpa using hx1) hy0 (by omega) (by omega)
/-- The number that bytes are. -/
def numS (l : List Int) (v : Int) : Int := l.foldl (fun v b => v * 256 + b) v
def Bytes (l : List Int) : Prop := ∀ x ∈ l, 0 ≤ x ∧ x ≤ 255
theorem bytes_of_wf {l : List Int} (h : ∀ x ∈ l, (Lit.int .u8 x).wf = true) : Bytes l := by
  intro x hx
  have := h x hx
  simp [Lit.wf, IntKind.min, IntKind.max, IntKind.signed, IntKind.bits] at this
  omega
theorem i64_of_wf {x : Int} (h : (Lit.int .i64 x).wf = true) : -9223372036854775808 ≤ x ∧ x ≤ 9223372036854775807 := by
  simp [Lit.wf, IntKind.min, IntKind.max, IntKind.signed, IntKind.bits] at h
  omega
theorem u64_of_wf {x : Int} (h : (Lit.int .u64 x).wf = true) : 0 ≤ x ∧ x < 18446744073709551616 := by
  simp [Lit.wf, IntKind.min, IntKind.max, IntKind.signed, IntKind.bits] at h
  omega
theorem rd_nat (l : List Int) (i : Nat) (h : i < l.length) : rd l (i : Int) = l[i] := by
  simp [rd, h]
theorem Bytes.at {l : List Int} (hb : Bytes l) (i : Nat) (h : i < l.length) : 0 ≤ l[i] ∧ l[i] ≤ 255 := hb _ (List.getElem_mem h)
theorem pow_step (i : Nat) : (256 : Int) ^ (i + 1) = 256 ^ i * 256 := by rw [Int.pow_succ]
theorem pow_le8 (i : Nat) (h : i ≤ 8) : (256 : Int) ^ i ≤ 18446744073709551616 := by
  match i, h with
  | 0, _ | 1, _ | 2, _ | 3, _ | 4, _ | 5, _ | 6, _ | 7, _ | 8, _ => decide
theorem numS_bound (l : List Int) (hb : Bytes l) : ∀ (v : Int) (i : Nat), 0 ≤ v → v < 256 ^ i → 0 ≤ numS l v ∧ numS l v < 256 ^ (i + l.length) := by
  induction l with
  | nil => intro v i h0 h1; exact ⟨h0, h1⟩
  | cons b l ih =>
    intro v i h0 h1
    have hb0 := hb b (by simp)
    have := ih (fun x hx => hb x (by simp [hx])) (v * 256 + b) (i + 1) (by omega) (by rw [pow_step]; omega)
    simpa [numS, Nat.add_comm, Nat.add_left_comm] using this
theorem get_loop (ys : List Int) (hb : Bytes ys) (h8 : ys.length ≤ 8) : ∀ (d k : Nat) (acc : Int) (i : Nat), i + d = ys.length → d < k → 0 ≤ acc → acc < 256 ^ i →
    be_Get.l0 k acc ys ys.length i = some (numS (ys.drop i) acc, 0) := by
  intro d
  induction d with
  | zero =>
    intro k acc i hi hk _ _
    obtain ⟨k, rfl⟩ : ∃ m, k = m + 1 := ⟨k - 1, by omega⟩
    simp only [be_Get.l0]
    rw [if_neg (by omega), List.drop_eq_nil_of_le (by omega)]
    rfl
  | succ d ih =>
    intro k acc i hi hk h0 h1
    obtain ⟨k, rfl⟩ : ∃ m, k = m + 1 := ⟨k - 1, by omega⟩
    have hlt : i < ys.length := by omega
    have hbi := hb.at i hlt
    have hp := pow_step i
    have hp8 := pow_le8 (i + 1) (by omega)
    simp only [be_Get.l0]
    rw [if_pos (by omega), if_pos (by omega), if_pos (by omega), rd_nat ys i hlt, or8_u64 h0 (by omega) hbi.1 hbi.2, w64_id (by omega) (by omega), show ((i : Int) + 1) = ((i + 1 : Nat) : Int) from by omega,
      ih k (acc * 256 + ys[i]) (i + 1) (by omega) (by omega) (by omega) (by omega)]
    rw [List.drop_eq_getElem_cons hlt]
    rfl
def fieldS (len a n : Int) : Int := if n < 1 ∨ 8 < n then 1 else if a < 0 ∨ len - n < a then 4 else 0
theorem field_ok (l : List Int) (a n : Int) (k : Nat) (hk : 0 < k) (hl : (l.length : Int) ≤ 140737488351232) : be_field.f k l a n = some (fieldS l.length a n) := by
  obtain ⟨k, rfl⟩ : ∃ m, k = m + 1 := ⟨k - 1, by omega⟩
  unfold be_field.f fieldS
  by_cases h1 : n < 1
  · rw [if_pos h1, if_pos (.inl h1)]
    simp [be_field.j0]
  · rw [if_neg h1]
    by_cases h8 : n > 8
    · rw [if_pos (.inr h8)]
      simp [be_field.j0, h8]
    · rw [if_neg (by omega)]
      have hd : decide (n > 8) = false := by simp; omega
      simp only [be_field.j0, hd]
      rw [if_neg (by decide)]
      by_cases ha : a < 0
      · rw [if_pos ha, if_pos (.inl ha)]
      · rw [if_neg ha, w64_id (by omega) (by omega)]
        by_cases hb : a > (l.length : Int) - n
        · rw [if_pos hb, if_pos (.inr hb)]
        · rw [if_neg hb, if_neg (by omega)]
theorem cut_length (l : List Int) (a n : Nat) (h : a + n ≤ l.length) : ((l.take (a + n)).drop a).length = n := by
  rw [List.length_drop, List.length_take]
  omega
theorem Bytes.cut {l : List Int} (hb : Bytes l) (a n : Nat) : Bytes ((l.take n).drop a) := fun x hx => hb x (List.mem_of_mem_take (List.mem_of_mem_drop hx))
/-- What be.Get answers. -/
theorem get_ok (l : List Int) (hb : Bytes l) (hl : (l.length : Int) ≤ 140737488351232) (a n : Int) (k : Nat) (hk : 9 < k) :
    be_Get.f k l a n = some (if fieldS l.length a n = 0 then (numS ((l.take (a.toNat + n.toNat)).drop a.toNat) 0, 0) else (0, fieldS l.length a n)) := by
  unfold be_Get.f
  rw [field_ok l a n k (by omega) hl]
  simp only [Option.bind_some]
  by_cases h : fieldS l.length a n = 0
  · rw [if_pos h, if_pos h]
    have h2 : 1 ≤ n ∧ n ≤ 8 ∧ 0 ≤ a ∧ a + n ≤ l.length := by
      unfold fieldS at h
      split at h
      · omega
      · split at h <;> omega
    obtain ⟨h1, h8, h0, hle⟩ := h2
    obtain ⟨a, rfl⟩ := Int.eq_ofNat_of_zero_le h0
    obtain ⟨n, rfl⟩ := Int.eq_ofNat_of_zero_le (show 0 ≤ n by omega)
    rw [w64_id (by omega) (by omega), if_pos h0, if_pos (by omega), if_pos hle]
    have ht : ((a : Int) + (n : Int)).toNat = a + n := by omega
    simp only [ht, Int.toNat_natCast]
    have hc := cut_length l a n (by omega)
    have := get_loop ((l.take (a + n)).drop a) (hb.cut a (a + n)) (by omega) n k 0 0 (by omega) (by omega) (by omega) (by decide)
    exact this
  · rw [if_neg h, if_neg h]
theorem awake_ok (k : Nat) (hk : 9 < k) : palletlaw01_awake.f k = some true := by
  unfold palletlaw01_awake.f
  rw [get_ok [1, 2] (by intro x hx; simp at hx; omega) (by decide) 0 2 k hk]
  decide

def bigS : Nat → Int → List Int
  | 0, _ => []
  | n + 1, v => bigS n (v / 256) ++ [v % 256]
theorem bigS_length : ∀ (n : Nat) (v : Int), (bigS n v).length = n
  | 0, _ => rfl
  | n + 1, v => by simp [bigS, bigS_length n]
theorem set_cut (L : List Int) (i : Nat) (x : Int) (h : i < L.length) : (L.set i x).drop i = x :: L.drop (i + 1) := by
  rw [List.drop_eq_getElem_cons (by simpa using h), List.drop_set_of_lt (by omega)]
  simp
theorem put_loop (a : Nat) : ∀ (m k : Nat) (v : Int) (L : List Int), 0 ≤ v → a + m ≤ L.length → (L.length : Int) ≤ 140737488351232 → m < k → m ≤ 8 →
    be_Put.l0 k a v L ((m : Int) - 1) = some (L.take a ++ bigS m v ++ L.drop (a + m), 0) := by
  intro m
  induction m with
  | zero =>
    intro k v L hv hL hl hk _
    obtain ⟨k, rfl⟩ : ∃ q, k = q + 1 := ⟨k - 1, by omega⟩
    simp only [be_Put.l0]
    rw [if_neg (by omega)]
    simp [bigS]
  | succ m ih =>
    intro k v L hv hL hl hk hm
    obtain ⟨k, rfl⟩ : ∃ q, k = q + 1 := ⟨k - 1, by omega⟩
    simp only [be_Put.l0]
    rw [show (((m + 1 : Nat) : Int) - 1) = (m : Int) from by omega, if_pos (by omega), w64_id (by omega) (by omega), if_pos (by omega), if_pos (by omega), w64_id (by omega) (by omega)]
    have ht : ((a : Int) + (m : Int)).toNat = a + m := by omega
    rw [ht, ih k (v / 256) (L.set (a + m) (v % 256)) (by omega) (by simp; omega) (by simpa using hl) (by omega) (by omega), set_cut L (a + m) _ (by omega), List.take_set_of_le (by omega)]
    simp [bigS, Nat.add_assoc]
def putS (l : List Int) (a n : Nat) (v : Int) : List Int := l.take a ++ bigS n v ++ l.drop (a + n)
/-- What be.Put answers. -/
def putF (l : List Int) (a n v : Int) : List Int × Int :=
  if fieldS l.length a n = 1 then ([], 1) else if v / 256 ^ n.toNat ≠ 0 then ([], 3) else if fieldS l.length a n = 0 then (putS l a.toNat n.toNat v, 0) else ([], fieldS l.length a n)
theorem field_cases (len a n : Int) : fieldS len a n = 1 ∧ (n < 1 ∨ 8 < n) ∨ (1 ≤ n ∧ n ≤ 8 ∧ (fieldS len a n = 4 ∧ (a < 0 ∨ len - n < a) ∨ fieldS len a n = 0 ∧ 0 ≤ a ∧ a + n ≤ len)) := by
  unfold fieldS
  split
  · left; omega
  · right
    split <;> omega
theorem shr_64 (v : Int) (n : Nat) (hn : n < 8) : shr .u64 v ((8 * n : Nat) : Int) = v / 256 ^ n := by
  have h1 : min (((8 * n : Nat) : Int).toNat) (IntKind.bits .u64) = 8 * n := by simp [IntKind.bits]; omega
  unfold shr
  rw [h1]
  match n, hn with
  | 0, _ | 1, _ | 2, _ | 3, _ | 4, _ | 5, _ | 6, _ | 7, _ => rfl
theorem put_ok (l : List Int) (a n v : Int) (k : Nat) (hk : 12 < k) (hl : (l.length : Int) ≤ 140737488351232) (hv : 0 ≤ v) (hv2 : v < 18446744073709551616) : be_Put.f k l a n v = some (putF l a n v) := by
  unfold be_Put.f putF
  rw [field_ok l a n k (by omega) hl]
  simp only [Option.bind_some]
  have tail : fieldS l.length a n ≠ 1 → ∀ b : Bool, (b = decide (v / 256 ^ n.toNat ≠ 0)) → be_Put.j0 k l a n v (fieldS l.length a n) b = some (if v / 256 ^ n.toNat ≠ 0 then ([], 3) else if fieldS l.length a n = 0 then (putS l a.toNat n.toNat v, 0) else ([], fieldS l.length a n)) := by
    intro hf b hb
    obtain ⟨k, rfl⟩ : ∃ q, k = q + 1 := ⟨k - 1, by omega⟩
    simp only [be_Put.j0]
    by_cases hq : v / 256 ^ n.toNat ≠ 0
    · rw [if_pos (by rw [hb]; exact decide_eq_true hq), if_pos hq]
    · rw [if_neg (by rw [hb]; simp [hq]), if_neg hq]
      by_cases h0 : fieldS l.length a n = 0
      · rw [if_pos h0, if_pos h0]
        rcases field_cases l.length a n with h | ⟨h1, h8, ⟨h, _⟩ | ⟨_, ha, hle⟩⟩
        · omega
        · omega
        · obtain ⟨a, rfl⟩ := Int.eq_ofNat_of_zero_le ha
          obtain ⟨n, rfl⟩ := Int.eq_ofNat_of_zero_le (show 0 ≤ n by omega)
          rw [if_pos (by simp; omega), w64_id (by omega) (by omega), List.nil_append]
          exact put_loop a n k v l hv (by omega) hl (by omega) (by omega)
      · rw [if_neg h0, if_neg h0]
  rcases field_cases l.length a n with ⟨h, _⟩ | ⟨h1, h8, hr⟩
  · rw [if_pos h, if_pos h, h]
    obtain ⟨k, rfl⟩ : ∃ q, k = q + 1 := ⟨k - 1, by omega⟩
    simp only [be_Put.j0]
    rw [if_neg (by decide), if_neg (by decide)]
  · have hf : fieldS l.length a n ≠ 1 := by omega
    rw [if_neg hf, if_neg hf]
    obtain ⟨m, rfl⟩ := Int.eq_ofNat_of_zero_le (show 0 ≤ n by omega)
    by_cases hn : m < 8
    · rw [if_pos (by omega), w64_id (by omega) (by omega), if_pos (by omega), show (8 * (m : Int)) = ((8 * m : Nat) : Int) from by omega, shr_64 v m hn]
      exact tail hf _ (by simp only [Int.toNat_natCast]; by_cases hq : v / 256 ^ m = 0 <;> simp [hq])
    · have : m = 8 := by omega
      subst this
      rw [if_neg (by omega)]
      exact tail hf _ (by
        have h0 : v / 256 ^ ((8 : Nat) : Int).toNat = 0 := Int.ediv_eq_zero_of_lt hv (by simpa using hv2)
        rw [h0]
        decide)

theorem ref_field (len a n : Int) (k : Nat) (hk : 0 < k) (h0 : 0 ≤ len) (hl : len ≤ 140737488351232) : palletref01_field.f k len a n = some (fieldS len a n) := by
  obtain ⟨k, rfl⟩ : ∃ m, k = m + 1 := ⟨k - 1, by omega⟩
  unfold palletref01_field.f fieldS
  by_cases h1 : n < 1
  · rw [if_pos h1, if_pos (.inl h1)]
    simp [palletref01_field.j0]
  · rw [if_neg h1]
    by_cases h8 : n > 8
    · rw [if_pos (.inr h8)]
      simp [palletref01_field.j0, h8]
    · rw [if_neg (by omega)]
      have hd : decide (n > 8) = false := by simp; omega
      simp only [palletref01_field.j0, hd]
      rw [if_neg (by decide)]
      by_cases ha : a < 0
      · rw [if_pos ha, if_pos (.inl ha)]
      · rw [if_neg ha]
        by_cases hb : a ≥ len
        · rw [if_pos hb, if_pos (.inr (by omega))]
        · rw [if_neg hb, w64_id (by omega) (by omega)]
          by_cases hc : n > len - a
          · rw [if_pos hc, if_pos (.inr (by omega))]
          · rw [if_neg hc, if_neg (by omega)]
theorem ref_put_loop (a : Nat) : ∀ (m k : Nat) (v : Int) (L : List Int), 0 ≤ v → v < 18446744073709551616 → a + m ≤ L.length → (L.length : Int) ≤ 140737488351232 → m < k → m ≤ 8 →
    palletref01_Put.l1 k a v L ((m : Int) - 1) = some (L.take a ++ bigS m v ++ L.drop (a + m), 0) := by
  intro m
  induction m with
  | zero =>
    intro k v L hv _ hL hl hk _
    obtain ⟨k, rfl⟩ : ∃ q, k = q + 1 := ⟨k - 1, by omega⟩
    simp only [palletref01_Put.l1]
    rw [if_neg (by omega)]
    simp [bigS]
  | succ m ih =>
    intro k v L hv hv2 hL hl hk hm
    obtain ⟨k, rfl⟩ : ∃ q, k = q + 1 := ⟨k - 1, by omega⟩
    simp only [palletref01_Put.l1]
    rw [show (((m + 1 : Nat) : Int) - 1) = (m : Int) from by omega, if_pos (by omega), w64_id (by omega) (by omega), if_pos (by omega), if_pos (by omega), w64_id (by omega) (by omega),
      Int.tdiv_eq_ediv_of_nonneg hv, u64_id (by omega) (by omega), Int.tmod_eq_emod_of_nonneg hv, show v % 256 % 256 = v % 256 from by omega]
    have ht : ((a : Int) + (m : Int)).toNat = a + m := by omega
    rw [ht, ih k (v / 256) (L.set (a + m) (v % 256)) (by omega) (by omega) (by simp; omega) (by simpa using hl) (by omega) (by omega), set_cut L (a + m) _ (by omega), List.take_set_of_le (by omega)]
    simp [bigS, Nat.add_assoc]
theorem div_pow (v : Int) (d : Nat) : v / 256 / 256 ^ d = v / 256 ^ (d + 1) := by
  rw [Int.ediv_ediv_of_nonneg (by decide), Int.pow_succ, Int.mul_comm]
theorem ref_div_loop (l : List Int) (a : Int) (n : Nat) (v : Int) (e : Int) (hn : n ≤ 8) : ∀ (d k i : Nat) (x : Int), i + d = n → d < k → 0 ≤ x → x < 18446744073709551616 →
    palletref01_Put.l0 k l a n v e x i = palletref01_Put.l0 (k - d) l a n v e (x / 256 ^ d) n := by
  intro d
  induction d with
  | zero =>
    intro k i x hi hk h0 h1
    simp
    rw [show i = n from by omega]
  | succ d ih =>
    intro k i x hi hk h0 h1
    obtain ⟨k, rfl⟩ : ∃ q, k = q + 1 := ⟨k - 1, by omega⟩
    rw [show palletref01_Put.l0 (k + 1) l a n v e x i = palletref01_Put.l0 k l a n v e (x / 256) ((i + 1 : Nat) : Int) from by
      simp only [palletref01_Put.l0]
      rw [if_pos (by omega), Int.tdiv_eq_ediv_of_nonneg h0, u64_id (by omega) (by omega), w64_id (by omega) (by omega)]
      rfl]
    rw [ih k (i + 1) (x / 256) (by omega) (by omega) (by omega) (by omega), div_pow]
    congr 1
    omega
theorem ref_put (l : List Int) (a n v : Int) (k : Nat) (hk : 22 < k) (hl : (l.length : Int) ≤ 140737488351232) (hv : 0 ≤ v) (hv2 : v < 18446744073709551616) : palletref01_Put.f k l a n v = some (putF l a n v) := by
  unfold palletref01_Put.f putF
  rw [ref_field l.length a n k (by omega) (by omega) hl]
  simp only [Option.bind_some]
  rcases field_cases l.length a n with ⟨h, _⟩ | ⟨h1, h8, hr⟩
  · rw [if_pos h, if_pos h, h]
  · have hf : fieldS l.length a n ≠ 1 := by omega
    rw [if_neg hf, if_neg hf]
    obtain ⟨m, rfl⟩ := Int.eq_ofNat_of_zero_le (show 0 ≤ n by omega)
    have hd := ref_div_loop l a m v (fieldS l.length a m) (by omega) m k 0 v (by omega) (by omega) hv hv2
    rw [show ((0 : Nat) : Int) = 0 from rfl] at hd
    rw [hd]
    obtain ⟨q, hq⟩ : ∃ q, k - m = q + 1 := ⟨k - m - 1, by omega⟩
    rw [hq]
    simp only [palletref01_Put.l0, Int.toNat_natCast]
    rw [if_neg (by omega)]
    by_cases hz : v / 256 ^ m = 0
    · rw [if_pos hz, if_neg (show ¬ (v / 256 ^ m ≠ 0) from fun h => h hz)]
      by_cases h0 : fieldS l.length a m = 0
      · rw [if_pos h0, if_pos h0]
        rcases hr with ⟨h, _⟩ | ⟨_, ha, hle⟩
        · omega
        · obtain ⟨a, rfl⟩ := Int.eq_ofNat_of_zero_le ha
          rw [if_pos (by simp; omega), w64_id (by omega) (by omega), List.nil_append]
          exact ref_put_loop a m q v l hv hv2 (by omega) hl (by omega) (by omega)
      · rw [if_neg h0, if_neg h0]
    · rw [if_neg hz, if_pos hz]
theorem BePuts : palletlaw01_BePuts.Pure := by
  intro l a n v _ hl hw ha hn hv
  obtain ⟨v0, v1⟩ := u64_of_wf hv
  refine ⟨23, ?_⟩
  unfold palletlaw01_BePuts.f palletref01_Same.f
  rw [awake_ok 23 (by omega), put_ok l a n v 23 (by omega) (by omega) v0 v1, ref_put l a n v 23 (by omega) (by omega) v0 v1]
  simp

end Go.Proofs.Ytgnfeeddapiihaa.Pure
