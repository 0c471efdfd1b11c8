/- What be.Put laid be.Get reads again, and all other bytes are as they were: of any bytes, at any place that there is, for any value that fits: no condition. -/
import Derived.Test.YtgnfeeddapiihaaPBeBackx2
set_option linter.unusedVariables false
set_option linter.unusedSimpArgs false
namespace Go.Proofs.Ytgnfeeddapiihaa.Pure
open Go.RowKit Go.Proofs.Ytgnfeeddapiihaa.PBeBack Go.Proofs.YtgnfeeddapiihaaW.PrintWords Go.Proofs.YtgnfeeddapiihaaW.PrintLast Go.Proofs.YtgnfeeddapiihaaW.PrintMore

theorem u64_id {n : Int} (h0 : 0 ≤ n) (h1 : n < 18446744073709551616) : IntKind.u64.wrap n = n := by
  rw [show IntKind.u64.wrap n = n % 18446744073709551616 from by simp [IntKind.wrap, IntKind.bits, IntKind.signed]]
  omega
theorem w64_id {n : Int} (h0 : -9223372036854775808 ≤ n) (h1 : n ≤ 9223372036854775807) : wrap64 n = n := by
  unfold wrap64
  omega
theorem or8_u64 {x y : Int} (hx0 : 0 ≤ x) (hx1 : x * 256 < 18446744073709551616) (hy0 : 0 ≤ y) (hy1 : y ≤ 255) :
    Go.bits .or .u64 (IntKind.u64.wrap (x * 256)) (IntKind.u64.wrap y) = x * 256 + y := by
  rw [u64_id (by omega) hx1, u64_id hy0 (by omega)]
  exact bits_join .u64 64 (by decide) (fun n h0 h1 => u64_id h0 (by simpa using h1)) 8 (x * 256) y (by omega) (by omega) (by simpa using hx1) hy0 (by omega) (by omega)
/-- The number that bytes are. -/
def numS (l : List Int) (v : Int) : Int := l.foldl (fun v b => v * 256 + b) v
def Bytes (l : List Int) : Prop := ∀ x ∈ l, 0 ≤ x ∧ x ≤ 255
theorem bytes_of_wf {l : List Int} (h : ∀ x ∈ l, (Lit.int .u8 x).wf = true) : Bytes l := by
  intro x hx
  have := h x hx
  simp [Lit.wf, IntKind.min, IntKind.max, IntKind.signed, IntKind.bits] at this
  omega
theorem i64_of_wf {x : Int} (h : (Lit.int .i64 x).wf = true) : -9223372036854775808 ≤ x ∧ x ≤ 9223372036854775807 := by
  simp [Lit.wf, IntKind.min, IntKind.max, IntKind.signed, IntKind.bits] at h
  omega
theorem u64_of_wf {x : Int} (h : (Lit.int .u64 x).wf = true) : 0 ≤ x ∧ x < 18446744073709551616 := by
  simp [Lit.wf, IntKind.min, IntKind.max, IntKind.signed, IntKind.bits] at h
  omega
theorem rd_nat (l : List Int) (i : Nat) (h : i < l.length) : rd l (i : Int) = l[i] := by
  simp [rd, h]
theorem Bytes.at {l : List Int} (hb : Bytes l) (i : Nat) (h : i < l.length) : 0 ≤ l[i] ∧ l[i] ≤ 255 := hb _ (List.getElem_mem h)
theorem pow_step (i : Nat) : (256 : Int) ^ (i + 1) = 256 ^ i * 256 := by rw [Int.pow_succ]
theorem pow_le8 (i : Nat) (h : i ≤ 8) : (256 : Int) ^ i ≤ 18446744073709551616 := by
  match i, h with
  | 0, _ | 1, _ | 2, _ | 3, _ | 4, _ | 5, _ | 6, _ | 7, _ | 8, _ => decide
theorem numS_bound (l : List Int) (hb : Bytes l) : ∀ (v : Int) (i : Nat), 0 ≤ v → v < 256 ^ i → 0 ≤ numS l v ∧ numS l v < 256 ^ (i + l.length) := by
  induction l with
  | nil => intro v i h0 h1; exact ⟨h0, h1⟩
  | cons b l ih =>
    intro v i h0 h1
    have hb0 := hb b (by simp)
    have := ih (fun x hx => hb x (by simp [hx])) (v * 256 + b) (i + 1) (by omega) (by rw [pow_step]; omega)
    simpa [numS, Nat.add_comm, Nat.add_left_comm] using this
theorem get_loop (ys : List Int) (hb : Bytes ys) (h8 : ys.length ≤ 8) : ∀ (d k : Nat) (acc : Int) (i : Nat), i + d = ys.length → d < k → 0 ≤ acc → acc < 256 ^ i →
    be_Get.l0 k acc ys ys.length i = some (numS (ys.drop i) acc, 0) := by
  intro d
  induction d with
  | zero =>
    intro k acc i hi hk _ _
    obtain ⟨k, rfl⟩ : ∃ m, k = m + 1 := ⟨k - 1, by omega⟩
    simp only [be_Get.l0]
    rw [if_neg (by omega), List.drop_eq_nil_of_le (by omega)]
    rfl
  | succ d ih =>
    intro k acc i hi hk h0 h1
    obtain ⟨k, rfl⟩ : ∃ m, k = m + 1 := ⟨k - 1, by omega⟩
    have hlt : i < ys.length := by omega
    have hbi := hb.at i hlt
    have hp := pow_step i
    have hp8 := pow_le8 (i + 1) (by omega)
    simp only [be_Get.l0]
    rw [if_pos (by omega), if_pos (by omega), if_pos (by omega), rd_nat ys i hlt, or8_u64 h0 (by omega) hbi.1 hbi.2, w64_id (by omega) (by omega), show ((i : Int) + 1) = ((i + 1 : Nat) : Int) from by omega,
      ih k (acc * 256 + ys[i]) (i + 1) (by omega) (by omega) (by omega) (by omega)]
    rw [List.drop_eq_getElem_cons hlt]
    rfl
def fieldS (len a n : Int) : Int := if n < 1 ∨ 8 < n then 1 else if a < 0 ∨ len - n < a then 4 else 0
theorem field_ok (l : List Int) (a n : Int) (k : Nat) (hk : 0 < k) (hl : (l.length : Int) ≤ 140737488351232) : be_field.f k l a n = some (fieldS l.length a n) := by
  obtain ⟨k, rfl⟩ : ∃ m, k = m + 1 := ⟨k - 1, by omega⟩
  unfold be_field.f fieldS
  by_cases h1 : n < 1
  · rw [if_pos h1, if_pos (.inl h1)]
    simp [be_field.j0]
  · rw [if_neg h1]
    by_cases h8 : n > 8
    · rw [if_pos (.inr h8)]
      simp [be_field.j0, h8]
    · rw [if_neg (by omega)]
      have hd : decide (n > 8) = false := by simp; omega
      simp only [be_field.j0, hd]
      rw [if_neg (by decide)]
      by_cases ha : a < 0
      · rw [if_pos ha, if_pos (.inl ha)]
      · rw [if_neg ha, w64_id (by omega) (by omega)]
        by_cases hb : a > (l.length : Int) - n
        · rw [if_pos hb, if_pos (.inr hb)]
        · rw [if_neg hb, if_neg (by omega)]
theorem cut_length (l : List Int) (a n : Nat) (h : a + n ≤ l.length) : ((l.take (a + n)).drop a).length = n := by
  rw [List.length_drop, List.length_take]
  omega
theorem Bytes.cut {l : List Int} (hb : Bytes l) (a n : Nat) : Bytes ((l.take n).drop a) := fun x hx => hb x (List.mem_of_mem_take (List.mem_of_mem_drop hx))
/-- What be.Get answers. -/
theorem get_ok (l : List Int) (hb : Bytes l) (hl : (l.length : Int) ≤ 140737488351232) (a n : Int) (k : Nat) (hk : 9 < k) :
    be_Get.f k l a n = some (if fieldS l.length a n = 0 then (numS ((l.take (a.toNat + n.toNat)).drop a.toNat) 0, 0) else (0, fieldS l.length a n)) := by
  unfold be_Get.f
  rw [field_ok l a n k (by omega) hl]
  simp only [Option.bind_some]
  by_cases h : fieldS l.length a n = 0
  · rw [if_pos h, if_pos h]
    have h2 : 1 ≤ n ∧ n ≤ 8 ∧ 0 ≤ a ∧ a + n ≤ l.length := by
      unfold fieldS at h
      split at h
      · omega
      · split at h <;> omega
    obtain ⟨h1, h8, h0, hle⟩ := h2
    obtain ⟨a, rfl⟩ := Int.eq_ofNat_of_zero_le h0
    obtain ⟨n, rfl⟩ := Int.eq_ofNat_of_zero_le (show 0 ≤ n by omega)
    rw [w64_id (by omega) (by omega), if_pos h0, if_pos (by omega), if_pos hle]
    have ht : ((a : Int) + (n : Int)).toNat = a + n := by omega
    simp only [ht, Int.toNat_natCast]
    have hc := cut_length l a n (by omega)
    have := get_loop ((l.take (a + n)).drop a) (hb.cut a (a + n)) (by omega) n k 0 0 (by omega) (by omega) (by omega) (by decide)
    exact this
  · rw [if_neg h, if_neg h]
theorem awake_ok (k : Nat) (hk : 9 < k) : palletlaw01_awake.f k = some true := by
  unfold palletlaw01_awake.f
  rw [get_ok [1, 2] (by intro x hx; simp at hx; omega) (by decide) 0 2 k hk]
  decide

def bigS : Nat → Int → List Int
  | 0, _ => []
  | n + 1, v => bigS n (v / 256) ++ [v % 256]
theorem bigS_length : ∀ (n : Nat) (v : Int), (bigS n v).length = n
  | 0, _ => rfl
  | n + 1, v => by simp [bigS, bigS_length n]
theorem set_cut (L : List Int) (i : Nat) (x : Int) (h : i < L.length) : (L.set i x).drop i = x :: L.drop (i + 1) := by
  rw [List.drop_eq_getElem_cons (by simpa using h), List.drop_set_of_lt (by omega)]
  simp
theorem put_loop (a : Nat) : ∀ (m k : Nat) (v : Int) (L : List Int), 0 ≤ v → a + m ≤ L.length → (L.length : Int) ≤ 140737488351232 → m < k → m ≤ 8 →
    be_Put.l0 k a v L ((m : Int) - 1) = some (L.take a ++ bigS m v ++ L.drop (a + m), 0) := by
  intro m
  induction m with
  | zero =>
    intro k v L hv hL hl hk _
    obtain ⟨k, rfl⟩ : ∃ q, k = q + 1 := ⟨k - 1, by omega⟩
    simp only [be_Put.l0]
    rw [if_neg (by omega)]
    simp [bigS]
  | succ m ih =>
    intro k v L hv hL hl hk hm
    obtain ⟨k, rfl⟩ : ∃ q, k = q + 1 := ⟨k - 1, by omega⟩
    simp only [be_Put.l0]
    rw [show (((m + 1 : Nat) : Int) - 1) = (m : Int) from by omega, if_pos (by omega), w64_id (by omega) (by omega), if_pos (by omega), if_pos (by omega), w64_id (by omega) (by omega)]
    have ht : ((a : Int) + (m : Int)).toNat = a + m := by omega
    rw [ht, ih k (v / 256) (L.set (a + m) (v % 256)) (by omega) (by simp; omega) (by simpa using hl) (by omega) (by omega), set_cut L (a + m) _ (by omega), List.take_set_of_le (by omega)]
    simp [bigS, Nat.add_assoc]
def putS (l : List Int) (a n : Nat) (v : Int) : List Int := l.take a ++ bigS n v ++ l.drop (a + n)
/-- What be.Put answers. -/
def putF (l : List Int) (a n v : Int) : List Int × Int :=
  if fieldS l.length a n = 1 then ([], 1) else if v / 256 ^ n.toNat ≠ 0 then ([], 3) else if fieldS l.length a n = 0 then (putS l a.toNat n.toNat v, 0) else ([], fieldS l.length a n)
theorem field_cases (len a n : Int) : fieldS len a n = 1 ∧ (n < 1 ∨ 8 < n) ∨ (1 ≤ n ∧ n ≤ 8 ∧ (fieldS len a n = 4 ∧ (a < 0 ∨ len - n < a) ∨ fieldS len a n = 0 ∧ 0 ≤ a ∧ a + n ≤ len)) := by
  unfold fieldS
  split
  · left; omega
  · right
    split <;> omega
theorem shr_64 (v : Int) (n : Nat) (hn : n < 8) : shr .u64 v ((8 * n : Nat) : Int) = v / 256 ^ n := by
  have h1 : min (((8 * n : Nat) : Int).toNat) (IntKind.bits .u64) = 8 * n := by simp [IntKind.bits]; omega
  unfold shr
  rw [h1]
  match n, hn with
  | 0, _ | 1, _ | 2, _ | 3, _ | 4, _ | 5, _ | 6, _ | 7, _ => rfl
theorem put_ok (l : List Int) (a n v : Int) (k : Nat) (hk : 12 < k) (hl : (l.length : Int) ≤ 140737488351232) (hv : 0 ≤ v) (hv2 : v < 18446744073709551616) : be_Put.f k l a n v = some (putF l a n v) := by
  unfold be_Put.f putF
  rw [field_ok l a n k (by omega) hl]
  simp only [Option.bind_some]
  have tail : fieldS l.length a n ≠ 1 → ∀ b : Bool, (b = decide (v / 256 ^ n.toNat ≠ 0)) → be_Put.j0 k l a n v (fieldS l.length a n) b = some (if v / 256 ^ n.toNat ≠ 0 then ([], 3) else if fieldS l.length a n = 0 then (putS l a.toNat n.toNat v, 0) else ([], fieldS l.length a n)) := by
    intro hf b hb
    obtain ⟨k, rfl⟩ : ∃ q, k = q + 1 := ⟨k - 1, by omega⟩
    simp only [be_Put.j0]
    by_cases hq : v / 256 ^ n.toNat ≠ 0
    · rw [if_pos (by rw [hb]; exact decide_eq_true hq), if_pos hq]
    · rw [if_neg (by rw [hb]; simp [hq]), if_neg hq]
      by_cases h0 : fieldS l.length a n = 0
      · rw [if_pos h0, if_pos h0]
        rcases field_cases l.length a n with h | ⟨h1, h8, ⟨h, _⟩ | ⟨_, ha, hle⟩⟩
        · omega
        · omega
        · obtain ⟨a, rfl⟩ := Int.eq_ofNat_of_zero_le ha
          obtain ⟨n, rfl⟩ := Int.eq_ofNat_of_zero_le (show 0 ≤ n by omega)
          rw [if_pos (by simp; omega), w64_id (by omega) (by omega), List.nil_append]
          exact put_loop a n k v l hv (by omega) hl (by omega) (by omega)
      · rw [if_neg h0, if_neg h0]
  rcases field_cases l.length a n with ⟨h, _⟩ | ⟨h1, h8, hr⟩
  · rw [if_pos h, if_pos h, h]
    obtain ⟨k, rfl⟩ : ∃ q, k = q + 1 := ⟨k - 1, by omega⟩
    simp only [be_Put.j0]
    rw [if_neg (by decide), if_neg (by decide)]
  · have hf : fieldS l.length a n ≠ 1 := by omega
    rw [if_neg hf, if_neg hf]
    obtain ⟨m, rfl⟩ := Int.eq_ofNat_of_zero_le (show 0 ≤ n by omega)
    by_cases hn : m < 8
    · rw [if_pos (by omega), w64_id (by omega) (by omega), if_pos (by omega), show (8 * (m : Int)) = ((8 * m : Nat) : Int) from by omega, shr_64 v m hn]
      exact tail hf _ (by simp only [Int.toNat_natCast]; by_cases hq : v / 256 ^ m = 0 <;> simp [hq])
    · have : m = 8 := by omega
      subst this
      rw [if_neg (by omega)]
      exact tail hf _ (by
        have h0 : v / 256 ^ ((8 : Nat) : Int).toNat = 0 := Int.ediv_eq_zero_of_lt hv (by simpa using hv2)
        rw [h0]
        decide)

theorem numS_append (l m : List Int) (v : Int) : numS (l ++ m) v = numS m (numS l v) := by simp [numS]
theorem numS_big : ∀ (n : Nat) (v : Int), 0 ≤ v → numS (bigS n v) 0 = v % 256 ^ n
  | 0, v, _ => by simp [bigS, numS, Int.emod_one]
  | n + 1, v, h => by
    have ih := numS_big n (v / 256) (by omega)
    rw [bigS, numS_append, ih, pow_step]
    show v / 256 % 256 ^ n * 256 + v % 256 = v % (256 ^ n * 256)
    have hp : (0 : Int) < 256 ^ n := Int.pow_pos (by decide)
    have h1 := Int.mul_ediv_add_emod (v / 256) (256 ^ n)
    obtain ⟨q, hq⟩ : ∃ q, q = v / 256 / 256 ^ n := ⟨_, rfl⟩
    obtain ⟨r, hr⟩ : ∃ r, r = v / 256 % 256 ^ n := ⟨_, rfl⟩
    rw [← hq, ← hr] at h1
    have hr0 : 0 ≤ r := by rw [hr]; exact Int.emod_nonneg _ (by omega)
    have hr1 : r < 256 ^ n := by rw [hr]; exact Int.emod_lt_of_pos _ hp
    rw [← hr]
    have hv : v = (256 ^ n * 256) * q + (r * 256 + v % 256) := by
      have e1 : v = 256 * (v / 256) + v % 256 := by omega
      have e2 : 256 * (v / 256) = (256 ^ n * 256) * q + r * 256 := by
        rw [← h1, Int.mul_add, Int.mul_comm (256 ^ n) 256, Int.mul_assoc, Int.mul_comm 256 r]
      omega
    have hb : 0 ≤ r * 256 + v % 256 ∧ r * 256 + v % 256 < 256 ^ n * 256 := by omega
    calc r * 256 + v % 256 = (r * 256 + v % 256) % (256 ^ n * 256) := (Int.emod_eq_of_lt hb.1 hb.2).symm
      _ = ((r * 256 + v % 256) + (256 ^ n * 256) * q) % (256 ^ n * 256) := by rw [Int.add_mul_emod_self_left]
      _ = v % (256 ^ n * 256) := by congr 1; omega
theorem bigS_bytes : ∀ (n : Nat) (v : Int), Bytes (bigS n v)
  | 0, _ => fun x hx => by simp [bigS] at hx
  | n + 1, v => fun x hx => by
    simp [bigS] at hx
    rcases hx with hx | hx
    · exact bigS_bytes n _ x hx
    · omega
theorem bytes_app {l m : List Int} (h : Bytes l) (h2 : Bytes m) : Bytes (l ++ m) := fun x hx => by
  rcases List.mem_append.mp hx with hx | hx
  · exact h x hx
  · exact h2 x hx
theorem putS_length (l : List Int) (a n : Nat) (v : Int) (h : a + n ≤ l.length) : (putS l a n v).length = l.length := by
  simp [putS, bigS_length]
  omega
theorem putS_mid (l : List Int) (a n : Nat) (v : Int) (h : a + n ≤ l.length) : ((putS l a n v).take (a + n)).drop a = bigS n v := by
  unfold putS
  rw [List.take_left' (by simp [bigS_length]; omega), List.drop_left' (by rw [List.length_take]; omega)]
theorem putS_take (l : List Int) (a n : Nat) (v : Int) (h : a + n ≤ l.length) : (putS l a n v).take a = l.take a := by
  unfold putS
  rw [List.append_assoc, List.take_left' (by rw [List.length_take]; omega)]
theorem putS_drop (l : List Int) (a n : Nat) (v : Int) (h : a + n ≤ l.length) : (putS l a n v).drop (a + n) = l.drop (a + n) := by
  unfold putS
  rw [List.drop_left' (by simp [bigS_length]; omega)]
theorem back (l : List Int) (hb : Bytes l) (hl : (l.length : Int) ≤ 140737488351232) (a n : Nat) (v : Int) (h1 : 1 ≤ n) (h8 : n ≤ 8) (hle : a + n ≤ l.length) (hv : 0 ≤ v) (hv2 : v < 18446744073709551616) (hv3 : v < 256 ^ n) (k : Nat) (hk : 13 < k) :
    palletlaw01_BeBack.j0 k l n a v = some true := by
  obtain ⟨k, rfl⟩ : ∃ q, k = q + 1 := ⟨k - 1, by omega⟩
  have hf : fieldS l.length a n = 0 := by
    unfold fieldS
    rw [if_neg (by omega), if_neg (by omega)]
  have hput : putF l a n v = (putS l a n v, 0) := by
    unfold putF
    rw [if_neg (by omega), if_neg (by simp only [Int.toNat_natCast]; rw [Int.ediv_eq_zero_of_lt hv hv3]; simp), if_pos hf]
    simp
  have hlen := putS_length l a n v hle
  have hbp : Bytes (putS l a n v) := by
    unfold putS
    exact bytes_app (bytes_app (fun x hx => hb x (List.mem_of_mem_take hx)) (bigS_bytes n v)) (fun x hx => hb x (List.mem_of_mem_drop hx))
  simp only [palletlaw01_BeBack.j0]
  rw [put_ok l a n v k (by omega) hl hv hv2, hput]
  simp only [Option.bind_some, if_true]
  rw [if_pos (by omega), get_ok _ hbp (by omega) a n k (by omega), hlen, hf]
  simp only [Option.bind_some, if_true, Int.toNat_natCast]
  rw [putS_mid l a n v hle, numS_big n v hv, Int.emod_eq_of_lt hv hv3, if_pos rfl, if_pos (by omega), if_pos (by omega), if_pos (by omega), if_pos (show (strOfNums (List.take a (putS l a n v))).toList = (strOfNums (List.take a l)).toList from by rw [putS_take l a n v hle]), w64_id (by omega) (by omega), if_pos (by omega), if_pos (by omega), if_pos (by omega),
    show ((a : Int) + (n : Int)).toNat = a + n from by omega, putS_drop l a n v hle]
  simp
theorem shl_64 (n : Nat) (hn : n < 8) : shl .u64 1 ((8 * n : Nat) : Int) = 256 ^ n := by
  match n, hn with
  | 0, _ | 1, _ | 2, _ | 3, _ | 4, _ | 5, _ | 6, _ | 7, _ => decide
theorem u8_of_wf {x : Int} (h : (Lit.int .u8 x).wf = true) : 0 ≤ x ∧ x ≤ 255 := by
  simp [Lit.wf, IntKind.min, IntKind.max, IntKind.signed, IntKind.bits] at h
  omega
theorem BeBack : palletlaw01_BeBack.Pure := by
  intro l at_ c v _ hl hw ha hc hv
  obtain ⟨v0, v1⟩ := u64_of_wf hv
  obtain ⟨a0, a1⟩ := u8_of_wf ha
  obtain ⟨c0, c1⟩ := u8_of_wf hc
  refine ⟨14, ?_⟩
  unfold palletlaw01_BeBack.f
  rw [awake_ok 14 (by omega)]
  simp only [Option.bind_some, if_true]
  obtain ⟨n, hn⟩ : ∃ n : Nat, (n : Int) = 1 + c % 8 := ⟨(1 + c % 8).toNat, by omega⟩
  rw [w64_id (n := c) (by omega) (by omega), Int.tmod_eq_emod_of_nonneg c0, w64_id (n := 1 + c % 8) (by omega) (by omega), ← hn]
  by_cases hlt : (l.length : Int) < n
  · rw [if_pos hlt]
  · rw [if_neg hlt, w64_id (n := (l.length : Int) - n) (by omega) (by omega), w64_id (n := (l.length : Int) - n + 1) (by omega) (by omega), if_neg (by omega), w64_id (n := at_) (by omega) (by omega), Int.tmod_eq_emod_of_nonneg a0]
    have hm0 : 0 ≤ at_ % ((l.length : Int) - n + 1) := Int.emod_nonneg _ (by omega)
    have hm1 : at_ % ((l.length : Int) - n + 1) < (l.length : Int) - n + 1 := Int.emod_lt_of_pos _ (by omega)
    obtain ⟨a, ha⟩ := Int.eq_ofNat_of_zero_le hm0
    rw [ha]
    by_cases h8 : n < 8
    · rw [if_pos (by omega), w64_id (n := 8 * (n : Int)) (by omega) (by omega), if_pos (by omega), show (8 * (n : Int)) = ((8 * n : Nat) : Int) from by omega, shl_64 n h8]
      have hp : (0 : Int) < 256 ^ n := Int.pow_pos (by decide)
      rw [if_neg (by omega), Int.tmod_eq_emod_of_nonneg v0]
      have q0 : 0 ≤ v % 256 ^ n := Int.emod_nonneg _ (by omega)
      have q1 : v % 256 ^ n < 256 ^ n := Int.emod_lt_of_pos _ hp
      have q2 := pow_le8 n (by omega)
      exact back l (bytes_of_wf hw) (by omega) a n _ (by omega) (by omega) (by omega) q0 (by omega) q1 14 (by omega)
    · have : n = 8 := by omega
      subst this
      rw [if_neg (by omega)]
      exact back l (bytes_of_wf hw) (by omega) a 8 v (by omega) (by omega) (by omega) v0 v1 (by simpa using v1) 14 (by omega)

end Go.Proofs.Ytgnfeeddapiihaa.Pure
