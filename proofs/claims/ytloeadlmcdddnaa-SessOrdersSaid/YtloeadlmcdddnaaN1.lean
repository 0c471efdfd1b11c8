/- Numbers: what the machine's arithmetic is, in plain words; numbers as bytes. -/
import Derived.Test.YtloeadlmcdddnaaB4
import Derived.Laws.BitsAllLaws
import Derived.Laws.Strings
set_option linter.unusedVariables false
set_option linter.unusedSimpArgs false
namespace Go.Proofs.Ytloeadlmcdddnaa.Abs
open Go Go.RowKit
def ByteL (xs : List Int) : Prop := ∀ x ∈ xs, 0 ≤ x ∧ x ≤ 255
theorem w8 (n : Int) : IntKind.u8.wrap n = n % 256 := IntKind.wrap_u8' n
theorem w16 (n : Int) : IntKind.u16.wrap n = n % 65536 := IntKind.wrap_u16 n
theorem w32 (n : Int) : IntKind.u32.wrap n = n % 4294967296 := IntKind.wrap_u32' n
theorem w64 (n : Int) : IntKind.u64.wrap n = n % 18446744073709551616 := by simp [IntKind.wrap, IntKind.bits, IntKind.signed]
theorem wi (n : Int) (h : -9223372036854775808 ≤ n ∧ n < 9223372036854775808) : IntKind.i64.wrap n = n := by
  rw [IntKind.wrap_i64]
  omega
theorem shr_eq (n : Int) (s : Int) (k : IntKind) : n.fdiv (2 ^ min s.toNat k.bits) = n / (2 ^ min s.toNat k.bits) := Int.fdiv_eq_ediv_of_nonneg _ (Int.le_of_lt (Int.pow_pos (by decide)))
/-- A number's lowest n bytes, the highest ahead. -/
def beB : Nat → Int → List Int
  | 0, _ => []
  | n + 1, v => beB n (v / 256) ++ [v % 256]
def beN (bs : List Int) : Int := bs.foldl (fun v b => v * 256 + b) 0
theorem beB_len (n : Nat) (v : Int) : (beB n v).length = n := by
  induction n generalizing v with
  | zero => rfl
  | succ n ih => simp [beB, ih]
theorem beB_bytes (n : Nat) (v : Int) : ByteL (beB n v) := by
  induction n generalizing v with
  | zero => intro x hx; cases hx
  | succ n ih =>
    intro x hx
    simp only [beB, List.mem_append, List.mem_singleton] at hx
    rcases hx with hx | rfl
    · exact ih _ x hx
    · omega
theorem beB_cons (n : Nat) (v : Int) : beB (n + 1) v = (v / 256 ^ n % 256) :: beB n v := by
  induction n generalizing v with
  | zero => simp [beB]
  | succ n ih =>
    rw [beB, ih, beB]
    simp only [List.cons_append]
    congr 2
    rw [Int.pow_succ, Int.mul_comm, Int.ediv_ediv_of_nonneg (by decide)]
theorem beN_append (xs : List Int) (b : Int) : beN (xs ++ [b]) = beN xs * 256 + b := by simp [beN]
theorem beN_beB (n : Nat) (v : Int) : beN (beB n v) = v % 256 ^ n := by
  induction n generalizing v with
  | zero => simp [beB, beN, Int.emod_one]
  | succ n ih =>
    rw [beB, beN_append, ih, Int.pow_succ]
    have hp : (0 : Int) < 256 ^ n := Int.pow_pos (by decide)
    have h1 := Int.emod_add_mul_ediv (v / 256) (256 ^ n)
    have h2 := Int.emod_nonneg (v / 256) (Int.ne_of_gt hp)
    have h3 := Int.emod_lt_of_pos (v / 256) hp
    generalize v / 256 % 256 ^ n = m at *
    generalize v / 256 / 256 ^ n = d at *
    generalize hq : (256 : Int) ^ n = q at *
    have h4 : v = (m * 256 + v % 256) + (q * 256) * d := by
      have : q * 256 * d = 256 * (q * d) := by rw [Int.mul_comm q 256, Int.mul_assoc]
      rw [this]
      omega
    have h5 : v % (q * 256) = (m * 256 + v % 256) % (q * 256) := by
      generalize v % 256 = r at *
      subst h4
      rw [Int.add_mul_emod_self_left]
    exact (h5.trans (Int.emod_eq_of_lt (by omega) (by omega))).symm
theorem beN_nonneg {xs : List Int} (h : ByteL xs) : 0 ≤ beN xs := by
  have : ∀ (l : List Int) (v : Int), ByteL l → 0 ≤ v → 0 ≤ l.foldl (fun v b => v * 256 + b) v := by
    intro l
    induction l with
    | nil => intro v _ hv; exact hv
    | cons b l ih =>
      intro v hb hv
      have := hb b (by simp)
      exact ih _ (fun y hy => hb y (List.mem_cons_of_mem _ hy)) (show 0 ≤ v * 256 + b by omega)
  exact this xs 0 h (by decide)
theorem beN_lt {xs : List Int} (h : ByteL xs) : beN xs < 256 ^ xs.length := by
  have : ∀ (l : List Int) (v : Int), ByteL l → l.foldl (fun v b => v * 256 + b) v < (v + 1) * 256 ^ l.length := by
    intro l
    induction l with
    | nil => intro v _; simp; omega
    | cons b l ih =>
      intro v hb
      have hx := hb b (by simp)
      have h1 := ih (v * 256 + b) (fun y hy => hb y (List.mem_cons_of_mem _ hy))
      simp only [List.foldl_cons, List.length_cons, Int.pow_succ]
      have hp : (0 : Int) < 256 ^ l.length := Int.pow_pos (by decide)
      have : (v * 256 + b + 1) * 256 ^ l.length ≤ (v + 1) * 256 * 256 ^ l.length := Int.mul_le_mul_of_nonneg_right (by omega) (Int.le_of_lt hp)
      rw [show (v + 1) * (256 ^ l.length * 256) = (v + 1) * 256 * 256 ^ l.length by rw [Int.mul_assoc, Int.mul_comm 256]]
      omega
  have := this xs 0 h
  simpa [beN] using this
theorem beB_beN {xs : List Int} (h : ByteL xs) : beB xs.length (beN xs) = xs := by
  have : ∀ (n : Nat) (l : List Int), l.length = n → ByteL l → beB n (beN l) = l := by
    intro n
    induction n with
    | zero => intro l hl _; rw [List.eq_nil_of_length_eq_zero hl]; rfl
    | succ n ih =>
      intro l hl hb
      rcases List.eq_nil_or_concat l with rfl | ⟨ys, b, rfl⟩
      · cases hl
      rw [List.concat_eq_append] at *
      have hx := hb b (by simp)
      have e1 : (beN ys * 256 + b) / 256 = beN ys := by omega
      have e2 : (beN ys * 256 + b) % 256 = b := by omega
      rw [beN_append, beB, e1, e2, ih ys (by simpa using hl) (fun y hy => hb y (by simp [hy]))]
  exact this _ xs rfl h
theorem ByteL.app {xs ys : List Int} (h : ByteL xs) (k : ByteL ys) : ByteL (xs ++ ys) := fun x hx => (List.mem_append.1 hx).elim (h x) (k x)
theorem ByteL.drop {xs : List Int} (h : ByteL xs) (n : Nat) : ByteL (xs.drop n) := fun x hx => h x (List.mem_of_mem_drop hx)
theorem ByteL.take {xs : List Int} (h : ByteL xs) (n : Nat) : ByteL (xs.take n) := fun x hx => h x (List.mem_of_mem_take hx)
theorem ByteL.getD {xs : List Int} (h : ByteL xs) (i : Nat) : 0 ≤ xs.getD i 0 ∧ xs.getD i 0 ≤ 255 := by
  rw [List.getD_eq_getElem?_getD]
  rcases hx : xs[i]? with _ | x
  · simp
  · exact h x (List.mem_of_getElem? hx)
theorem ByteL.nil : ByteL [] := fun x hx => by cases hx
theorem ByteL.cons {x : Int} {xs : List Int} (h : 0 ≤ x ∧ x ≤ 255) (k : ByteL xs) : ByteL (x :: xs) := fun y hy => by
  rcases List.mem_cons.1 hy with rfl | hy
  · exact h
  · exact k y hy
theorem byteL_cons {x : Int} {xs : List Int} : ByteL (x :: xs) ↔ (0 ≤ x ∧ x ≤ 255) ∧ ByteL xs := ⟨fun h => ⟨h x (by simp), fun y hy => h y (List.mem_cons_of_mem _ hy)⟩, fun h => ByteL.cons h.1 h.2⟩
theorem byteL_nil : ByteL [] ↔ True := ⟨fun _ => trivial, fun _ => ByteL.nil⟩
/-! bits of numbers that aren't below zero -/
theorem or_add {k : IntKind} {a b : Int} (s : Nat) (hk : k = .u8 ∨ k = .u16 ∨ k = .u32 ∨ k = .u64) (ha : 0 ≤ a) (hb : 0 ≤ b) (h1 : a % 2 ^ s = 0) (h2 : b < 2 ^ s) (h3 : a + b < 2 ^ k.bits) : bits .or k a b = a + b := by
  obtain ⟨A, rfl⟩ := Int.eq_ofNat_of_zero_le ha
  obtain ⟨B, rfl⟩ := Int.eq_ofNat_of_zero_le hb
  have e1 : A % 2 ^ s = 0 := by
    have : ((A % 2 ^ s : Nat) : Int) = 0 := by simpa using h1
    omega
  have e2 : B < 2 ^ s := by
    have : ((B : Nat) : Int) < ((2 ^ s : Nat) : Int) := by simpa using h2
    omega
  have hj := nat_join s A B e1 e2
  rcases hk with rfl | rfl | rfl | rfl <;> simp only [IntKind.bits] at h3
  · rw [u8_or_nat _ _ (by omega) (by omega), hj]; omega
  · rw [u16_or_nat _ _ (by omega) (by omega), hj]; omega
  · rw [u32_or_nat _ _ (by omega) (by omega), hj]; omega
  · rw [u64_or_nat _ _ (by omega) (by omega), hj]; omega
theorem intsOf_len : ∀ {cs : List Value} {xs : List Int}, intsOf cs = some xs → cs = xs.map (Value.int .u8)
  | [], xs, h => by simp [intsOf] at h; subst h; rfl
  | c :: cs, xs, h => by
    cases c with
    | int k n =>
      cases k <;> simp [intsOf] at h
      obtain ⟨ys, hy, rfl⟩ := h
      simp [intsOf_len hy]
    | _ => simp [intsOf] at h
theorem Stt.toI {X : List Nat} {H0 H : Hp} {L : List Ent} {ob : Option Nat} {ok rw0 : Bool} {e0 : TypeId} {cs : List Value} {xs xs' : List Int} (st : Stt X H0 H L) (j : Nat) (hi : L[j]? = some ⟨ob, ok, ⟨rw0, e0, cs⟩⟩) (h : intsOf cs = some xs) (nf : NfL xs xs') : Stt X H0 H (L.set j ⟨ob, ok, ⟨rw0, e0, xs'.map (Value.int .u8)⟩⟩) := by
  have e : L.set j ⟨ob, ok, ⟨rw0, e0, xs'.map (Value.int .u8)⟩⟩ = L := by
    rw [← nf.eq, ← intsOf_len h]
    apply List.ext_getElem?
    intro i
    rw [List.getElem?_set]
    split
    · rename_i hij; subst hij
      rw [if_pos (List.getElem?_eq_some_iff.1 hi).1, hi]
    · rfl
  rw [e]; exact st
/-! texts of bytes -/
theorem ofInts_toList (xs : List Int) : (ofInts xs).data.toList = xs.map fun n => UInt8.ofNat n.toNat := by
  have : ∀ (xs : List Int) (r : ByteArray), (xs.foldl (fun r n => r.push (UInt8.ofNat n.toNat)) r).data.toList = r.data.toList ++ xs.map fun n => UInt8.ofNat n.toNat := by
    intro xs
    induction xs with
    | nil => intro r; simp
    | cons x xs ih => intro r; rw [List.foldl_cons, ih]; simp [ByteArray.push]
  simpa [ofInts] using this xs ByteArray.empty
theorem ofInts_inj {xs ys : List Int} (hx : ByteL xs) (hy : ByteL ys) (h : ofInts xs = ofInts ys) : xs = ys := by
  have h1 : xs.map (fun n => UInt8.ofNat n.toNat) = ys.map fun n => UInt8.ofNat n.toNat := by rw [← ofInts_toList, ← ofInts_toList, h]
  have h2 := congrArg (List.map fun u : UInt8 => (u.toNat : Int)) h1
  have e : ∀ zs : List Int, ByteL zs → (zs.map fun n => UInt8.ofNat n.toNat).map (fun u : UInt8 => (u.toNat : Int)) = zs := by
    intro zs hz
    rw [List.map_map]
    conv => rhs; rw [← List.map_id zs]
    refine List.map_congr_left fun z hzm => ?_
    have := hz z hzm
    simp [UInt8.toNat_ofNat']
    omega
  rwa [e xs hx, e ys hy] at h2
theorem text_eq (a b : ByteArray) : (a.toList == b.toList) = true ↔ a = b := by
  rw [beq_iff_eq]
  constructor
  · intro h
    apply ByteArray.ext
    apply Array.ext'
    have t : ∀ c : ByteArray, c.toList = c.data.toList := fun c => ByteArray.toList_eq c
    rw [← t, ← t, h]
  · intro h; rw [h]
theorem texts_beq {xs ys : List Int} (hx : ByteL xs) (hy : ByteL ys) : ((ofInts xs).toList == (ofInts ys).toList) = decide (xs = ys) := by
  rw [Bool.eq_iff_iff, text_eq, decide_eq_true_iff]
  exact ⟨ofInts_inj hx hy, fun h => by rw [h]⟩
end Go.Proofs.Ytloeadlmcdddnaa.Abs
