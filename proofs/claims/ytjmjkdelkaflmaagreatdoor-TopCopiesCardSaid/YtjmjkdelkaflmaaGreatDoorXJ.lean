/- The guard. -/
import Derived.Test.YtjmjkdelkaflmaaGreatDoorXI
set_option linter.unusedVariables false
set_option linter.unusedSimpArgs false
set_option maxRecDepth 100000
namespace Go.Proofs.YtjmjkdelkaflmaaGreatDoor.Abs
open Go Go.RowKit
def c16b (s : Int) : Int := if (s.fdiv (2 ^ min (15 : Int).toNat IntKind.u16.bits)) == 1 then bits .xor .u16 (IntKind.u16.wrap (s * 2 ^ min (1 : Int).toNat IntKind.u16.bits)) 35767 else IntKind.u16.wrap (s * 2 ^ min (1 : Int).toNat IntKind.u16.bits)
theorem c16b_t {s : Int} (h : ((s.fdiv (2 ^ min (15 : Int).toNat IntKind.u16.bits)) == 1) = true) : c16b s = bits .xor .u16 (IntKind.u16.wrap (s * 2 ^ min (1 : Int).toNat IntKind.u16.bits)) 35767 := if_pos h
theorem c16b_f {s : Int} (h : ((s.fdiv (2 ^ min (15 : Int).toNat IntKind.u16.bits)) == 1) = false) : c16b s = IntKind.u16.wrap (s * 2 ^ min (1 : Int).toNat IntKind.u16.bits) := if_neg (by rw [h]; simp)
def rep {α : Type} (f : α → α) : Nat → α → α
 | 0, x => x
 | n + 1, x => rep f n (f x)
def c16y (s b : Int) : Int := rep c16b 8 (bits .xor .u16 s (IntKind.u16.wrap (IntKind.u16.wrap b * 2 ^ min (8 : Int).toNat IntKind.u16.bits)))
theorem rep_succ {α : Type} (f : α → α) : ∀ (n : Nat) (x : α), rep f (n + 1) x = f (rep f n x)
 | 0, x => rfl
 | n + 1, x => rep_succ f n (f x)
theorem add16 {H : Hp} {s : Int} {xs : List Int} {b o n c : Nat} (hx : H.sl 1 (.slice (some ⟨b, o, none⟩) n c) = some (xs.map (.int .u8))) (hn : xs.length = n) (hb : n ≤ 140737488355328) :
  ACalls Tryz.prog 184 [.int .u16 s, .slice (some ⟨b, o, none⟩) n c] H fun v H' => v = .int .u16 (xs.foldl c16y s) ∧ H' = H := by
 refine acalls Tryz.func184 f184_ok (Nat.le_of_ble_eq_true rfl) ?_
 unfold f184c
 show AWl _ _ _ _ _
 refine sN rfl rfl (by constructor) ?_
 refine sE ?_
 show AWl _ _ _ _ _
 refine sN rfl rfl (by constructor) (sN rfl rfl (by constructor) (sN rfl rfl (by constructor) (sE ?_)))
 show AW _ (.loop _) _ _ _
 refine AW_loop (fun t' H' => H' = H ∧ ∃ j : Nat, j ≤ n ∧ t' 0 = .int .u16 ((xs.take j).foldl c16y s) ∧ t' 8 = .slice (some ⟨b, o, none⟩) n c ∧ t' 9 = .int .i64 n ∧ t' 10 = .int .i64 j) (fun t' _ => n - (intOf (t' 10)).toNat) ⟨rfl, 0, Nat.zero_le _, rfl, rfl, rfl, rfl⟩ ?_
 rintro t H ⟨rfl, j, hj, h0, h8, h9, h10⟩
 obtain ⟨u, rfl⟩ : ∃ u, t = upd (upd (upd (upd u (some 0) _) (some 8) _) (some 9) _) (some 10) _ := ⟨t, by rw [upd_self h0, upd_self h8, upd_self h9, upd_self h10]⟩
 clear h0 h8 h9 h10
 show AWl _ _ _ _ _
 refine sN rfl rfl (by constructor) (sE ?_)
 show AW _ (.cond _ _ _) _ _ _
 refine AW_cond rfl (fun hlt => ?_) (fun hge => ?_)
 ·have hlt : j < n := by have := of_decide_eq_true hlt; omega
  show AWl _ _ _ _ _
  refine sN rfl (e_iadr rfl rfl (by omega)) (by constructor) ?_
  have hxj : (xs.map (Value.int .u8))[j]? = some (.int .u8 xs[j]) := by simp [hn, hlt]
  refine sN rfl (e_load rfl (by simpa using get_sl hx hlt hxj)) (by constructor) ?_
  refine sN rfl rfl (by constructor) (sE ?_)
  show AWl _ _ _ _ _
  refine sN rfl rfl (by constructor) (sN rfl rfl (by constructor) (sN rfl rfl (by constructor) (sN rfl rfl (by constructor) (sN rfl rfl (by constructor) (sN rfl rfl (by constructor) (sE ?_))))))
  show AWl _ _ _ _ _
  refine sN rfl rfl (by constructor) (sE ?_)
  show AW _ (.loop _) _ _ _
  refine AW_loop (fun t' H' => H' = H ∧ ∃ i : Nat, i ≤ 8 ∧ t' 0 = .int .u16 (rep c16b i (bits .xor .u16 ((xs.take j).foldl c16y s) (IntKind.u16.wrap (IntKind.u16.wrap xs[j] * 2 ^ min (8 : Int).toNat IntKind.u16.bits)))) ∧ t' 8 = .slice (some ⟨b, o, none⟩) n c ∧ t' 9 = .int .i64 n ∧ t' 10 = .int .i64 j ∧ t' 19 = .int .i64 i) (fun t' _ => 8 - (intOf (t' 19)).toNat) ⟨rfl, 0, by omega, rfl, rfl, rfl, rfl, rfl⟩ ?_
  rintro t H ⟨rfl, i, hi, h0, h8, h9, h10, h19⟩
  obtain ⟨u, rfl⟩ : ∃ u, t = upd (upd (upd (upd (upd u (some 0) _) (some 8) _) (some 9) _) (some 10) _) (some 19) _ := ⟨t, by rw [upd_self h0, upd_self h8, upd_self h9, upd_self h10, upd_self h19]⟩
  clear h0 h8 h9 h10 h19
  show AWl _ _ _ _ _
  refine sN rfl rfl (by constructor) (sE ?_)
  show AW _ (.cond _ _ _) _ _ _
  refine AW_cond rfl (fun hlt2 => ?_) (fun hge => ?_)
  ·have hlt2 : i < 8 := by have := of_decide_eq_true hlt2; omega
   show AWl _ _ _ _ _
   refine sN rfl rfl (by constructor) (sN rfl rfl (by constructor) (sN rfl rfl (by constructor) (sE ?_)))
   show AWl _ _ _ _ _
   refine sN rfl rfl (by constructor) (sN rfl rfl (by constructor) (sN rfl rfl (by constructor) (sE ?_)))
   show AWl _ _ _ _ _
   refine sN rfl rfl (by constructor) (sN rfl rfl (by constructor) (sE ?_))
   show AW _ (.cond _ _ _) _ _ _
   have wi : IntKind.i64.wrap ((i : Int) + 1) = ((i + 1 : Nat) : Int) := by rw [IntKind.wrap_i64]; omega
   refine AW_cond rfl (fun hbit => ?_) (fun hbit => ?_)
   ·show AWl _ _ _ _ _
    refine sN rfl rfl (by constructor) (sN rfl rfl (by constructor) (sN rfl rfl (by constructor) (sE ?_)))
    show AWl _ _ _ _ _
    refine sN rfl rfl (by constructor) (sN rfl rfl (by constructor) (sE ?_))
    refine ⟨⟨rfl, i + 1, by omega, ?_, rfl, rfl, rfl, ?_⟩, ?_⟩
    ·rw [rep_succ]
     exact congrArg (Value.int .u16) (c16b_t hbit).symm
    ·exact congrArg (Value.int .i64) wi
    ·show 8 - (IntKind.i64.wrap ((i : Int) + 1)).toNat < 8 - (i : Int).toNat
     rw [wi]
     omega
   ·show AWl _ _ _ _ _
    refine sN rfl rfl (by constructor) (sN rfl rfl (by constructor) (sE ?_))
    refine ⟨⟨rfl, i + 1, by omega, ?_, rfl, rfl, rfl, ?_⟩, ?_⟩
    ·rw [rep_succ]
     exact congrArg (Value.int .u16) (c16b_f hbit).symm
    ·exact congrArg (Value.int .i64) wi
    ·show 8 - (IntKind.i64.wrap ((i : Int) + 1)).toNat < 8 - (i : Int).toNat
     rw [wi]
     omega
  ·have hge : i = 8 := by
    have := of_decide_eq_false hge
    omega
   subst hge
   have wj : IntKind.i64.wrap ((j : Int) + 1) = ((j + 1 : Nat) : Int) := by
    rw [IntKind.wrap_i64]
    omega
   show AWl _ _ _ _ _
   refine sN rfl rfl (by constructor) (sN rfl rfl (by constructor) (sE ?_))
   refine ⟨⟨rfl, j + 1, by omega, ?_, rfl, rfl, ?_⟩, ?_⟩
   ·rw [List.take_succ_eq_append_getElem (by omega), List.foldl_append]
    rfl
   ·exact congrArg (Value.int .i64) wj
   ·show n - (IntKind.i64.wrap ((j : Int) + 1)).toNat < n - (j : Int).toNat
    rw [wj]
    omega
 ·have hge : j = n := by
   have := of_decide_eq_false hge
   omega
  show AWl _ _ _ _ _
  refine sN rfl rfl (by constructor) (sN rfl rfl (by constructor) (sE ?_))
  refine ⟨_, rfl, ?_, rfl⟩
  subst hge
  rw [← hn, List.take_length]
  rfl

theorem c16_call {H : Hp} {xs : List Int} {b o n c : Nat} (hx : H.sl 1 (.slice (some ⟨b, o, none⟩) n c) = some (xs.map (.int .u8))) (hn : xs.length = n) (hb : n ≤ 140737488355328) :
  ACalls Tryz.prog 164 [.slice (some ⟨b, o, none⟩) n c] H fun v H' => v = .int .u16 (xs.foldl c16y 0) ∧ H' = H := by
 refine acalls Tryz.func164 f164_ok (Nat.le_of_ble_eq_true rfl) ?_
 unfold f164c
 show AWl _ _ _ _ _
 refine sN rfl rfl (by constructor) (sE ?_)
 show AWl _ _ _ _ _
 refine sN rfl rfl (by constructor) ?_
 refine sC (add16 (s := 0) hx hn hb) fun v H' ⟨hv, hH⟩ => ?_
 subst hv hH
 refine sN rfl rfl (by constructor) (sE ?_)
 exact ⟨_, rfl, rfl, rfl⟩
theorem c16_sl {H : Hp} {xs : List Int} {x : Value} (hx : Sl H 1 xs.length (xs.map (Value.int .u8)) x) (hl : 0 < xs.length ∧ xs.length ≤ 1000) : ACalls Tryz.prog 164 [x] H fun v H' => v = .int .u16 (xs.foldl c16y 0) ∧ Stt [] H H' [] := by
 intro ρ w0 w ys h1 h2
 have hw : Wf H := fun b k hk => h2.live hk
 obtain ⟨p, c, rfl⟩ := hx.shape
 obtain ⟨_, ⟨h0, _⟩ | ⟨_, b, o, c', e, hg⟩⟩ := hx
 ·omega
 ·cases e
  refine ((c16_call (by have := Sl.sl (H := H) ⟨by simp, .inr ⟨hl.1, b, o, c, rfl, hg⟩⟩; exact this) rfl (by omega)).mono fun v H' hv => ?_) ρ w0 w ys h1 h2
  obtain ⟨rfl, rfl⟩ := hv
  exact ⟨rfl, Stt.start hw⟩

def blk (data : List Int) (g app ref : Int) : List Value := data.map (Value.int .u8) ++ [.int .u16 g, .int .u16 app, .int .u32 ref]
structure Bk where
  d : List Int
  g : Int
  a : Int
  r : Int
def Bk.ok (b : Bk) : Prop := b.d.length = 16 ∧ ByteL b.d ∧ (0 ≤ b.g ∧ b.g < 65536) ∧ (0 ≤ b.a ∧ b.a < 65536) ∧ (0 ≤ b.r ∧ b.r < 4294967296)
def Bk.enc (b : Bk) : List Value := blk b.d b.g b.a b.r
def encs (bs : List Bk) : List Value := bs.flatMap Bk.enc
def BksOk (bs : List Bk) : Prop := ∀ b ∈ bs, b.ok
theorem Bk_len {b : Bk} (h : b.ok) : b.enc.length = 19 := by simp [Bk.enc, blk, h.1]
theorem encs_len {bs : List Bk} (h : BksOk bs) : (encs bs).length = bs.length * 19 := by
  induction bs with
  | nil => rfl
  | cons b bs ih =>
    have := Bk_len (h b (by simp))
    have := ih fun c hc => h c (List.mem_cons_of_mem _ hc)
    simp only [encs, List.flatMap_cons, List.length_append, List.length_cons] at *
    omega
theorem encs_get {bs : List Bk} (h : BksOk bs) {j : Nat} (hj : j < bs.length) : ((encs bs).drop (j * 19)).take 19 = bs[j].enc := by
  induction bs generalizing j with
  | nil => simp at hj
  | cons b bs ih =>
    have hb := Bk_len (h b (by simp))
    cases j with
    | zero => simp [encs, List.flatMap_cons, ← hb]
    | succ j =>
      have := ih (fun c hc => h c (List.mem_cons_of_mem _ hc)) (j := j) (by simpa using hj)
      simp only [encs, List.flatMap_cons, List.getElem_cons_succ] at *
      rw [show (j + 1) * 19 = 19 + j * 19 by omega, ← List.drop_drop, List.drop_left' hb]
      exact this
/-- A block's bytes. -/
def pkB (w : Bool) (b : Bk) : List Int := b.d ++ (if w = true then beB 2 b.g ++ (beB 2 b.a ++ beB 4 b.r) else [])
def pkL (w : Bool) (bs : List Bk) : List Int := bs.flatMap (pkB w)
theorem pkB_len {w : Bool} {b : Bk} (h : b.ok) : (pkB w b).length = if w = true then 24 else 16 := by
  unfold pkB
  split <;> simp [h.1, beB_len]
theorem pkL_len {w : Bool} {bs : List Bk} (h : BksOk bs) : (pkL w bs).length = bs.length * (if w = true then 24 else 16) := by
  induction bs with
  | nil => simp [pkL]
  | cons b bs ih =>
    have h1 := pkB_len (w := w) (h b (by simp))
    have h2 := ih fun c hc => h c (List.mem_cons_of_mem _ hc)
    simp only [pkL, List.flatMap_cons, List.length_append, List.length_cons, h1] at *
    rw [h2, Nat.add_mul]
    omega
theorem pkL_take {w : Bool} {bs : List Bk} {j : Nat} (hj : j < bs.length) : pkL w (bs.take (j + 1)) = pkL w (bs.take j) ++ pkB w bs[j] := by
  unfold pkL
  rw [List.take_add_one, List.getElem?_eq_getElem hj, List.flatMap_append]
  simp
theorem pkL_bytes {w : Bool} {bs : List Bk} (h : BksOk bs) : ByteL (pkL w bs) := by
  intro x hx
  obtain ⟨b, hb, hx⟩ := List.mem_flatMap.1 hx
  unfold pkB at hx
  rcases List.mem_append.1 hx with hx | hx
  · exact (h b hb).2.1 x hx
  · split at hx
    · rcases List.mem_append.1 hx with hx | hx
      · exact beB_bytes _ _ x hx
      · exact ((beB_bytes _ _).app (beB_bytes _ _)) x hx
    · cases hx
theorem be2 {g : Int} (h : 0 ≤ g ∧ g < 65536) : beB 2 g = [IntKind.u8.wrap (g.fdiv (2 ^ min (8 : Int).toNat IntKind.u16.bits)), IntKind.u8.wrap g] := by
  rw [shr_eq, w8, w8, show (2 : Int) ^ min (8 : Int).toNat IntKind.u16.bits = 256 by decide]
  simp [beB]
theorem be4 {g : Int} (h : 0 ≤ g ∧ g < 4294967296) : beB 4 g = [IntKind.u8.wrap (g.fdiv (2 ^ min (24 : Int).toNat IntKind.u32.bits)), IntKind.u8.wrap (g.fdiv (2 ^ min (16 : Int).toNat IntKind.u32.bits)), IntKind.u8.wrap (g.fdiv (2 ^ min (8 : Int).toNat IntKind.u32.bits)), IntKind.u8.wrap g] := by
  rw [shr_eq, shr_eq, shr_eq, w8, w8, w8, w8, show (2 : Int) ^ min (8 : Int).toNat IntKind.u32.bits = 256 by decide, show (2 : Int) ^ min (16 : Int).toNat IntKind.u32.bits = 65536 by decide, show (2 : Int) ^ min (24 : Int).toNat IntKind.u32.bits = 16777216 by decide]
  simp [beB]
  omega

/-- The block that bytes are. -/
def unB (w : Bool) (c : List Int) : Bk :=
  { d := c.take 16, g := if w = true then c.getD 16 0 * 256 + c.getD 17 0 else 0, a := if w = true then c.getD 18 0 * 256 + c.getD 19 0 else 0, r := if w = true then ((c.getD 20 0 * 256 + c.getD 21 0) * 256 + c.getD 22 0) * 256 + c.getD 23 0 else 0 }
def szB (w : Bool) : Nat := if w = true then 24 else 16
def unL (w : Bool) (xs : List Int) : List Bk := (List.range (xs.length / szB w)).map fun k => unB w (xs.drop (k * szB w))
def unR (w : Bool) (xs : List Int) : List Bk := if xs.length % szB w = 0 then unL w xs else []
theorem unL_len (w : Bool) (xs : List Int) : (unL w xs).length = xs.length / szB w := by simp [unL]
theorem unB_ok {w : Bool} {c : List Int} (hc : ByteL c) (h : 16 ≤ c.length) : (unB w c).ok := by
  have g := fun i => hc.getD i
  have h16 := g 16
  have h17 := g 17
  have h18 := g 18
  have h19 := g 19
  have h20 := g 20
  have h21 := g 21
  have h22 := g 22
  have h23 := g 23
  refine ⟨by simp [unB]; omega, hc.take 16, ?_, ?_, ?_⟩ <;> simp only [unB] <;> split <;> omega
theorem unL_ok {w : Bool} {xs : List Int} (h : ByteL xs) : BksOk (unL w xs) := by
  intro b hb
  obtain ⟨k, hk, rfl⟩ := List.mem_map.1 hb
  have hk := List.mem_range.1 hk
  refine unB_ok (h.drop _) ?_
  rw [List.length_drop]
  have : (k + 1) * szB w ≤ xs.length := Nat.le_trans (Nat.mul_le_mul_right _ hk) (Nat.div_mul_le_self _ _)
  rw [Nat.add_mul] at this
  have : 16 ≤ szB w := by unfold szB; split <;> omega
  omega
theorem unL_take {w : Bool} {xs : List Int} {j : Nat} (hj : j < xs.length / szB w) : encs ((unL w xs).take (j + 1)) = encs ((unL w xs).take j) ++ (unB w (xs.drop (j * szB w))).enc := by
  have hl : j < (unL w xs).length := by rw [unL_len]; exact hj
  rw [List.take_add_one, List.getElem?_eq_getElem hl]
  simp [encs, unL]
theorem putAll (c rest : List Value) (hr : rest.length = 3) (z : List Value) (hz : z.length = 16) (m : Nat) (hc : 16 ≤ m) : (z ++ rest).take (0 + 0 + 0 * 1) ++ c.take (min m (16 - 0) * 1) ++ (z ++ rest).drop (0 + 0 + 0 * 1 + min m (16 - 0) * 1) = c.take 16 ++ rest := by
  rw [show min m (16 - 0) * 1 = 16 by omega, show (0 + 0 + 0 * 1 : Nat) = 0 from rfl, List.take_zero, List.nil_append, Nat.zero_add, List.drop_left' hz]
def rfieldE (len : Nat) (at_ n : Int) : Int := if n < 1 ∨ n > 8 then 1 else if at_ < 0 ∨ at_ ≥ len ∨ n > len - at_ then 4 else 0
theorem bigNext (v : Int) (j : Nat) : (v / 256 ^ j).fdiv (2 ^ min (8 : Int).toNat IntKind.u64.bits) = v / 256 ^ (j + 1) := by
  rw [shr_eq, show (2 : Int) ^ min (8 : Int).toNat IntKind.u64.bits = 256 by decide, Int.pow_succ, Int.ediv_ediv_of_nonneg (Int.le_of_lt (Int.pow_pos (by decide)))]
theorem rfieldE_ok {len : Nat} {at_ n : Int} (h : rfieldE len at_ n = 0) : 1 ≤ n ∧ n ≤ 8 ∧ 0 ≤ at_ ∧ at_ + n ≤ len := by
  unfold rfieldE at h
  repeat' split at h
  all_goals omega
def rgetV (xs : List Int) (at_ n : Int) : Int := if rfieldE xs.length at_ n = 0 then beN ((xs.drop at_.toNat).take n.toNat) else 0
theorem getStep {xs : List Int} (hb : ByteL xs) {a i : Nat} (hi : i < 8) (hl : a + i < xs.length) : beN ((xs.drop a).take i) * 256 + xs.getD (a + i) 0 = beN ((xs.drop a).take (i + 1)) ∧ 0 ≤ beN ((xs.drop a).take i) ∧ beN ((xs.drop a).take i) * 256 + xs.getD (a + i) 0 < 18446744073709551616 := by
  have e : (xs.drop a).take (i + 1) = (xs.drop a).take i ++ [xs.getD (a + i) 0] := by
    rw [List.take_add_one, List.getElem?_drop, List.getElem?_eq_getElem hl]
    simp [List.getD, List.getElem?_eq_getElem hl]
  have h1 := beN_nonneg ((hb.drop a).take i)
  have h2 := beN_lt ((hb.drop a).take (i + 1))
  rw [e, beN_append] at h2
  refine ⟨by rw [e, beN_append], h1, ?_⟩
  refine Int.lt_of_lt_of_le h2 ?_
  rw [show ((xs.drop a).take i ++ [xs.getD (a + i) 0]).length = i + 1 by simp; omega]
  have : i = 0 ∨ i = 1 ∨ i = 2 ∨ i = 3 ∨ i = 4 ∨ i = 5 ∨ i = 6 ∨ i = 7 := by omega
  rcases this with h | h | h | h | h | h | h | h <;> subst h <;> decide
theorem field_call {H : Hp} {xs : List Int} {x : Value} {at_ n : Int} (hx : Sl H 1 xs.length (xs.map (Value.int .u8)) x) (hl : xs.length ≤ 1000000000000000) (hn : -9000000000000000000 ≤ n ∧ n ≤ 9000000000000000000) :
  ACalls Tryz.prog 67 [x, .int .i64 at_, .int .i64 n] H (fun v H' => v = .int .i64 (rfieldE xs.length at_ n) ∧ Stt [] H H' []) := by
 refine acallsW Tryz.func67 f67_ok (Nat.le_of_ble_eq_true rfl) fun hw => ?_
 have st : Stt [] H H [] := Stt.start hw
 unfold f67c
 refine zw ?_
 refine zm ?_
 refine zw ?_
 iterate 3 refine zm ?_
 refine gCase 10 rfl (fun h1 => ?_) (fun h1 => ?_)
 ·refine gF rfl (by decide) ?_
  refine zk ?_
  iterate 2 refine zm ?_
  show AW _ (.cond _ _ _) _ _ _
  refine cT rfl ?_
  refine zw ?_
  refine zm ?_
  refine sE ?_
  refine ⟨_, out1 zr, ?_⟩
  simp only [zq] at h1
  refine ⟨congrArg (Value.int .i64) ?_, st.drop⟩
  unfold rfieldE
  repeat' split
  all_goals first | rfl | omega
 ·refine gT rfl ?_
  refine zm ?_
  refine zg ?_
  iterate 3 refine zm ?_
  show AW _ (.cond _ _ _) _ _ _
  refine cC' rfl (fun h2 => ?_) (fun h2 => ?_)
  ·show AWl _ _ _ _ _
   refine zm ?_
   refine sE ?_
   refine ⟨_, out1 zr, ?_⟩
   simp only [zq] at h1 h2
   refine ⟨congrArg (Value.int .i64) ?_, st.drop⟩
   unfold rfieldE
   repeat' split
   all_goals first | rfl | omega
  ·show AWl _ _ _ _ _
   iterate 3 refine zm ?_
   refine gCase 17 rfl (fun h3 => ?_) (fun h3 => ?_)
   ·refine gF rfl (by decide) ?_
    iterate 5 refine zk ?_
    iterate 2 refine zm ?_
    show AW _ (.cond _ _ _) _ _ _
    refine cT rfl ?_
    refine zw ?_
    refine zm ?_
    refine sE ?_
    refine ⟨_, out1 zr, ?_⟩
    simp only [zq] at h1 h2 h3
    refine ⟨congrArg (Value.int .i64) ?_, st.drop⟩
    unfold rfieldE
    repeat' split
    all_goals first | rfl | omega
   ·refine gT rfl ?_
    refine zm ?_
    refine zg ?_
    refine aMovV x rfl ?_
    refine zg ?_
    refine aLen (st.slc hx) rfl ?_
    refine zg ?_
    refine zm ?_
    refine zg ?_
    refine zm ?_
    refine zg ?_
    iterate 3 refine zm ?_
    show AW _ (.cond _ _ _) _ _ _
    refine cC' rfl (fun h4 => ?_) (fun h4 => ?_)
    ·show AWl _ _ _ _ _
     refine zm ?_
     refine sE ?_
     refine ⟨_, out1 zr, ?_⟩
     have hwi := wi ((xs.length : Int) - n) (by omega)
     simp only [hwi] at *
     simp only [zq] at h1 h2 h3 h4
     refine ⟨congrArg (Value.int .i64) ?_, st.drop⟩
     unfold rfieldE
     repeat' split
     all_goals first | rfl | omega
    ·show AWl _ _ _ _ _
     refine zm ?_
     refine sE ?_
     refine ⟨_, out1 zr, ?_⟩
     have hwi := wi ((xs.length : Int) - n) (by omega)
     simp only [hwi] at *
     simp only [zq] at h1 h2 h3 h4
     refine ⟨congrArg (Value.int .i64) ?_, st.drop⟩
     unfold rfieldE
     repeat' split
     all_goals first | rfl | omega
theorem getD_dropB {l : List Int} {n i : Nat} : (l.drop n).getD i 0 = l.getD (n + i) 0 := by simp [List.getD]
theorem getD_take {l : List Int} {n i : Nat} (h : i < n) : (l.take n).getD i 0 = l.getD i 0 := by simp [List.getD, List.getElem?_take, h]
theorem get_call {H : Hp} {xs : List Int} {x : Value} {at_ n : Int} (hx : Sl H 1 xs.length (xs.map (Value.int .u8)) x) (hb : ByteL xs) (hl : xs.length ≤ 1000000000000000) (hn : -9000000000000000000 ≤ n ∧ n ≤ 9000000000000000000) :
  ACalls Tryz.prog 95 [x, .int .i64 at_, .int .i64 n] H (fun v H' => v = .tuple #[.int .u64 (rgetV xs at_ n), .int .i64 (rfieldE xs.length at_ n)] ∧ Stt [] H H' []) := by
 refine acallsW Tryz.func95 f95_ok (Nat.le_of_ble_eq_true rfl) fun hw => ?_
 have st : Stt [] H H [] := Stt.start hw
 unfold f95c
 refine zw ?_
 iterate 2 refine zm ?_
 refine zw ?_
 refine aMovV x rfl ?_
 iterate 2 refine zm ?_
 refine aC (field_call (st.slc hx) hl hn) fun v15 H1 ⟨hv, st1⟩ => ?_
 subst hv
 replace st := st.call st1 rfl
 clear st1
 refine zm ?_
 refine zw ?_
 iterate 2 refine zm ?_
 show AW _ (.cond _ _ _) _ _ _
 refine cC' rfl (fun h2 => ?_) (fun h2 => ?_)
 ·show AWl _ _ _ _ _
  iterate 3 refine zm ?_
  refine sE ?_
  refine ⟨_, out2 zr zr ⟨rfl, rfl⟩, ?_⟩
  have hf : ¬ rfieldE xs.length at_ n = 0 := by simpa using h2
  exact ⟨by unfold rgetV; rw [if_neg hf], st.drop⟩
 ·have hf : rfieldE xs.length at_ n = 0 := by simpa using h2
  have hr := rfieldE_ok hf
  refine zw ?_
  refine zm ?_
  refine zw ?_
  refine aMovV x rfl ?_
  iterate 4 refine zm ?_
  refine aCutLH (st.slc hx) rfl rfl rfl (by rw [wi _ (by omega)]; omega) fun v24 s24 => ?_
  replace s24 := s24 _ hx
  refine aLen (st.slc s24) rfl ?_
  refine zm ?_
  refine sE ?_
  show AW _ (.loop _) _ _ _
  refine AW_loopN (fun m t1 H1 => ∃ (i : Nat), m = n.toNat - i ∧ ((i : Int) ≤ n) ∧ t1 9 = .int .u64 (beN ((xs.drop at_.toNat).take i)) ∧ t1 26 = .int .i64 (i : Int) ∧ Stt [] H H1 []) (n.toNat - 0) ⟨0, rfl, by omega, rfl, rfl, (st.sel [] (by decide))⟩ [9, 11, 26, 27, 28, 29, 30, 31, 32, 33, 34, 35] (by decide) ?_
  rintro m t1 H1 hk hI
  obtain ⟨i, rfl, hf0, ht9, ht26, st⟩ := hI
  obtain ⟨u, rfl⟩ : ∃ u, t1 = (upd (upd (mix [9, 11, 26, 27, 28, 29, 30, 31, 32, 33, 34, 35] _ u) (some 9) _) (some 26) _) := ⟨t1, by rw [← hk, upd_self ht9, upd_self ht26]⟩
  clear hk ht9 ht26
  refine zw ?_
  refine zm ?_
  show AW _ (.cond _ _ _) _ _ _
  refine cC' rfl (fun h3 => ?_) (fun h3 => ?_)
  ·have e1 : (IntKind.i64.wrap (at_ + n)).toNat - at_.toNat = n.toNat := by rw [wi _ (by omega)]; omega
   have hlt : (i : Int) < n := by have := of_decide_eq_true h3; rw [e1] at this; omega
   obtain ⟨q1, q2, q3⟩ := getStep hb (a := at_.toNat) (i := i) (by omega) (by omega)
   have hb1 := hb.getD (at_.toNat + i)
   have hstep : bits .or .u64 (IntKind.u64.wrap (beN ((xs.drop at_.toNat).take i) * 2 ^ min (8 : Int).toNat IntKind.u64.bits)) (IntKind.u64.wrap (((xs.drop at_.toNat).take ((IntKind.i64.wrap (at_ + n)).toNat - at_.toNat)).getD ((i : Int)).toNat 0)) = beN ((xs.drop at_.toNat).take (i + 1)) := by
    rw [e1, getD_take (by omega), getD_dropB, show ((i : Int)).toNat = i from rfl, show (2 : Int) ^ min (8 : Int).toNat IntKind.u64.bits = 256 by decide, ← q1, w64, w64]
    rw [or_add 8 (.inr (.inr (.inr rfl))) (by omega) (by omega) (by rw [show (2 : Int) ^ 8 = 256 by decide]; omega) (by rw [show (2 : Int) ^ 8 = 256 by decide]; omega) (by rw [show (2 : Int) ^ IntKind.u64.bits = 18446744073709551616 by decide]; omega)]
    omega
   refine zw ?_
   refine aIxB (st.slc s24) rfl rfl (by rw [wi _ (by omega)] at *; omega) fun b28 o28 g28 => ?_
   refine aLdG rfl g28 ?_
   refine zm ?_
   refine zw ?_
   iterate 6 refine zm ?_
   refine zw ?_
   iterate 2 refine zm ?_
   refine sE ?_
   exact ⟨_, by omega, i + 1, rfl, by omega, congrArg (Value.int .u64) hstep, congrArg (Value.int .i64) (wi _ (by omega)), (st.sel [] (by decide))⟩
  ·have e1 : (IntKind.i64.wrap (at_ + n)).toNat - at_.toNat = n.toNat := by rw [wi _ (by omega)]; omega
   have hge : n = (i : Int) := by have := of_decide_eq_false h3; rw [e1] at this; omega
   subst hge
   refine zw ?_
   iterate 3 refine zm ?_
   refine sE ?_
   refine ⟨_, out2 zr zr ⟨rfl, rfl⟩, ?_⟩
   exact ⟨by unfold rgetV; rw [if_pos hf, hf]; rfl, st.drop⟩
theorem field_ok {H : Hp} {xs : List Int} {x : Value} {at_ n : Int} (hx : Sl H 1 xs.length (xs.map (Value.int .u8)) x) (hl : xs.length ≤ 1000000000000000) (hr : 1 ≤ n ∧ n ≤ 8 ∧ 0 ≤ at_ ∧ at_ + n ≤ xs.length) : ACalls Tryz.prog 67 [x, .int .i64 at_, .int .i64 n] H (fun v H' => v = .int .i64 0 ∧ Stt [] H H' []) := by
  refine (field_call hx hl (by omega)).mono fun v H' ⟨h, st⟩ => ⟨?_, st⟩
  rw [h]
  congr 1
  unfold rfieldE
  rw [if_neg (by omega), if_neg (by omega)]
theorem putZero {n v : Int} (hn : 1 ≤ n) (h8 : n ≤ 8) (hv : 0 ≤ v ∧ v < 256 ^ n.toNat) : v.fdiv (2 ^ min (IntKind.i64.wrap (8 * n)).toNat IntKind.u64.bits) = 0 := by
  rw [shr_eq, wi _ (by omega)]
  have h64 : IntKind.u64.bits = 64 := rfl
  have hm : min (8 * n).toNat IntKind.u64.bits = 8 * n.toNat := by omega
  rw [hm, Int.pow_mul]
  exact Int.ediv_eq_zero_of_lt hv.1 (by simpa using hv.2)
/-- Bytes with the lowest j bytes of a number laid in. -/
def putL (xs : List Int) (at_ n v : Int) (j : Nat) : List Int := xs.take (at_.toNat + n.toNat - j) ++ beB j v ++ xs.drop (at_.toNat + n.toNat)
theorem putL_len {xs : List Int} {at_ n v : Int} {j : Nat} (hr : 1 ≤ n ∧ n ≤ 8 ∧ 0 ≤ at_ ∧ at_ + n ≤ xs.length) (hj : (j : Int) ≤ n) : (putL xs at_ n v j).length = xs.length := by
  simp [putL, beB_len]
  omega
theorem putL_zero {xs : List Int} {at_ n v : Int} : putL xs at_ n v 0 = xs := by simp [putL, beB]
theorem putL_all {xs : List Int} {at_ n v : Int} {j : Nat} (hr : 1 ≤ n ∧ n ≤ 8 ∧ 0 ≤ at_ ∧ at_ + n ≤ xs.length) (hj : (j : Int) = n) : putL xs at_ n v j = xs.take at_.toNat ++ beB n.toNat v ++ xs.drop (at_.toNat + n.toNat) := by
  have : j = n.toNat := by omega
  subst this
  simp [putL]
theorem putStep (xs : List Int) {at_ n : Int} (v : Int) {j : Nat} (hr : 1 ≤ n ∧ n ≤ 8 ∧ 0 ≤ at_ ∧ at_ + n ≤ xs.length) (hj : (0 : Int) ≤ n - 1 - j) (hL : xs.length ≤ 140737488351232) : ((putL xs at_ n v j).map (Value.int .u8)).set (0 + (IntKind.i64.wrap (at_ + (n - 1 - j))).toNat * 1) (.int .u8 (IntKind.u8.wrap (v / 256 ^ j))) = (putL xs at_ n v (j + 1)).map (Value.int .u8) := by
  have hb := hL
  · rw [wi _ (by omega)]
    have e : 0 + (at_ + (n - 1 - j)).toNat * 1 = at_.toNat + n.toNat - (j + 1) := by omega
    have hlt : at_.toNat + n.toNat - (j + 1) < xs.length := by omega
    have e2 : xs.take (at_.toNat + n.toNat - j) = xs.take (at_.toNat + n.toNat - (j + 1)) ++ [xs[at_.toNat + n.toNat - (j + 1)]] := by
      rw [show at_.toNat + n.toNat - j = at_.toNat + n.toNat - (j + 1) + 1 by omega, List.take_succ_eq_append_getElem hlt]
    have hl : (xs.take (at_.toNat + n.toNat - (j + 1))).length = at_.toNat + n.toNat - (j + 1) := by rw [List.length_take]; omega
    rw [e]
    unfold putL
    rw [e2, beB_cons, w8]
    generalize xs.take (at_.toNat + n.toNat - (j + 1)) = A at *
    generalize xs[at_.toNat + n.toNat - (j + 1)] = z
    rw [← hl]
    simp only [List.map_append, List.map_cons, List.map_nil, List.append_assoc]
    rw [List.set_append_right _ _ (by simp)]
    simp
theorem put_call {H : Hp} {xs : List Int} {x : Value} {at_ n v : Int} (hx : Sl H 1 xs.length (xs.map (Value.int .u8)) x) (hb : ByteL xs) (hl : xs.length ≤ 140737488351232) (hr : 1 ≤ n ∧ n ≤ 8 ∧ 0 ≤ at_ ∧ at_ + n ≤ xs.length) (hv : 0 ≤ v ∧ v < 256 ^ n.toNat) :
  ACalls Tryz.prog 33 [x, .int .i64 at_, .int .i64 n, .int .u64 v] H (fun v' H' => ∃ b, v' = .tuple #[.slice (some ⟨b, 0, none⟩) xs.length 1, .int .i64 0] ∧ Stt [] H H' [⟨some b, true, ⟨true, 5, (xs.take at_.toNat ++ beB n.toNat v ++ xs.drop (at_.toNat + n.toNat)).map (Value.int .u8)⟩⟩]) := by
 refine acallsW Tryz.func33 f33_ok (Nat.le_of_ble_eq_true rfl) fun hw => ?_
 have st : Stt [] H H [] := Stt.start hw
 unfold f33c
 refine zw ?_
 iterate 2 refine zm ?_
 refine zw ?_
 refine aMovV x rfl ?_
 iterate 2 refine zm ?_
 refine aC (field_ok (st.slc hx) (by omega) hr) fun v16 H1 ⟨hv, st1⟩ => ?_
 subst hv
 replace st := st.call st1 rfl
 clear st1
 refine zm ?_
 refine zw ?_
 refine zm ?_
 refine zb (.bool true) ?_
 refine zm ?_
 refine zg ?_
 refine zm ?_
 refine zg ?_
 iterate 3 refine zm ?_
 refine gCase 23 rfl (fun h2 => ?_) (fun h2 => ?_)
 ·refine gT rfl ?_
  refine zm ?_
  refine zg ?_
  refine zm ?_
  refine zg ?_
  refine zm ?_
  refine zg ?_
  refine aN rfl (e_shr rfl rfl (by rw [wi _ (by omega)]; omega)) (by constructor) ?_
  refine zg ?_
  iterate 2 refine zm ?_
  show AW _ (.cond _ _ _) _ _ _
  refine cC' rfl (fun h3 => ?_) (fun h3 => ?_)
  ·exact absurd h3 (by rw [putZero hr.1 (by omega) hv]; decide)
  ·show AWl _ _ _ _ _
   refine zm ?_
   refine zb (.bool false) ?_
   refine zf ?_
   refine zw ?_
   refine aMovV x rfl ?_
   have st := st.nil 5
   have hnil : (Value.slice none 0 0) = accV none 0 1 := rfl
   refine aAppP st 0 (ob := none) (n := 0) rfl rfl rfl (by decide) (rfl) (st.slc hx).src (by simp) (by omega) (by omega) (by omega) (NfL.any _) fun b34 H4 st => ?_
   refine zm ?_
   refine zw ?_
   iterate 3 refine zm ?_
   refine sE ?_
   show AW _ (.loop _) _ _ _
   refine AW_loopN (fun m t1 H1 => ∃ (j : Nat), m = n.toNat - j ∧ ((j : Int) ≤ n) ∧ t1 3 = .int .u64 (v / 256 ^ j) ∧ t1 12 = .int .i64 (n - 1 - j) ∧ Stt [] H H1 [⟨some b34, true, ⟨true, 5, (putL xs at_ n v j).map (Value.int .u8)⟩⟩]) (n.toNat - 0) ⟨0, rfl, by omega, congrArg (Value.int .u64) (by simp), congrArg (Value.int .i64) (by rw [wi _ (by omega)]; omega), (by rw [putL_zero]; exact (st.sel [0] (by decide)))⟩ [3, 12, 37, 38, 39, 40, 41, 42, 43, 44, 45, 46, 47, 48, 49] (by decide) ?_
   rintro m t1 H1 hk hI
   obtain ⟨j, rfl, hf0, ht3, ht12, st⟩ := hI
   obtain ⟨u, rfl⟩ : ∃ u, t1 = (upd (upd (mix [3, 12, 37, 38, 39, 40, 41, 42, 43, 44, 45, 46, 47, 48, 49] _ u) (some 3) _) (some 12) _) := ⟨t1, by rw [← hk, upd_self ht3, upd_self ht12]⟩
   clear hk ht3 ht12
   refine zw ?_
   iterate 2 refine zm ?_
   show AW _ (.cond _ _ _) _ _ _
   refine cC' rfl (fun h5 => ?_) (fun h5 => ?_)
   ·have hlt : (0 : Int) ≤ n - 1 - j := of_decide_eq_true h5
    refine zw ?_
    iterate 6 refine zm ?_
    refine aIxL rfl rfl (by rw [wi _ (by omega)]; omega) ?_
    refine aStAt st 0 rfl rfl rfl rfl rfl (by rw [wi _ (by omega), List.length_map, putL_len hr (by omega)]; omega) (putStep xs v hr hlt hl) fun H6 st => ?_
    refine zw ?_
    iterate 3 refine zm ?_
    refine zw ?_
    iterate 3 refine zm ?_
    refine sE ?_
    exact ⟨_, by omega, j + 1, rfl, by omega, congrArg (Value.int .u64) (bigNext v j), congrArg (Value.int .i64) (by rw [wi _ (by omega)]; omega), (st.sel [0] (by decide))⟩
   ·have hge : ¬ ((0 : Int) ≤ n - 1 - j) := of_decide_eq_false h5
    have hjn : (j : Int) = n := by omega
    refine zw ?_
    iterate 3 refine zm ?_
    refine sE ?_
    refine ⟨_, out2 zr zr ⟨rfl, rfl⟩, ?_⟩
    exact ⟨b34, by simp, by have st2 := st.pick 0 rfl; rw [putL_all hr hjn] at st2; exact st2⟩
 ·refine gF rfl (by decide) ?_
  iterate 4 refine zk ?_
  refine zm ?_
  refine zf ?_
  refine zw ?_
  refine zm ?_
  refine zb (.bool false) ?_
  refine zf ?_
  refine zw ?_
  refine aMovV x rfl ?_
  have st := st.nil 5
  have hnil : (Value.slice none 0 0) = accV none 0 1 := rfl
  refine aAppP st 0 (ob := none) (n := 0) rfl rfl rfl (by decide) (rfl) (st.slc hx).src (by simp) (by omega) (by omega) (by omega) (NfL.any _) fun b34 H7 st => ?_
  refine zm ?_
  refine zw ?_
  iterate 3 refine zm ?_
  refine sE ?_
  show AW _ (.loop _) _ _ _
  refine AW_loopN (fun m t1 H1 => ∃ (j : Nat), m = n.toNat - j ∧ ((j : Int) ≤ n) ∧ t1 3 = .int .u64 (v / 256 ^ j) ∧ t1 12 = .int .i64 (n - 1 - j) ∧ Stt [] H H1 [⟨some b34, true, ⟨true, 5, (putL xs at_ n v j).map (Value.int .u8)⟩⟩]) (n.toNat - 0) ⟨0, rfl, by omega, congrArg (Value.int .u64) (by simp), congrArg (Value.int .i64) (by rw [wi _ (by omega)]; omega), (by rw [putL_zero]; exact (st.sel [0] (by decide)))⟩ [3, 12, 37, 38, 39, 40, 41, 42, 43, 44, 45, 46, 47, 48, 49] (by decide) ?_
  rintro m t1 H1 hk hI
  obtain ⟨j, rfl, hf0, ht3, ht12, st⟩ := hI
  obtain ⟨u, rfl⟩ : ∃ u, t1 = (upd (upd (mix [3, 12, 37, 38, 39, 40, 41, 42, 43, 44, 45, 46, 47, 48, 49] _ u) (some 3) _) (some 12) _) := ⟨t1, by rw [← hk, upd_self ht3, upd_self ht12]⟩
  clear hk ht3 ht12
  refine zw ?_
  iterate 2 refine zm ?_
  show AW _ (.cond _ _ _) _ _ _
  refine cC' rfl (fun h8 => ?_) (fun h8 => ?_)
  ·have hlt : (0 : Int) ≤ n - 1 - j := of_decide_eq_true h8
   refine zw ?_
   iterate 6 refine zm ?_
   refine aIxL rfl rfl (by rw [wi _ (by omega)]; omega) ?_
   refine aStAt st 0 rfl rfl rfl rfl rfl (by rw [wi _ (by omega), List.length_map, putL_len hr (by omega)]; omega) (putStep xs v hr hlt hl) fun H9 st => ?_
   refine zw ?_
   iterate 3 refine zm ?_
   refine zw ?_
   iterate 3 refine zm ?_
   refine sE ?_
   exact ⟨_, by omega, j + 1, rfl, by omega, congrArg (Value.int .u64) (bigNext v j), congrArg (Value.int .i64) (by rw [wi _ (by omega)]; omega), (st.sel [0] (by decide))⟩
  ·have hge : ¬ ((0 : Int) ≤ n - 1 - j) := of_decide_eq_false h8
   have hjn : (j : Int) = n := by omega
   refine zw ?_
   iterate 3 refine zm ?_
   refine sE ?_
   refine ⟨_, out2 zr zr ⟨rfl, rfl⟩, ?_⟩
   exact ⟨b34, by simp, by have st2 := st.pick 0 rfl; rw [putL_all hr hjn] at st2; exact st2⟩
end Go.Proofs.YtjmjkdelkaflmaaGreatDoor.Abs
