/- Blocks packed and unpacked again. -/
import Derived.Test.YtbbdggmnjkkjkaaPK7
set_option linter.unusedVariables false
set_option linter.unusedSimpArgs false
namespace Go.Proofs.Ytbbdggmnjkkjkaa.Abs
open Go Go.RowKit
def strip (b : Bk) : Bk := { d := b.d, g := 0, a := 0, r := 0 }
theorem unB_t {b : Bk} (h : b.ok) (rest : List Int) : unB true (pkB true b ++ rest) = b := by
  obtain ⟨h1, h2, ⟨g0, g1⟩, ⟨a0, a1⟩, ⟨r0, r1⟩⟩ := h
  obtain ⟨d, g, a, r⟩ := b
  simp only at *
  have hp : pkB true ⟨d, g, a, r⟩ = d ++ [g / 256 % 256, g % 256, a / 256 % 256, a % 256, r / 256 / 256 / 256 % 256, r / 256 / 256 % 256, r / 256 % 256, r % 256] := by simp [pkB, beB]
  have key : ∀ i v, ([g / 256 % 256, g % 256, a / 256 % 256, a % 256, r / 256 / 256 / 256 % 256, r / 256 / 256 % 256, r / 256 % 256, r % 256] ++ rest)[i]? = some v → (pkB true ⟨d, g, a, r⟩ ++ rest).getD (16 + i) 0 = v := by
    intro i v hv
    rw [hp, List.append_assoc, List.getD_eq_getElem?_getD, List.getElem?_append_right (by omega), show 16 + i - d.length = i by omega, hv]
    rfl
  have k0 := key 0 _ rfl
  have k1 := key 1 _ rfl
  have k2 := key 2 _ rfl
  have k3 := key 3 _ rfl
  have k4 := key 4 _ rfl
  have k5 := key 5 _ rfl
  have k6 := key 6 _ rfl
  have k7 := key 7 _ rfl
  have kd : (pkB true ⟨d, g, a, r⟩ ++ rest).take 16 = d := by rw [hp, List.append_assoc, List.take_left' h1]
  simp only [unB, if_true, kd, k0, k1, k2, k3, k4, k5, k6, k7]
  congr 1 <;> omega
theorem unB_f {b : Bk} (h : b.ok) (rest : List Int) : unB false (pkB false b ++ rest) = strip b := by
  have kd : (pkB false b ++ rest).take 16 = b.d := by simp [pkB, List.take_left' h.1]
  simp [unB, kd, strip]
theorem szB_pos (w : Bool) : 0 < szB w := by unfold szB; split <;> omega
theorem pkL_sz {w : Bool} {bs : List Bk} (h : BksOk bs) : (pkL w bs).length = bs.length * szB w := pkL_len h
theorem pkL_drop {w : Bool} {bs : List Bk} (h : BksOk bs) {k : Nat} (hk : k < bs.length) : (pkL w bs).drop (k * szB w) = pkB w bs[k] ++ pkL w (bs.drop (k + 1)) := by
  induction bs generalizing k with
  | nil => simp at hk
  | cons b bs ih =>
    have hb : (pkB w b).length = szB w := pkB_len (h b (by simp))
    cases k with
    | zero => simp [pkL]
    | succ k =>
      have := ih (fun c hc => h c (List.mem_cons_of_mem _ hc)) (k := k) (by simpa using hk)
      rw [show (k + 1) * szB w = szB w + k * szB w by rw [Nat.add_mul]; omega, ← List.drop_drop]
      simp only [pkL, List.flatMap_cons, List.getElem_cons_succ, List.drop_succ_cons] at *
      rw [List.drop_left' hb]
      exact this
theorem unR_pk {w : Bool} {bs : List Bk} (h : BksOk bs) : unR w (pkL w bs) = bs.map fun b => if w = true then b else strip b := by
  have hl := pkL_sz (w := w) h
  have hm : (pkL w bs).length % szB w = 0 := by rw [hl, Nat.mul_mod_left]
  have hd : (pkL w bs).length / szB w = bs.length := by rw [hl, Nat.mul_div_cancel _ (szB_pos w)]
  unfold unR
  rw [if_pos hm]
  apply List.ext_getElem
  · rw [unL_len, hd, List.length_map]
  · intro k h1 h2
    rw [unL_len, hd] at h1
    simp only [unL, List.getElem_map, List.getElem_range, pkL_drop h h1]
    have hb := h _ (List.getElem_mem h1)
    cases w with
    | true => rw [if_pos rfl]; exact unB_t hb _
    | false => rw [if_neg (by decide)]; exact unB_f hb _
theorem unR_t {bs : List Bk} (h : BksOk bs) : unR true (pkL true bs) = bs := by rw [unR_pk h]; simp
theorem unR_f {bs : List Bk} (h : BksOk bs) : unR false (pkL false bs) = bs.map strip := by rw [unR_pk h]; simp
theorem strip_ok {bs : List Bk} (h : BksOk bs) : BksOk (bs.map strip) := fun b hb => by
  obtain ⟨c, hc, rfl⟩ := List.mem_map.1 hb
  have := h c hc
  exact ⟨this.1, this.2.1, by simp [strip], by simp [strip], by simp [strip]⟩
theorem unpack_t_back {H : Hp} {bs : List Bk} {x : Value} (h : BksOk bs) (hx : Sl H 1 (pkL true bs).length ((pkL true bs).map (Value.int .u8)) x) (hl : bs.length * 24 ≤ 140737488351232) :
    ACalls Try.prog 13 [x, .bool true] H fun v H' => ∃ ob, v = .tuple #[accV ob bs.length 19, .bool true] ∧ Stt [] H H' [⟨ob, true, ⟨true, 33, encs bs⟩⟩] := by
  have hn : (pkL true bs).length = bs.length * 24 := pkL_sz h
  refine (unpack_true_call hx (pkL_bytes h) (by omega) (by omega)).mono fun v H' ⟨ob, hv, st⟩ => ⟨ob, ?_, ?_⟩
  · rw [hv, unR_t h]
    have : (pkL true bs).length % 24 = 0 := by omega
    simp [this]
  · rwa [unR_t h] at st
theorem unpack_f_back {H : Hp} {bs : List Bk} {x : Value} (h : BksOk bs) (hx : Sl H 1 (pkL false bs).length ((pkL false bs).map (Value.int .u8)) x) (hl : bs.length * 24 ≤ 140737488351232) :
    ACalls Try.prog 13 [x, .bool false] H fun v H' => ∃ ob, v = .tuple #[accV ob bs.length 19, .bool true] ∧ Stt [] H H' [⟨ob, true, ⟨true, 33, encs (bs.map strip)⟩⟩] := by
  have hn : (pkL false bs).length = bs.length * 16 := pkL_sz h
  refine (unpack_false_call hx (pkL_bytes h) (by omega) (by omega)).mono fun v H' ⟨ob, hv, st⟩ => ⟨ob, ?_, ?_⟩
  · rw [hv, unR_f h]
    have : (pkL false bs).length % 16 = 0 := by omega
    simp [this]
  · rwa [unR_f h] at st
theorem unpack_t_no {H : Hp} {bs : List Bk} {x : Value} {k : Nat} (h : BksOk bs) (hk : 0 < k ∧ k < 24) (hx : Sl H 1 ((pkL true bs).length + k) ((pkL true bs ++ List.replicate k (0 : Int)).map (Value.int .u8)) x) (hl : bs.length * 24 ≤ 140737488351232) :
    ACalls Try.prog 13 [x, .bool true] H fun v H' => ∃ ob n, v = .tuple #[accV ob n 19, .bool false] ∧ Stt [] H H' [] := by
  have hn : (pkL true bs).length = bs.length * 24 := pkL_sz h
  have hlen : (pkL true bs ++ List.replicate k (0 : Int)).length = (pkL true bs).length + k := by simp
  rw [← hlen] at hx
  refine (unpack_true_call hx ((pkL_bytes h).app fun z hz => by rw [List.eq_of_mem_replicate hz]; omega) (by omega) (by omega)).mono fun v H' ⟨ob, hv, st⟩ => ?_
  refine ⟨ob, (unR true (pkL true bs ++ List.replicate k (0 : Int))).length, ?_, st.drop⟩
  rw [hv]
  have : ¬ ((pkL true bs ++ List.replicate k (0 : Int)).length % 24 = 0) := by omega
  simp only [this, decide_false]
theorem data_eq {d : List Int} (h : d.length = 16) : eqL [5, 5, 5, 5, 5, 5, 5, 5, 5, 5, 5, 5, 5, 5, 5, 5] (d.map (Value.int .u8)) (d.map (Value.int .u8)) = some true := by
  have : ∀ d : List Int, eqL (List.replicate d.length 5) (d.map (Value.int .u8)) (d.map (Value.int .u8)) = some true := by
    intro d
    induction d with
    | nil => rfl
    | cons u us ih => simp [eqL, eqV, List.replicate_succ, ih]
  have h2 := this d
  rw [h] at h2
  exact h2
theorem enc_d {b : Bk} (h : b.ok) : (b.enc.drop 0).take 16 = b.d.map (Value.int .u8) := by
  rw [List.drop_zero]
  unfold Bk.enc blk
  rw [List.take_left' (by simp [h.1])]
theorem enc_t {b : Bk} (h : b.ok) : (b.enc.drop 16).take 3 = [.int .u16 b.g, .int .u16 b.a, .int .u32 b.r] := by
  unfold Bk.enc blk
  rw [List.drop_left' (by simp [h.1])]
  rfl
end Go.Proofs.Ytbbdggmnjkkjkaa.Abs
