/- Blocks as cells and as bytes. -/
import Derived.Test.YtbbdggmnjkkjkaaS2
import Derived.Test.YtbbdggmnjkkjkaaFPj
set_option linter.unusedVariables false
set_option linter.unusedSimpArgs false
namespace Go.Proofs.Ytbbdggmnjkkjkaa.Abs
open Go Go.RowKit
structure Bk where
  d : List Int
  g : Int
  a : Int
  r : Int
def Bk.ok (b : Bk) : Prop := b.d.length = 16 ∧ ByteL b.d ∧ (0 ≤ b.g ∧ b.g < 65536) ∧ (0 ≤ b.a ∧ b.a < 65536) ∧ (0 ≤ b.r ∧ b.r < 4294967296)
def Bk.enc (b : Bk) : List Value := blk b.d b.g b.a b.r
def encs (bs : List Bk) : List Value := bs.flatMap Bk.enc
def BksOk (bs : List Bk) : Prop := ∀ b ∈ bs, b.ok
theorem Bk_len {b : Bk} (h : b.ok) : b.enc.length = 19 := by simp [Bk.enc, blk, h.1]
theorem encs_len {bs : List Bk} (h : BksOk bs) : (encs bs).length = bs.length * 19 := by
  induction bs with
  | nil => rfl
  | cons b bs ih =>
    have := Bk_len (h b (by simp))
    have := ih fun c hc => h c (List.mem_cons_of_mem _ hc)
    simp only [encs, List.flatMap_cons, List.length_append, List.length_cons] at *
    omega
theorem encs_get {bs : List Bk} (h : BksOk bs) {j : Nat} (hj : j < bs.length) : ((encs bs).drop (j * 19)).take 19 = bs[j].enc := by
  induction bs generalizing j with
  | nil => simp at hj
  | cons b bs ih =>
    have hb := Bk_len (h b (by simp))
    cases j with
    | zero => simp [encs, List.flatMap_cons, ← hb]
    | succ j =>
      have := ih (fun c hc => h c (List.mem_cons_of_mem _ hc)) (j := j) (by simpa using hj)
      simp only [encs, List.flatMap_cons, List.getElem_cons_succ] at *
      rw [show (j + 1) * 19 = 19 + j * 19 by omega, ← List.drop_drop, List.drop_left' hb]
      exact this
/-- A block's bytes. -/
def pkB (w : Bool) (b : Bk) : List Int := b.d ++ (if w = true then beB 2 b.g ++ (beB 2 b.a ++ beB 4 b.r) else [])
def pkL (w : Bool) (bs : List Bk) : List Int := bs.flatMap (pkB w)
theorem pkB_len {w : Bool} {b : Bk} (h : b.ok) : (pkB w b).length = if w = true then 24 else 16 := by
  unfold pkB
  split <;> simp [h.1, beB_len]
theorem pkL_len {w : Bool} {bs : List Bk} (h : BksOk bs) : (pkL w bs).length = bs.length * (if w = true then 24 else 16) := by
  induction bs with
  | nil => simp [pkL]
  | cons b bs ih =>
    have h1 := pkB_len (w := w) (h b (by simp))
    have h2 := ih fun c hc => h c (List.mem_cons_of_mem _ hc)
    simp only [pkL, List.flatMap_cons, List.length_append, List.length_cons, h1] at *
    rw [h2, Nat.add_mul]
    omega
theorem pkL_take {w : Bool} {bs : List Bk} {j : Nat} (hj : j < bs.length) : pkL w (bs.take (j + 1)) = pkL w (bs.take j) ++ pkB w bs[j] := by
  unfold pkL
  rw [List.take_add_one, List.getElem?_eq_getElem hj, List.flatMap_append]
  simp
theorem pkL_bytes {w : Bool} {bs : List Bk} (h : BksOk bs) : ByteL (pkL w bs) := by
  intro x hx
  obtain ⟨b, hb, hx⟩ := List.mem_flatMap.1 hx
  unfold pkB at hx
  rcases List.mem_append.1 hx with hx | hx
  · exact (h b hb).2.1 x hx
  · split at hx
    · rcases List.mem_append.1 hx with hx | hx
      · exact beB_bytes _ _ x hx
      · exact ((beB_bytes _ _).app (beB_bytes _ _)) x hx
    · cases hx
theorem be2 {g : Int} (h : 0 ≤ g ∧ g < 65536) : beB 2 g = [IntKind.u8.wrap (g.fdiv (2 ^ min (8 : Int).toNat IntKind.u16.bits)), IntKind.u8.wrap g] := by
  rw [shr_eq, w8, w8, show (2 : Int) ^ min (8 : Int).toNat IntKind.u16.bits = 256 by decide]
  simp [beB]
theorem be4 {g : Int} (h : 0 ≤ g ∧ g < 4294967296) : beB 4 g = [IntKind.u8.wrap (g.fdiv (2 ^ min (24 : Int).toNat IntKind.u32.bits)), IntKind.u8.wrap (g.fdiv (2 ^ min (16 : Int).toNat IntKind.u32.bits)), IntKind.u8.wrap (g.fdiv (2 ^ min (8 : Int).toNat IntKind.u32.bits)), IntKind.u8.wrap g] := by
  rw [shr_eq, shr_eq, shr_eq, w8, w8, w8, w8, show (2 : Int) ^ min (8 : Int).toNat IntKind.u32.bits = 256 by decide, show (2 : Int) ^ min (16 : Int).toNat IntKind.u32.bits = 65536 by decide, show (2 : Int) ^ min (24 : Int).toNat IntKind.u32.bits = 16777216 by decide]
  simp [beB]
  omega
theorem rbytes_call {H : Hp} {xs : List Int} {rest : List Value} (hn : xs.length = 16) (hr : rest.length = 3) :
    ACalls Try.prog 19 [.agg (xs.map (Value.int .u8) ++ rest).toArray] H fun v H' => ∃ b, v = .slice (some ⟨b, 0, none⟩) 16 1 ∧ Stt [] H H' [⟨some b, true, ⟨true, 5, xs.map (Value.int .u8)⟩⟩] := by
  intro ρ w0 w ys h1 h2
  have hw : Wf H := fun b k hk => h2.live hk
  refine ((bytes_call hn hr).mono fun v H' hv => ?_) ρ w0 w ys h1 h2
  obtain ⟨⟨_, ⟨h0, _⟩ | ⟨b, hb, rfl, hm⟩⟩, hw', hF⟩ := hv
  · cases h0
  · exact ⟨b, rfl, Stt.one hw hw' hF hb hm rfl⟩
end Go.Proofs.Ytbbdggmnjkkjkaa.Abs
