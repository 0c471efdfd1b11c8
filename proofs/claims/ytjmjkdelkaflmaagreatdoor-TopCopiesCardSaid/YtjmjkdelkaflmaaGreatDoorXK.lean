/- Store: small ones. -/
import Derived.Test.YtjmjkdelkaflmaaGreatDoorXI
import Derived.Test.YtjmjkdelkaflmaaGreatDoorST1
set_option linter.unusedVariables false
set_option linter.unusedSimpArgs false
set_option maxRecDepth 100000
namespace Go.Proofs.YtjmjkdelkaflmaaGreatDoor.Abs
open Go Go.RowKit
theorem scheck_call {H : Hp} {s w : Nat} {nm : ByteArray} {nb lba n : Int} {ca : Bool} (st0 : Stt [] H H [⟨some s, false, ⟨true, 176, [zP w, .string nm, .int .i64 nb, .bool ca]⟩⟩]) (hnb : nb ≤ 4096) (h0 : 0 ≤ lba) (h1 : 0 ≤ n) (h2 : lba + n ≤ nb) :
  ACalls Tryz.prog 161 [zP s, .int .i64 lba, .int .i64 n] H (fun v H' => v = .int .i64 0 ∧ Stt [] H H' []) := by
 refine acallsW Tryz.func161 f161_ok (Nat.le_of_ble_eq_true rfl) fun hw => ?_
 have st : Stt [] H H [] := Stt.start hw
 replace st := st0
 unfold f161c
 refine zw ?_
 refine zm ?_
 refine zw ?_
 refine zm ?_
 refine zb (.bool false) ?_
 refine zm ?_
 refine zf ?_
 refine zw ?_
 refine zm ?_
 refine aBinV (.bool false) rfl rfl (ltF (by omega)) ?_
 refine zm ?_
 refine zg ?_
 refine zm ?_
 refine zg ?_
 refine aBinV (.bool false) rfl rfl (ltF (by omega)) ?_
 iterate 2 refine zm ?_
 refine zg ?_
 refine zm ?_
 refine zg ?_
 refine zm ?_
 refine zg ?_
 refine zm ?_
 refine zg ?_
 refine zm ?_
 refine zg ?_
 refine zl st 0 ?_
 refine zg ?_
 refine aBinV (.bool false) rfl rfl (gtF (by omega)) ?_
 iterate 2 refine zm ?_
 refine zg ?_
 refine zm ?_
 refine zg ?_
 refine zm ?_
 refine zg ?_
 refine zm ?_
 refine zg ?_
 refine zm ?_
 refine zg ?_
 refine zl st 0 ?_
 refine zg ?_
 refine zm ?_
 refine zg ?_
 refine aBinV (.int .i64 (nb - lba)) rfl rfl (subI rfl (by omega)) ?_
 refine zg ?_
 refine aBinV (.bool false) rfl rfl (gtF (by omega)) ?_
 iterate 2 refine zm ?_
 refine zf ?_
 refine zw ?_
 refine zm ?_
 refine sE ?_
 refine ⟨_, out1 zr, ?_⟩
 exact ⟨rfl, st.drop⟩
theorem blocks_call {H : Hp} {s w : Nat} {nm : ByteArray} {nb : Int} {ca : Bool} (st0 : Stt [] H H [⟨some s, false, ⟨true, 176, [zP w, .string nm, .int .i64 nb, .bool ca]⟩⟩]) :
  ACalls Tryz.prog 139 [zP s] H (fun v H' => v = .int .i64 nb ∧ Stt [] H H' []) := by
 refine acallsW Tryz.func139 f139_ok (Nat.le_of_ble_eq_true rfl) fun hw => ?_
 have st : Stt [] H H [] := Stt.start hw
 replace st := st0
 unfold f139c
 refine zw ?_
 refine zm ?_
 refine zw ?_
 refine zm ?_
 refine zb (.bool false) ?_
 refine zf ?_
 refine zw ?_
 iterate 3 refine zm ?_
 refine zl st 0 ?_
 refine zm ?_
 refine sE ?_
 refine ⟨_, out1 zr, ?_⟩
 exact ⟨rfl, st.drop⟩
abbrev MpL := List (Value × Value)
def recO : Option Bk → List Int
  | some b => rec25 b
  | none => List.replicate 25 0
def fileL (fs : List (Option Bk)) : List Int := fs.flatMap recO
def FsOk (fs : List (Option Bk)) : Prop := ∀ o ∈ fs, ∀ b, o = some b → b.ok
def blkAt (fs : List (Option Bk)) (k : Nat) : Bk := (fs.getD k none).getD emptyB
theorem recO_len {o : Option Bk} (h : ∀ b, o = some b → b.ok) : (recO o).length = 25 := by
  cases o with
  | none => simp [recO]
  | some b => exact rec_len (h b rfl)
theorem fileL_len {fs : List (Option Bk)} (h : FsOk fs) : (fileL fs).length = 25 * fs.length := by
  induction fs with
  | nil => rfl
  | cons o r ih =>
    have := ih fun x hx => h x (List.mem_cons_of_mem _ hx)
    simp only [fileL, List.flatMap_cons, List.length_append, List.length_cons] at this ⊢
    rw [this, recO_len (h o (List.mem_cons_self ..))]
    omega
theorem fileL_drop {fs : List (Option Bk)} (h : FsOk fs) : ∀ k, (fileL fs).drop (25 * k) = fileL (fs.drop k) := by
  intro k
  induction k generalizing fs with
  | zero => rfl
  | succ k ih =>
    cases fs with
    | nil => simp [fileL]
    | cons o r =>
      have hr : FsOk r := fun x hx => h x (List.mem_cons_of_mem _ hx)
      rw [show 25 * (k + 1) = 25 + 25 * k by omega, ← List.drop_drop]
      simp only [fileL, List.flatMap_cons]
      rw [List.drop_left' (recO_len (h o (List.mem_cons_self ..)))]
      exact ih hr
theorem fileL_take {fs : List (Option Bk)} (h : FsOk fs) : ∀ k, (fileL fs).take (25 * k) = fileL (fs.take k) := by
  intro k
  induction k generalizing fs with
  | zero => rfl
  | succ k ih =>
    cases fs with
    | nil => simp [fileL]
    | cons o r =>
      have hr : FsOk r := fun x hx => h x (List.mem_cons_of_mem _ hx)
      have hl := recO_len (h o (List.mem_cons_self ..))
      simp only [fileL, List.flatMap_cons, List.take_succ_cons]
      rw [show 25 * (k + 1) = (recO o).length + 25 * k by omega, List.take_length_add_append]
      rw [show List.take (25 * k) (List.flatMap recO r) = fileL (r.take k) from ih hr]
      rfl
theorem fileL_at {fs : List (Option Bk)} (h : FsOk fs) {k : Nat} (hk : k < fs.length) : ((fileL fs).drop (25 * k)).take 25 = recO fs[k] := by
  rw [fileL_drop h, List.drop_eq_getElem_cons hk]
  simp only [fileL, List.flatMap_cons]
  rw [List.take_left' (recO_len (h _ (List.getElem_mem hk)))]
def setB (fs : List (Option Bk)) (k : Nat) (b : Bk) : List (Option Bk) := (fs ++ List.replicate (k + 1 - fs.length) none).set k (some b)
theorem setB_len {fs : List (Option Bk)} {k : Nat} {b : Bk} : (setB fs k b).length = fs.length + (k + 1 - fs.length) := by simp [setB]
theorem FsOk.setB {fs : List (Option Bk)} (h : FsOk fs) {k : Nat} {b : Bk} (hb : b.ok) : FsOk (setB fs k b) := by
  intro o ho c hc
  subst hc
  rcases List.mem_or_eq_of_mem_set ho with h1 | h1
  · rcases List.mem_append.1 h1 with h2 | h2
    · exact h _ h2 c rfl
    · cases List.eq_of_mem_replicate h2
  · cases h1
    exact hb
theorem blkAt_setB {fs : List (Option Bk)} {k j : Nat} {b : Bk} : blkAt (setB fs k b) j = if j = k then b else blkAt fs j := by
  unfold blkAt setB
  simp only [List.getD, List.getElem?_set]
  by_cases hjk : k = j
  · subst hjk
    have : k < (fs ++ List.replicate (k + 1 - fs.length) none).length := by simp; omega
    rw [if_pos rfl, if_pos this, if_pos rfl]
    rfl
  · rw [if_neg hjk, if_neg (fun e => hjk e.symm)]
    by_cases h : j < fs.length
    · rw [List.getElem?_append_left h]
    · rw [List.getElem?_append_right (by omega), List.getElem?_eq_none (l := fs) (by omega)]
      cases hq : (List.replicate (k + 1 - fs.length) (none : Option Bk))[j - fs.length]? with
      | none => rfl
      | some o =>
        rw [List.getElem?_replicate] at hq
        split at hq
        · cases hq; rfl
        · cases hq
theorem fileL_app (a b : List (Option Bk)) : fileL (a ++ b) = fileL a ++ fileL b := List.flatMap_append
theorem fileL_rep (n : Nat) : fileL (List.replicate n none) = List.replicate (25 * n) 0 := by
  induction n with
  | zero => rfl
  | succ n ih =>
    rw [List.replicate_succ, show 25 * (n + 1) = 25 + 25 * n by omega, ← List.replicate_append_replicate, ← ih]
    rfl
theorem wr_file {fs : List (Option Bk)} (h : FsOk fs) {k : Nat} {b : Bk} (hb : b.ok) : wr (fileL fs) (25 * k) (rec25 b) = fileL (setB fs k b) := by
  have hp : FsOk (fs ++ List.replicate (k + 1 - fs.length) none) := by
    intro o ho c hc
    subst hc
    rcases List.mem_append.1 ho with h2 | h2
    · exact h _ h2 c rfl
    · cases List.eq_of_mem_replicate h2
  have e : fileL fs ++ List.replicate (25 * k + (rec25 b).length - (fileL fs).length) 0 = fileL (fs ++ List.replicate (k + 1 - fs.length) none) := by
    rw [fileL_app, fileL_rep, rec_len hb, fileL_len h]
    congr 2
    omega
  have hk : k < (fs ++ List.replicate (k + 1 - fs.length) (none : Option Bk)).length := by simp; omega
  unfold wr
  rw [e, rec_len hb, show 25 * k + 25 = 25 * (k + 1) by omega, fileL_take hp, fileL_drop hp]
  unfold setB
  rw [List.set_eq_take_append_cons_drop, if_pos hk, fileL_app]
  simp [fileL, recO]
def setN (fs : List (Option Bk)) (lba : Nat) (bs : List Bk) (n : Nat) : List (Option Bk) := (List.range n).foldl (fun f j => setB f (lba + j) (bs.getD j emptyB)) fs
theorem setN_succ {fs : List (Option Bk)} {lba : Nat} {bs : List Bk} {n : Nat} : setN fs lba bs (n + 1) = setB (setN fs lba bs n) (lba + n) (bs.getD n emptyB) := by
  unfold setN
  rw [List.range_succ, List.foldl_append]
  rfl
theorem setN_ok {fs : List (Option Bk)} (h : FsOk fs) {lba : Nat} {bs : List Bk} (hb : ∀ b ∈ bs, b.ok) : ∀ n, FsOk (setN fs lba bs n)
  | 0 => h
  | n + 1 => by
    rw [setN_succ]
    refine (setN_ok h hb n).setB ?_
    by_cases hn : n < bs.length
    · rw [show bs.getD n emptyB = bs[n] by simp [List.getD, List.getElem?_eq_getElem hn]]
      exact hb _ (List.getElem_mem hn)
    · rw [show bs.getD n emptyB = emptyB by simp [List.getD, List.getElem?_eq_none (show bs.length ≤ n by omega)]]
      exact emptyB_ok
theorem setN_len {fs : List (Option Bk)} {lba : Nat} {bs : List Bk} {N : Nat} (hN : fs.length ≤ N) : ∀ n, lba + n ≤ N → (setN fs lba bs n).length ≤ N
  | 0, _ => hN
  | n + 1, h => by
    rw [setN_succ, setB_len]
    have := setN_len (lba := lba) (bs := bs) hN n (by omega)
    omega
theorem setN_ne {fs : List (Option Bk)} {lba : Nat} {bs : List Bk} {n : Nat} : setN fs lba bs (n + 1) ≠ [] := by
  intro h
  have := congrArg List.length h
  rw [setN_succ, setB_len] at this
  simp only [List.length_nil] at this
  omega
theorem blkAt_setN {fs : List (Option Bk)} {lba j : Nat} {bs : List Bk} : ∀ n, blkAt (setN fs lba bs n) j = if lba ≤ j ∧ j < lba + n then bs.getD (j - lba) emptyB else blkAt fs j
  | 0 => by rw [if_neg (by omega)]; rfl
  | n + 1 => by
    rw [setN_succ, blkAt_setB, blkAt_setN n]
    by_cases h : j = lba + n
    · subst h
      rw [if_pos rfl, if_pos (by omega), Nat.add_sub_cancel_left]
    · rw [if_neg h]
      by_cases h2 : lba ≤ j ∧ j < lba + n
      · rw [if_pos h2, if_pos (by omega)]
      · rw [if_neg h2, if_neg (by omega)]
/-- A file of blocks. -/
def FileAt (c : List (Value × Value)) (nm : ByteArray) (ob : Option Nat) (fs : List (Option Bk)) : Prop :=
  (ob = none ∧ fs = [] ∧ Found c nm none) ∨ (∃ b, ob = some b ∧ fs ≠ [] ∧ Found c nm (some (.slice (some ⟨b, 0, none⟩) (fileL fs).length 1)))
theorem FileAt.u {c : List (Value × Value)} {nm : ByteArray} {ob : Option Nat} {fs : List (Option Bk)} (h : FileAt c nm ob fs) : ∃ u, Found c nm u ∧ u.getD (.slice none 0 0) = accV ob (fileL fs).length 1 := by
  rcases h with ⟨rfl, rfl, h⟩ | ⟨b, rfl, _, h⟩
  · exact ⟨none, h, rfl⟩
  · exact ⟨_, h, rfl⟩
theorem key_self {nm : ByteArray} : keyEq none (.string nm) (.string nm) = some true := by simp only [keyEq]; rw [(Go.MapKept.bytes_beq nm nm).2 rfl]
theorem key_ne {nm n2 : ByteArray} (h : nm ≠ n2) : keyEq none (.string nm) (.string n2) = some false := by
  simp only [keyEq]
  congr 1
  cases hq : (nm == n2) with
  | false => rfl
  | true => exact absurd ((Go.MapKept.bytes_beq nm n2).1 hq) h
theorem find_snoc {nm n2 : ByteArray} {v : Value} : ∀ (c : List (Value × Value)) (i : Nat), mpFind none (.string nm) c i = some none → mpFind none (.string nm) (c ++ [(.string n2, v)]) i = if nm = n2 then some (some (i + c.length, v)) else some none
  | [], i, _ => by
    simp only [List.nil_append, mpFind, List.length_nil, Nat.add_zero]
    by_cases h : nm = n2
    · subst h; rw [key_self, if_pos rfl]
    · rw [key_ne h, if_neg h]
  | e :: c, i, h => by
    simp only [List.cons_append, mpFind] at h ⊢
    split at h
    · cases h
    · rw [find_snoc c (i + 1) h]
      simp only [List.length_cons]
      split
      · congr 3; omega
      · rfl
    · cases h
theorem find_ge {nm : ByteArray} : ∀ (c : List (Value × Value)) (i j : Nat) (v : Value), mpFind none (.string nm) c i = some (some (j, v)) → i ≤ j
  | [], i, j, v, h => by simp [mpFind] at h
  | e :: c, i, j, v, h => by
    simp only [mpFind] at h
    split at h
    · simp at h; omega
    · have := find_ge c (i + 1) j v h; omega
    · cases h
theorem keyEq_same {nm : ByteArray} {k : Value} (h : keyEq none (.string nm) k = some true) : k = .string nm := by
  cases k <;> simp [keyEq] at h
  rw [(Go.MapKept.bytes_beq _ _).1 h]
theorem find_mod {nm : ByteArray} {v : Value} : ∀ (c : List (Value × Value)) (i j : Nat) (w : Value), mpFind none (.string nm) c i = some (some (i + j, w)) → mpFind none (.string nm) (c.modify j fun _ => (.string nm, v)) i = some (some (i + j, v))
  | [], i, j, w, h => by simp [mpFind] at h
  | e :: c, i, 0, w, h => by simp [mpFind, key_self]
  | e :: c, i, j + 1, w, h => by
    simp only [List.modify_succ_cons, mpFind] at h ⊢
    split at h
    · simp at h
    · rename_i hk
      have := find_mod (v := v) c (i + 1) j w (by rw [h]; congr 3; omega)
      rw [this]
      congr 3
      omega
    · cases h
theorem find_mod2 {nm n2 : ByteArray} {v : Value} (hne : n2 ≠ nm) : ∀ (c : List (Value × Value)) (i j : Nat) (w : Value), mpFind none (.string nm) c i = some (some (i + j, w)) → mpFind none (.string n2) (c.modify j fun _ => (.string nm, v)) i = mpFind none (.string n2) c i
  | [], i, j, w, h => by simp [mpFind] at h
  | e :: c, i, 0, w, h => by
    simp only [mpFind] at h
    split at h
    · rename_i hk
      obtain ⟨k, x⟩ := e
      have := keyEq_same hk
      simp only at this
      subst this
      simp [mpFind, key_ne hne]
    · exact absurd (find_ge c _ _ _ h) (by omega)
    · cases h
  | e :: c, i, j + 1, w, h => by
    simp only [List.modify_succ_cons, mpFind] at h ⊢
    split at h
    · simp at h
    · rw [find_mod2 hne c (i + 1) j w (by rw [h]; congr 3; omega)]
    · cases h
theorem Found.set {c : List (Value × Value)} {nm : ByteArray} {u : Option Value} {v : Value} (h : Found c nm u) : Found (mset c nm v) nm (some v) := by
  cases u with
  | none =>
    refine ⟨0 + c.length, ?_⟩
    rw [mset, show mpFind none (.string nm) c 0 = some none from h]
    simp only
    rw [find_snoc c 0 h, if_pos rfl]
  | some w =>
    obtain ⟨i, h⟩ := h
    refine ⟨i, ?_⟩
    simp only [mset, h]
    have := find_mod (v := v) c 0 i w (by rw [Nat.zero_add]; exact h)
    rwa [Nat.zero_add] at this
theorem Found.other {c : List (Value × Value)} {nm n2 : ByteArray} {u u2 : Option Value} {v : Value} (h : Found c nm u) (hne : n2 ≠ nm) (h2 : Found c n2 u2) : Found (mset c nm v) n2 u2 := by
  have e : mpFind none (.string n2) (mset c nm v) 0 = mpFind none (.string n2) c 0 ∨ (mpFind none (.string n2) (mset c nm v) 0 = some none ∧ mpFind none (.string n2) c 0 = some none) ∨ (u = none) := by
    cases u with
    | none => exact .inr (.inr rfl)
    | some w =>
      obtain ⟨i, h⟩ := h
      refine .inl ?_
      simp only [mset, h]
      exact find_mod2 hne c 0 i w (by rw [Nat.zero_add]; exact h)
  rcases e with e | ⟨e, e2⟩ | rfl
  · cases u2 with
    | none => exact e.trans h2
    | some w => obtain ⟨i, h2⟩ := h2; exact ⟨i, e.trans h2⟩
  · cases u2 with
    | none => exact e
    | some w => obtain ⟨i, h2⟩ := h2; rw [e2] at h2; cases h2
  · have em : mset c nm v = c ++ [(.string nm, v)] := by rw [mset, show mpFind none (.string nm) c 0 = some none from h]
    rw [em]
    cases u2 with
    | none =>
      show mpFind none (.string n2) (c ++ [(.string nm, v)]) 0 = some none
      rw [find_snoc c 0 h2, if_neg hne]
    | some w =>
      obtain ⟨i, h2⟩ := h2
      refine ⟨i, ?_⟩
      have : ∀ (c : List (Value × Value)) (k : Nat), mpFind none (.string n2) c k = some (some (i, w)) → mpFind none (.string n2) (c ++ [(.string nm, v)]) k = some (some (i, w)) := by
        intro c
        induction c with
        | nil => intro k h; simp [mpFind] at h
        | cons e c ih =>
          intro k h
          simp only [List.cons_append, mpFind] at h ⊢
          split at h
          · exact h
          · exact ih (k + 1) h
          · cases h
      exact this c 0 h2
theorem mulI {tk : Nat} {a b c : Int} (h : a * b = c) (hc : -9223372036854775808 ≤ c ∧ c < 9223372036854775808) : aBin tk .mul (.int .i64 a) (.int .i64 b) = some (.int .i64 c) := by
  simp only [aBin, isShift, aInt, if_true, if_false, Bool.false_eq_true]
  rw [h, wi c hc]
def bsR (fs : List (Option Bk)) (lba n : Nat) : List Bk := (List.range n).map fun j => blkAt fs (lba + j)
theorem bsR_succ {fs : List (Option Bk)} {lba n : Nat} : bsR fs lba (n + 1) = bsR fs lba n ++ [blkAt fs (lba + n)] := by simp [bsR, List.range_succ]
theorem blkAt_ok {fs : List (Option Bk)} (h : FsOk fs) (k : Nat) : (blkAt fs k).ok := by
  unfold blkAt
  by_cases hk : k < fs.length
  · rw [show fs.getD k none = fs[k] by simp [List.getD, List.getElem?_eq_getElem hk]]
    cases hq : fs[k] with
    | none => exact emptyB_ok
    | some b => exact h _ (List.getElem_mem hk) b hq
  · rw [show fs.getD k none = none by simp [List.getD, List.getElem?_eq_none (show fs.length ≤ k by omega)]]
    exact emptyB_ok
theorem bsR_ok {fs : List (Option Bk)} (h : FsOk fs) (lba n : Nat) : BksOk (bsR fs lba n) := by
  intro b hb
  obtain ⟨j, _, rfl⟩ := List.mem_map.1 hb
  exact blkAt_ok h _
theorem encs_snoc {l l' : List Bk} {b : Bk} (h : l' = l ++ [b]) : encs l ++ b.enc = encs l' := by subst h; simp [encs]
theorem bsR_len {fs : List (Option Bk)} {lba n : Nat} : (bsR fs lba n).length = n := by simp [bsR]

theorem sread_ok {H : Hp} {s w sb db lba n nb : Nat} {wv : Value} {ob : Option Nat} {c : List (Value × Value)} {nm : ByteArray} {fs : List (Option Bk)} {ops stop : Int} {ca : Bool} (st0 : Stt [w] H H [⟨some w, true, zW sb db wv ops stop⟩, ⟨some sb, false, ⟨true, .mp c, []⟩⟩, ⟨ob, false, ⟨true, 5, (fileL fs).map (Value.int .u8)⟩⟩, ⟨some s, false, ⟨true, 176, [zP w, .string nm, .int .i64 (nb : Int), .bool ca]⟩⟩]) (hn1 : 1 ≤ nm.size) (hn2 : nm.size ≤ 32) (hF : FileAt c nm ob fs) (hfs : FsOk fs) (hnb : (nb : Int) ≤ 4096) (hlba : (lba : Int) + (n : Int) ≤ (nb : Int)) (hfl4 : fs.length ≤ 4096) (ho : 0 ≤ ops ∧ ops ≤ 900000000) (hs : ∀ i : Nat, i < n → ops + (i : Int) ≠ stop) :
  ACalls Tryz.prog 140 [zP s, .int .i64 (lba : Int), .int .i64 (n : Int)] H (fun v H' => ∃ ow, v = .tuple #[accV ow n 19, .int .i64 (n : Int), .int .i64 0] ∧ Stt [w] H H' [⟨some w, true, zW sb db wv (ops + (n : Int)) stop⟩, ⟨ow, true, ⟨true, 262, encs (bsR fs lba n)⟩⟩]) := by
 refine acallsW Tryz.func140 f140_ok (Nat.le_of_ble_eq_true rfl) fun hw => ?_
 have st : Stt [w] H H [] := Stt.start hw
 replace st := st0
 unfold f140c
 refine zw ?_
 iterate 3 refine zm ?_
 refine zw ?_
 iterate 3 refine zm ?_
 refine aC (scheck_call (zM st [] [3]) hnb (by omega) (by omega) hlba) fun v17 H1 ⟨hv, st1⟩ => ?_
 subst hv
 replace st := st.call st1 rfl
 clear st1
 refine zm ?_
 refine zw ?_
 refine zm ?_
 refine zb (.bool false) ?_
 refine zf ?_
 refine zw ?_
 refine zm ?_
 refine zw ?_
 iterate 2 refine zm ?_
 refine sE ?_
 show AW _ (.loop _) _ _ _
 have st := st.nil 262
 refine AW_loopN (fun m t1 H1 => ∃ (i : Nat) (ow : Option Nat), m = n - i ∧ (i ≤ n) ∧ t1 10 = accV ow i 19 ∧ t1 22 = .int .i64 (i : Int) ∧ Stt [w] H H1 [⟨ow, true, ⟨true, 262, encs (bsR fs lba i)⟩⟩, ⟨some w, true, zW sb db wv (ops + (i : Int)) stop⟩, ⟨some sb, false, ⟨true, .mp c, []⟩⟩, ⟨ob, false, ⟨true, 5, (fileL fs).map (Value.int .u8)⟩⟩, ⟨some s, false, ⟨true, 176, [zP w, .string nm, .int .i64 nb, .bool ca]⟩⟩]) (n - 0) ⟨0, none, rfl, Nat.zero_le _, rfl, rfl, (by simpa [bsR, encs] using (st.sel [0, 1, 2, 3, 4] (by decide)))⟩ [6, 7, 8, 10, 11, 12, 13, 22, 23, 24, 25, 26, 27, 28, 29, 30, 31, 32, 33, 34, 35, 36, 37, 38, 39, 40, 41, 42, 43, 44, 45, 46, 47, 48, 49, 50, 51, 52, 53, 54] (by decide) ?_
 rintro m t1 H1 hk hI
 obtain ⟨i, ow, rfl, hi, ht10, ht22, st⟩ := hI
 obtain ⟨u, rfl⟩ : ∃ u, t1 = (upd (upd (mix [6, 7, 8, 10, 11, 12, 13, 22, 23, 24, 25, 26, 27, 28, 29, 30, 31, 32, 33, 34, 35, 36, 37, 38, 39, 40, 41, 42, 43, 44, 45, 46, 47, 48, 49, 50, 51, 52, 53, 54] _ u) (some 10) _) (some 22) _) := ⟨t1, by rw [← hk, upd_self ht10, upd_self ht22]⟩
 clear hk ht10 ht22
 refine zw ?_
 refine zm ?_
 show AW _ (.cond _ _ _) _ _ _
 refine cC' rfl (fun h2 => ?_) (fun h2 => ?_)
 ·have hlt : i < n := by have := of_decide_eq_true h2; omega
  have hs9 : ops + (i : Int) ≠ stop := hs i hlt
  refine zw ?_
  iterate 2 refine zm ?_
  refine sE ?_
  show AWp _ _ _ _ _
  iterate 3 refine zm ?_
  refine zl st 4 ?_
  iterate 3 refine zm ?_
  refine zl st 4 ?_
  iterate 2 refine zm ?_
  refine aBinV (.int .i64 ((lba + i : Nat) : Int)) rfl rfl (addI (by omega) (by omega)) ?_
  refine aBinV (.int .i64 ((25 * (lba + i) : Nat) : Int)) rfl rfl (mulI (by omega) (by omega)) ?_
  refine ⟨?_, trivial⟩
  rcases hF with ⟨hob, hfs0, hfn⟩ | ⟨fb, rfl, hne, hfn⟩
  ·have hbk : blkAt fs (lba + i) = emptyB := by rw [hfs0]; rfl
   refine aC (read_n (ob := none) (old := []) (zN st [1] [2]) hn1 hn2 hfn (off := 25 * (lba + i)) (n := 25) (by omega) (by omega) (by omega) hs9) fun v38 H3 ⟨hv, st1⟩ => ?_
   subst hv
   replace st := st.callT (ob := some w) 1 rfl st1 rfl
   clear st1
   refine ⟨trivial, ?_⟩
   iterate 5 refine zm ?_
   refine zw ?_
   refine zm ?_
   refine zb (.bool true) ?_
   refine zm ?_
   refine zg ?_
   refine zm ?_
   refine zg ?_
   refine zb (.bool false) ?_
   refine zm ?_
   refine zf ?_
   refine zw ?_
   refine aMovA rfl ?_
   refine zm ?_
   refine aC (block_n (r := 0) (b := emptyB) (z := 0) (zs := [])) fun v51 H4 ⟨hv, st1⟩ => ?_
   rw [← hbk] at hv; subst hv
   replace st := st.call st1 rfl
   clear st1
   refine aLit1 st rfl (Bk_len (blkAt_ok hfs _)) rfl fun b52 H5 st => ?_
   refine aApp st 2 (ob := ow) rfl rfl rfl (by decide) (by rw [encs_len (bsR_ok hfs _ _), bsR_len]) (st.rowAll 0 rfl (Bk_len (blkAt_ok hfs _))).src (Bk_len (blkAt_ok hfs _)) (by omega) (by omega) fun b53 H6 hp53 st => ?_
   refine aMovA rfl ?_
   refine zw ?_
   refine aBinV (.int .i64 ((i + 1 : Nat) : Int)) rfl rfl (addI (by omega) (by omega)) ?_
   refine zm ?_
   refine sE ?_
   have st := st.recell 2 rfl (cs' := encs (bsR fs lba (i + 1))) (encs_snoc bsR_succ)
   have st := st.recell 1 rfl (cs' := [.map (some sb), .map (some db), wv, .int .i64 (ops + ((i + 1 : Nat) : Int)), .map none, .int .i64 stop, .bool false]) (by rw [show ops + (i : Int) + 1 = ops + ((i + 1 : Nat) : Int) by omega])
   exact ⟨_, by omega, (i + 1), b53, rfl, by omega, rfl, rfl, (st.sel [2, 1, 3, 4, 5] (by decide))⟩
  ·have hfl := fileL_len hfs
   by_cases hk : lba + i < fs.length
   ·cases hq : fs[lba + i] with
    | none =>
     have hbk : blkAt fs (lba + i) = emptyB := by unfold blkAt; rw [show fs.getD (lba + i) none = fs[lba + i] by simp [List.getD, List.getElem?_eq_getElem hk], hq]; rfl
     refine aC (read_s (zN st [1] [2, 3]) hn1 hn2 hfn (off := 25 * (lba + i)) (n := 25) (by omega) (by omega) (by omega) (by omega) (by omega) (by omega) hs9) fun v38 H7 ⟨r, hv, st1⟩ => ?_
     subst hv
     replace st := st.callT (ob := some w) 1 rfl st1 rfl
     clear st1
     have st := st.recell 1 rfl (cs' := ((0 : Int) :: List.replicate 24 0).map (Value.int .u8)) (by rw [fileL_at hfs hk, hq]; rfl)
     refine ⟨trivial, ?_⟩
     iterate 5 refine zm ?_
     refine zw ?_
     refine zm ?_
     refine zb (.bool false) ?_
     refine zm ?_
     iterate 2 refine zk ?_
     refine zm ?_
     refine zf ?_
     refine zw ?_
     refine aMovA rfl ?_
     refine zm ?_
     refine aC (block_z (b := emptyB) (zM st [] [1]) (by decide) (by simp)) fun v51 H8 ⟨hv, st1⟩ => ?_
     rw [← hbk] at hv; subst hv
     replace st := st.call st1 rfl
     clear st1
     refine aLit1 st rfl (Bk_len (blkAt_ok hfs _)) rfl fun b52 H9 st => ?_
     refine aApp st 3 (ob := ow) rfl rfl rfl (by decide) (by rw [encs_len (bsR_ok hfs _ _), bsR_len]) (st.rowAll 0 rfl (Bk_len (blkAt_ok hfs _))).src (Bk_len (blkAt_ok hfs _)) (by omega) (by omega) fun b53 H10 hp53 st => ?_
     refine aMovA rfl ?_
     refine zw ?_
     refine aBinV (.int .i64 ((i + 1 : Nat) : Int)) rfl rfl (addI (by omega) (by omega)) ?_
     refine zm ?_
     refine sE ?_
     have st := st.recell 3 rfl (cs' := encs (bsR fs lba (i + 1))) (encs_snoc bsR_succ)
     have st := st.recell 1 rfl (cs' := [.map (some sb), .map (some db), wv, .int .i64 (ops + ((i + 1 : Nat) : Int)), .map none, .int .i64 stop, .bool false]) (by rw [show ops + (i : Int) + 1 = ops + ((i + 1 : Nat) : Int) by omega])
     exact ⟨_, by omega, (i + 1), b53, rfl, by omega, rfl, rfl, (st.sel [3, 1, 4, 5, 6] (by decide))⟩
    | some b0 =>
     have hbk : blkAt fs (lba + i) = b0 := by unfold blkAt; rw [show fs.getD (lba + i) none = fs[lba + i] by simp [List.getD, List.getElem?_eq_getElem hk], hq]; rfl
     have hb0 : b0.ok := hfs _ (List.getElem_mem hk) b0 hq
     refine aC (read_s (zN st [1] [2, 3]) hn1 hn2 hfn (off := 25 * (lba + i)) (n := 25) (by omega) (by omega) (by omega) (by omega) (by omega) (by omega) hs9) fun v38 H11 ⟨r, hv, st1⟩ => ?_
     subst hv
     replace st := st.callT (ob := some w) 1 rfl st1 rfl
     clear st1
     have st := st.recell 1 rfl (cs' := (rec25 b0).map (Value.int .u8)) (by rw [fileL_at hfs hk, hq]; rfl)
     refine ⟨trivial, ?_⟩
     iterate 5 refine zm ?_
     refine zw ?_
     refine zm ?_
     refine zb (.bool false) ?_
     refine zm ?_
     iterate 2 refine zk ?_
     refine zm ?_
     refine zf ?_
     refine zw ?_
     refine aMovA rfl ?_
     refine zm ?_
     refine aC (block_r (z := 0) (zs := []) (zM st [] [1]) hb0) fun v51 H12 ⟨hv, st1⟩ => ?_
     rw [← hbk] at hv; subst hv
     replace st := st.call st1 rfl
     clear st1
     refine aLit1 st rfl (Bk_len (blkAt_ok hfs _)) rfl fun b52 H13 st => ?_
     refine aApp st 3 (ob := ow) rfl rfl rfl (by decide) (by rw [encs_len (bsR_ok hfs _ _), bsR_len]) (st.rowAll 0 rfl (Bk_len (blkAt_ok hfs _))).src (Bk_len (blkAt_ok hfs _)) (by omega) (by omega) fun b53 H14 hp53 st => ?_
     refine aMovA rfl ?_
     refine zw ?_
     refine aBinV (.int .i64 ((i + 1 : Nat) : Int)) rfl rfl (addI (by omega) (by omega)) ?_
     refine zm ?_
     refine sE ?_
     have st := st.recell 3 rfl (cs' := encs (bsR fs lba (i + 1))) (encs_snoc bsR_succ)
     have st := st.recell 1 rfl (cs' := [.map (some sb), .map (some db), wv, .int .i64 (ops + ((i + 1 : Nat) : Int)), .map none, .int .i64 stop, .bool false]) (by rw [show ops + (i : Int) + 1 = ops + ((i + 1 : Nat) : Int) by omega])
     exact ⟨_, by omega, (i + 1), b53, rfl, by omega, rfl, rfl, (st.sel [3, 1, 4, 5, 6] (by decide))⟩
   ·have hbk : blkAt fs (lba + i) = emptyB := by unfold blkAt; rw [show fs.getD (lba + i) none = none by simp [List.getD, List.getElem?_eq_none (show fs.length ≤ lba + i by omega)]]; rfl
    refine aC (read_p (zN st [1] [2, 3]) hn1 hn2 hfn (off := 25 * (lba + i)) (n := 25) (by omega) (by omega) (by omega) (by omega) (by omega) hs9) fun v38 H15 ⟨hv, st1⟩ => ?_
    subst hv
    replace st := st.callT (ob := some w) 1 rfl st1 rfl
    clear st1
    refine ⟨trivial, ?_⟩
    iterate 5 refine zm ?_
    refine zw ?_
    refine zm ?_
    refine zb (.bool false) ?_
    refine zm ?_
    iterate 2 refine zk ?_
    refine zm ?_
    refine zf ?_
    refine zw ?_
    refine aMovA rfl ?_
    refine zm ?_
    refine aC (block_n (r := 0) (b := emptyB) (z := 0) (zs := [])) fun v51 H16 ⟨hv, st1⟩ => ?_
    rw [← hbk] at hv; subst hv
    replace st := st.call st1 rfl
    clear st1
    refine aLit1 st rfl (Bk_len (blkAt_ok hfs _)) rfl fun b52 H17 st => ?_
    refine aApp st 2 (ob := ow) rfl rfl rfl (by decide) (by rw [encs_len (bsR_ok hfs _ _), bsR_len]) (st.rowAll 0 rfl (Bk_len (blkAt_ok hfs _))).src (Bk_len (blkAt_ok hfs _)) (by omega) (by omega) fun b53 H18 hp53 st => ?_
    refine aMovA rfl ?_
    refine zw ?_
    refine aBinV (.int .i64 ((i + 1 : Nat) : Int)) rfl rfl (addI (by omega) (by omega)) ?_
    refine zm ?_
    refine sE ?_
    have st := st.recell 2 rfl (cs' := encs (bsR fs lba (i + 1))) (encs_snoc bsR_succ)
    have st := st.recell 1 rfl (cs' := [.map (some sb), .map (some db), wv, .int .i64 (ops + ((i + 1 : Nat) : Int)), .map none, .int .i64 stop, .bool false]) (by rw [show ops + (i : Int) + 1 = ops + ((i + 1 : Nat) : Int) by omega])
    exact ⟨_, by omega, (i + 1), b53, rfl, by omega, rfl, rfl, (st.sel [2, 1, 3, 4, 5] (by decide))⟩
 ·have hge : i = n := by have := of_decide_eq_false h2; omega
  subst hge
  refine zw ?_
  refine aMovA rfl ?_
  refine zm ?_
  refine aMovA rfl ?_
  iterate 2 refine zm ?_
  refine sE ?_
  refine ⟨_, out3 (r_acc rfl) zr zr ⟨notTup_acc, rfl, rfl⟩, ?_⟩
  exact ⟨ow, rfl, st.sel [1, 0] (by decide)⟩
theorem wone_call {H : Hp} {bl i : Nat} {obl : Option Nat} {bs : List Bk} (st0 : Stt [] H H [⟨some bl, false, ⟨true, 224, [accV obl bs.length 19]⟩⟩, ⟨obl, false, ⟨true, 262, encs bs⟩⟩]) (hbs : BksOk bs) (hi : i < bs.length) :
  ACalls Tryz.prog 166 [.int .i64 (i : Int), zP bl] H (fun v H' => ∃ r, v = .slice (some ⟨r, 0, none⟩) 25 1 ∧ Stt [] H H' [⟨some r, true, ⟨true, 5, (rec25 bs[i]).map (Value.int .u8)⟩⟩]) := by
 refine acallsW Tryz.func166 f166_ok (Nat.le_of_ble_eq_true rfl) fun hw => ?_
 have st : Stt [] H H [] := Stt.start hw
 replace st := st0
 have hbj := hbs _ (List.getElem_mem hi)
 unfold f166c
 refine zw ?_
 refine zm ?_
 refine zw ?_
 refine aLdQ st 0 rfl rfl rfl rfl ?_
 refine zm ?_
 refine aIx (st.rowAcc 1 rfl (by decide) (encs_len hbs)) rfl rfl (by omega) fun b6 o6 g6 => ?_
 rw [show ((i : Int)).toNat = i from rfl, encs_get hbs hi] at g6
 refine aLdAG rfl g6 ?_
 refine aC (record_call hbj) fun v8 H1 ⟨r8, hv, st1⟩ => ?_
 subst hv
 replace st := st.call st1 rfl
 clear st1
 refine zm ?_
 refine sE ?_
 refine ⟨_, out1 zr, ?_⟩
 exact ⟨r8, rfl, st.sel [0] (by decide)⟩
theorem lay_ok {H : Hp} {s w sb db lba nb nw bl : Nat} {wb ob obl : Option Nat} {c : List (Value × Value)} {cs : List Value} {nm : ByteArray} {fs : List (Option Bk)} {bs : List Bk} {ops stop : Int} (st0 : Stt ([w] ++ [sb] ++ wb.toList) H H [⟨some w, true, zW sb db (accV wb nw 5) ops stop⟩, ⟨some sb, true, ⟨true, .mp c, []⟩⟩, ⟨wb, true, ⟨true, 121, cs⟩⟩, ⟨ob, false, ⟨true, 5, (fileL fs).map (Value.int .u8)⟩⟩, ⟨some s, false, zS w nm (nb : Int)⟩, ⟨some bl, false, ⟨true, 224, [accV obl bs.length 19]⟩⟩, ⟨obl, false, ⟨true, 262, encs bs⟩⟩]) (hn1 : 1 ≤ nm.size) (hn2 : nm.size ≤ 32) (hcs : cs.length = nw * 5) (hnw : nw + bs.length ≤ 1000000) (hbs : BksOk bs) (hn0 : 0 < bs.length) (hF : FileAt c nm ob fs) (hfs : FsOk fs) (hnb : (nb : Int) ≤ 4096) (hlba : (lba : Int) + (bs.length : Int) ≤ (nb : Int)) (hfl4 : fs.length ≤ nb) (ho : 0 ≤ ops ∧ ops ≤ 900000000) (hs : ∀ i : Nat, i < bs.length → ops + (i : Int) ≠ stop) :
  ACalls Tryz.prog 165 [zP s, .int .i64 (lba : Int), .int .i64 (bs.length : Int), .func (.func 166) #[] #[zP bl], .bool false] H (fun v H' => ∃ wb1 ob1 c1 cs1, v = .tuple #[.int .i64 (bs.length : Int), .int .i64 0] ∧ cs1.length = (nw + bs.length) * 5 ∧ FileAt c1 nm ob1 (setN fs lba bs bs.length) ∧ (∀ n2 u2, n2 ≠ nm → Found c n2 u2 → Found c1 n2 u2) ∧ Stt ([w] ++ [sb] ++ wb.toList) H H' [⟨some w, true, zW sb db (accV wb1 (nw + bs.length) 5) (ops + (bs.length : Int)) stop⟩, ⟨some sb, true, ⟨true, .mp c1, []⟩⟩, ⟨wb1, true, ⟨true, 121, cs1⟩⟩, ⟨ob1, true, ⟨true, 5, (fileL (setN fs lba bs bs.length)).map (Value.int .u8)⟩⟩]) := by
 refine acallsW Tryz.func165 f165_ok (Nat.le_of_ble_eq_true rfl) fun hw => ?_
 have st : Stt ([w] ++ [sb] ++ wb.toList) H H [] := Stt.start hw
 have hcall : callable Tryz.prog 166 = true := by kernel_rfl
 replace st := st0
 unfold f165c
 refine zw ?_
 iterate 2 refine zm ?_
 refine zw ?_
 iterate 2 refine zm ?_
 refine sE ?_
 show AW _ (.loop _) _ _ _
 refine AW_loopN (fun m t1 H1 => ∃ (i : Nat) (wb1 ob1 : Option Nat) (c1 : MpL) (cs1 : List Value), m = bs.length - i ∧ (i ≤ bs.length) ∧ (cs1.length = (nw + i) * 5) ∧ (FileAt c1 nm ob1 (setN fs lba bs i)) ∧ (∀ n2 u2, n2 ≠ nm → Found c n2 u2 → Found c1 n2 u2) ∧ t1 15 = .int .i64 (i : Int) ∧ Stt ([w] ++ [sb] ++ wb.toList) H H1 [⟨some w, true, zW sb db (accV wb1 (nw + i) 5) (ops + (i : Int)) stop⟩, ⟨some sb, true, ⟨true, .mp c1, []⟩⟩, ⟨wb1, true, ⟨true, 121, cs1⟩⟩, ⟨ob1, decide (0 < i), ⟨true, 5, (fileL (setN fs lba bs i)).map (Value.int .u8)⟩⟩, ⟨some s, false, zS w nm nb⟩, ⟨some bl, false, ⟨true, 224, [accV obl bs.length 19]⟩⟩, ⟨obl, false, ⟨true, 262, encs bs⟩⟩]) (bs.length - 0) ⟨0, wb, ob, c, cs, rfl, Nat.zero_le _, by simpa using hcs, hF, fun _ _ _ h => h, rfl, (by have st := st.recell 0 rfl (cs' := [.map (some sb), .map (some db), accV wb (nw + 0) 5, .int .i64 (ops + ((0 : Nat) : Int)), .map none, .int .i64 stop, .bool false]) (by simp); exact (st.sel [0, 1, 2, 3, 4, 5, 6] (by decide)))⟩ [10, 11, 12, 13, 15, 16, 17, 18, 19, 20, 21, 22, 23, 24, 25, 26, 27, 28, 29, 30, 31, 32, 33, 34, 35, 36, 37, 38] (by decide) ?_
 rintro m t1 H1 hk hI
 obtain ⟨i, wb1, ob1, c1, cs1, rfl, hi, hcs1, hF1, hO1, ht15, st⟩ := hI
 obtain ⟨u, rfl⟩ : ∃ u, t1 = (upd (mix [10, 11, 12, 13, 15, 16, 17, 18, 19, 20, 21, 22, 23, 24, 25, 26, 27, 28, 29, 30, 31, 32, 33, 34, 35, 36, 37, 38] _ u) (some 15) _) := ⟨t1, by rw [← hk, upd_self ht15]⟩
 clear hk ht15
 refine zw ?_
 refine zm ?_
 show AW _ (.cond _ _ _) _ _ _
 refine cC' rfl (fun h1 => ?_) (fun h1 => ?_)
 ·have hlt : i < bs.length := by have := of_decide_eq_true h1; omega
  have hs9 : ops + (i : Int) ≠ stop := hs i hlt
  have hbj := hbs _ (List.getElem_mem hlt)
  obtain ⟨u1, hu1, hu2⟩ := hF1.u
  have hfl9 := fileL_len (setN_ok (lba := lba) hfs hbs i)
  have hfl8 := setN_len (lba := lba) (bs := bs) hfl4 i (by omega)
  refine zw ?_
  iterate 2 refine zm ?_
  refine sE ?_
  show AWp _ _ _ _ _
  iterate 3 refine zm ?_
  refine zl st 4 ?_
  iterate 3 refine zm ?_
  refine zl st 4 ?_
  iterate 2 refine zm ?_
  refine aBinV (.int .i64 ((lba + i : Nat) : Int)) rfl rfl (addI (by omega) (by omega)) ?_
  refine aBinV (.int .i64 ((25 * (lba + i) : Nat) : Int)) rfl rfl (mulI (by omega) (by omega)) ?_
  iterate 2 refine zm ?_
  refine ⟨?_, trivial⟩
  refine aCV (f := 166) (cs := [zP bl]) rfl hcall (wone_call (zM st [] [5, 6]) hbs hlt) fun v32 H2 ⟨r, hv, st1⟩ => ?_
  rw [show (25 : Nat) = (rec25 bs[i]).length from (rec_len hbj).symm] at hv
  subst hv
  replace st := st.call st1 rfl
  clear st1
  refine ⟨⟨zh st 5, zh st 5, trivial⟩, ?_⟩
  refine ⟨?_, trivial⟩
  refine aC (write_w (p := rec25 bs[i]) (off := 25 * (lba + i)) (zN st [1, 2, 3] [4, 0]) hn1 hn2 hcs1 (by omega) hu1 hu2 (by rw [rec_len hbj]; omega) (by omega) (by rw [rec_len hbj]; omega) (by omega) hs9) fun v33 H3 ⟨wb2, b2, pb, hv, st1⟩ => ?_
  subst hv
  replace st := st.call3 (o1 := some w) (o2 := some sb) (o3 := wb1) 1 1 1 rfl rfl rfl st1 rfl
  clear st1
  refine ⟨trivial, ?_⟩
  refine zm ?_
  refine zw ?_
  refine zm ?_
  refine zb (.bool false) ?_
  refine zf ?_
  refine zw ?_
  refine aBinV (.int .i64 ((i + 1 : Nat) : Int)) rfl rfl (addI (by omega) (by omega)) ?_
  refine zm ?_
  refine sE ?_
  rw [wr_file (setN_ok hfs hbs i) hbj, show bs[i] = bs.getD i emptyB by simp [List.getD, List.getElem?_eq_getElem hlt], ← setN_succ] at st
  have st := st.recell 0 rfl (cs' := [.map (some sb), .map (some db), accV (some wb2) (nw + (i + 1)) 5, .int .i64 (ops + ((i + 1 : Nat) : Int)), .map none, .int .i64 stop, .bool false]) (by rw [show ops + (i : Int) + 1 = ops + ((i + 1 : Nat) : Int) by omega]; rfl)
  have hF2 : FileAt (mset c1 nm (.slice (some ⟨b2, 0, none⟩) (fileL (setN fs lba bs (i + 1))).length 1)) nm (some b2) (setN fs lba bs (i + 1)) := .inr ⟨b2, rfl, setN_ne, hu1.set⟩
  exact ⟨_, by omega, (i + 1), some wb2, some b2, _, _, rfl, by omega, by simp [hcs1]; omega, hF2, fun n2 u2 hne h => hu1.other hne (hO1 n2 u2 hne h), rfl, (st.sel [0, 1, 2, 3, 7, 8, 9] (by decide))⟩
 ·have hge : i = bs.length := by have := of_decide_eq_false h1; omega
  subst hge
  refine zw ?_
  refine zm ?_
  refine aBinV (.bool true) rfl rfl (gtT (by omega)) ?_
  refine zm ?_
  refine zg ?_
  refine zm ?_
  refine zg ?_
  refine zm ?_
  refine zg ?_
  refine zm ?_
  refine zg ?_
  refine zm ?_
  refine zg ?_
  refine zm ?_
  refine zg ?_
  refine zl st 4 ?_
  refine zg ?_
  refine zm ?_
  refine zg ?_
  iterate 2 refine zm ?_
  refine zf ?_
  refine zw ?_
  iterate 3 refine zm ?_
  refine sE ?_
  refine ⟨_, out2 zr zr ⟨rfl, rfl⟩, ?_⟩
  exact ⟨wb1, ob1, c1, cs1, rfl, hcs1, hF1, hO1, by have st9 := st.sel [0, 1, 2, 3] (by decide); rw [show decide (0 < bs.length) = true from decide_eq_true hn0] at st9; exact st9⟩
theorem cells_acc {ob : Option Nat} {n sz : Nat} : cellsOf (accV ob n sz) = [accV ob n sz] := by cases ob <;> rfl
theorem swrite_ok {H : Hp} {s w sb db lba nb nw : Nat} {wb ob obl : Option Nat} {c : List (Value × Value)} {cs : List Value} {nm : ByteArray} {fs : List (Option Bk)} {bs : List Bk} {ops stop : Int} (st0 : Stt ([w] ++ [sb] ++ wb.toList) H H [⟨some w, true, zW sb db (accV wb nw 5) ops stop⟩, ⟨some sb, true, ⟨true, .mp c, []⟩⟩, ⟨wb, true, ⟨true, 121, cs⟩⟩, ⟨ob, false, ⟨true, 5, (fileL fs).map (Value.int .u8)⟩⟩, ⟨some s, false, zS w nm (nb : Int)⟩, ⟨obl, false, ⟨true, 262, encs bs⟩⟩]) (hn1 : 1 ≤ nm.size) (hn2 : nm.size ≤ 32) (hcs : cs.length = nw * 5) (hnw : nw + bs.length ≤ 1000000) (hbs : BksOk bs) (hn0 : 0 < bs.length) (hF : FileAt c nm ob fs) (hfs : FsOk fs) (hnb : (nb : Int) ≤ 4096) (hlba : (lba : Int) + (bs.length : Int) ≤ (nb : Int)) (hfl4 : fs.length ≤ nb) (ho : 0 ≤ ops ∧ ops ≤ 900000000) (hs : ∀ i : Nat, i < bs.length → ops + (i : Int) ≠ stop) :
  ACalls Tryz.prog 144 [zP s, .int .i64 (lba : Int), accV obl bs.length 19, .bool false] H (fun v H' => ∃ wb1 ob1 c1 cs1, v = .tuple #[.int .i64 (bs.length : Int), .int .i64 0] ∧ cs1.length = (nw + bs.length) * 5 ∧ FileAt c1 nm ob1 (setN fs lba bs bs.length) ∧ (∀ n2 u2, n2 ≠ nm → Found c n2 u2 → Found c1 n2 u2) ∧ Stt ([w] ++ [sb] ++ wb.toList) H H' [⟨some w, true, zW sb db (accV wb1 (nw + bs.length) 5) (ops + (bs.length : Int)) stop⟩, ⟨some sb, true, ⟨true, .mp c1, []⟩⟩, ⟨wb1, true, ⟨true, 121, cs1⟩⟩, ⟨ob1, true, ⟨true, 5, (fileL (setN fs lba bs bs.length)).map (Value.int .u8)⟩⟩]) := by
 refine acallsW Tryz.func144 f144_ok (Nat.le_of_ble_eq_true rfl) fun hw => ?_
 have st : Stt ([w] ++ [sb] ++ wb.toList) H H [] := Stt.start hw
 replace st := st0
 unfold f144c
 refine zw ?_
 refine aBoxN (cs := [accV obl bs.length 19]) st rfl notTup_acc (by show NfV (cellsOf (accV obl bs.length 19)) _; rw [cells_acc]; exact .any _) rfl fun b6 H1 st => ?_
 iterate 2 refine zm ?_
 refine zw ?_
 iterate 2 refine zm ?_
 refine aLdQ st 0 rfl rfl rfl rfl ?_
 refine aLen (st.rowAcc 6 rfl (by decide) (encs_len hbs)) rfl ?_
 refine aC (scheck_call (zM st [] [5]) hnb (by omega) (by omega) hlba) fun v15 H2 ⟨hv, st1⟩ => ?_
 subst hv
 replace st := st.call st1 rfl
 clear st1
 refine zm ?_
 refine zw ?_
 refine zm ?_
 refine zb (.bool false) ?_
 refine zf ?_
 refine zw ?_
 iterate 2 refine zm ?_
 refine aLdQ st 0 rfl rfl rfl rfl ?_
 refine aLen (st.rowAcc 6 rfl (by decide) (encs_len hbs)) rfl ?_
 refine aMkFunc rfl rfl ?_
 refine zm ?_
 refine aC (lay_ok (bl := b6) (zN st [1, 2, 3] [4, 5, 0, 6]) hn1 hn2 hcs hnw hbs hn0 hF hfs hnb hlba hfl4 ho hs) fun v25 H3 ⟨wb1, ob1, c1, cs1, hv, hcs1, hF1, hO1, st1⟩ => ?_
 subst hv
 replace st := st.call3 (o1 := some w) (o2 := some sb) (o3 := wb) 1 1 1 rfl rfl rfl st1 rfl
 clear st1
 iterate 4 refine zm ?_
 refine sE ?_
 refine ⟨_, out2 zr zr ⟨rfl, rfl⟩, ?_⟩
 exact ⟨wb1, ob1, c1, cs1, rfl, hcs1, hF1, hO1, st.sel [0, 1, 2, 3] (by decide)⟩
end Go.Proofs.YtjmjkdelkaflmaaGreatDoor.Abs
