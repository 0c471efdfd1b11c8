/- What the functions of layer 13 do. -/
import Derived.Test.YtbbdggmnjkkjkaaZCrc
set_option linter.unusedVariables false
namespace Go.Proofs.Ytbbdggmnjkkjkaa.Abs
open Go Go.RowKit
theorem c16_call {H : Hp} {xs : List Int} {b o n c : Nat} (hx : H.sl 1 (.slice (some ⟨b, o, none⟩) n c) = some (xs.map (.int .u8))) (hn : xs.length = n) (hb : n ≤ 140737488355328) :
    ACalls Try.prog 17 [.slice (some ⟨b, o, none⟩) n c] H fun v H' => v = .int .u16 (xs.foldl c16y 0) ∧ H' = H := by
  refine acalls Try.func17 f17_ok (Nat.le_of_ble_eq_true rfl) ?_
  unfold f17c
  show AWl _ _ _ _ _
  refine sN rfl rfl (by constructor) (sE ?_)
  show AWl _ _ _ _ _
  refine sN rfl rfl (by constructor) ?_
  refine sC (add16 (s := 0) hx hn hb) fun v H' ⟨hv, hH⟩ => ?_
  subst hv hH
  refine sN rfl rfl (by constructor) (sE ?_)
  exact ⟨_, rfl, rfl, rfl⟩
theorem rc16_call {H : Hp} {xs : List Int} {b o n c : Nat} (hx : H.sl 1 (.slice (some ⟨b, o, none⟩) n c) = some (xs.map (.int .u8))) (hn : xs.length = n) (hb : n ≤ 140737488355328) :
    ACalls Try.prog 18 [.slice (some ⟨b, o, none⟩) n c] H fun v H' => v = .int .u16 (xs.foldl r16y 0) ∧ H' = H := by
  refine acalls Try.func18 f18_ok (Nat.le_of_ble_eq_true rfl) ?_
  unfold f18c
  show AWl _ _ _ _ _
  refine sN rfl rfl (by constructor) (sE ?_)
  show AWl _ _ _ _ _
  refine sN rfl rfl (by constructor) ?_
  refine sC (radd16 (s := 0) hx hn hb) fun v H' ⟨hv, hH⟩ => ?_
  subst hv hH
  refine sN rfl rfl (by constructor) (sE ?_)
  exact ⟨_, rfl, rfl, rfl⟩
/-- The tuple of data. -/
def tup (g : Int) (kind lba app : Int) : Value := .agg #[.int .u16 g, .int .u16 app, .int .u32 (if kind = 1 ∨ kind = 2 then IntKind.u32.wrap lba else 0)]
theorem make_call {H : Hp} {kind lba app : Int} {xs : List Int} (hn : xs.length = 16) :
    ACalls Try.prog 8 [.int .u8 kind, .int .u64 lba, .agg (xs.map (.int .u8)).toArray, .int .u16 app] H fun v H' => v = tup (xs.foldl c16y 0) kind lba app ∧ Frm H H' := by
  refine acallsW Try.func8 f8_ok (Nat.le_of_ble_eq_true rfl) fun hw => ?_
  unfold f8c
  show AWl _ _ _ _ _
  refine sN (v' := .pointer (some ⟨H.nx, 0, none⟩)) (H' := H.push ⟨true, 23, xs.map (.int .u8)⟩) rfl ?_ (by constructor) ?_
  · show (if notTup _ = true ∧ _ = 16 then _ else _) = _
    rw [if_pos ⟨rfl, by show (xs.map (Value.int .u8)).length = 16; simp [hn]⟩]
    rfl
  refine sN rfl rfl (by constructor) (sE ?_)
  show AWl _ _ _ _ _
  refine sN rfl rfl (by constructor) ?_
  refine sC (c16_call (xs := xs) (sl_of (k := ⟨true, 23, xs.map (.int .u8)⟩) (by simp [Hp.push]) (by simp [hn]) (by rw [List.drop_zero, List.take_of_length_le (by simp [hn])]) (by omega)) hn (by omega)) fun v H' ⟨hv, hH⟩ => ?_
  subst hv hH
  refine sN rfl rfl (by constructor) (sN rfl rfl (by constructor) (sN rfl rfl (by constructor) ?_))
  refine sN rfl (e_store (k := ⟨true, 28, [.int .u16 0, .int .u16 0, .int .u32 0]⟩) rfl rfl rfl rfl (by simp [Hp.push]) rfl (by simp)) (by constructor) (sE ?_)
  have hx8 : ∀ {z : List Value} {x y : Blk}, ((((H.push x).push y).push ⟨true, 28, z⟩).m (H.nx + 1 + 1)) = some ⟨true, 28, z⟩ := by intros; simp [Hp.push]
  show AWl _ _ _ _ _
  refine sN rfl rfl (by constructor) (sN rfl rfl (by constructor) (sN rfl rfl (by constructor) ?_))
  have fin : ∀ {Q : Prop} {H1 : Hp} {t : Tm} {r : Int}, Frm H H1 → t 8 = .pointer (some ⟨H.nx + 1, 0, none⟩) → t 9 = .pointer (some ⟨H.nx + 1 + 1, 0, none⟩) → H1.m (H.nx + 1) = some ⟨true, 28, [.int .u16 0, .int .u16 0, .int .u32 0]⟩ → H1.m (H.nx + 1 + 1) = some ⟨true, 28, [.int .u16 (xs.foldl c16y 0), .int .u16 app, .int .u32 r]⟩ → r = (if kind = 1 ∨ kind = 2 then IntKind.u32.wrap lba else 0) →
      AW Try.prog (.seq (.list [⟨some 23, .loadA 3 (.s 9), none⟩, ⟨none, .store 3 (.s 8) (.s 23), none⟩]) .ret) (Fin [.cellA 3 8] fun v H' => v = tup (xs.foldl c16y 0) kind lba app ∧ Frm H H') t H1 := by
    intro Q H1 t r hF h8 h9 hm8 hm9 hr
    show AWl _ _ _ _ _
    refine sN rfl (e_loadA (k := ⟨true, 28, _⟩) h9 hm9 (by simp) rfl) (by constructor) ?_
    refine sN rfl (e_store (k := ⟨true, 28, _⟩) (o := 0) (by show t 8 = _; exact h8) rfl rfl rfl hm8 rfl (by simp)) (by constructor) (sE ?_)
    refine ⟨tup (xs.foldl c16y 0) kind lba app, ?_, rfl, hF.set (by omega) _⟩
    refine out_cellA (k := ⟨true, 28, [.int .u16 (xs.foldl c16y 0), .int .u16 app, .int .u32 r]⟩) (o := 0) (m := 3) h8 (by simp [Hp.set]; rfl) (by simp) ?_
    rw [hr]
    rfl
  have hF : Frm H (((H.push ⟨true, 23, xs.map (.int .u8)⟩).push ⟨true, 28, [.int .u16 0, .int .u16 0, .int .u32 0]⟩).push ⟨true, 28, [.int .u16 0, .int .u16 0, .int .u32 0]⟩) := ((Frm.push _ _).trans (Frm.push _ _)).trans (Frm.push _ _)
  have yes : ∀ {t : Tm}, t 1 = .int .u64 lba → t 8 = .pointer (some ⟨H.nx + 1, 0, none⟩) → t 9 = .pointer (some ⟨H.nx + 1 + 1, 0, none⟩) → (kind = 1 ∨ kind = 2) →
      AWl Try.prog [⟨some 20, .mov (.s 1), none⟩, ⟨some 21, .conv .u32 (.s 20), none⟩, ⟨some 22, .fadr 2 (.s 9), none⟩, ⟨none, .store 1 (.s 22) (.s 21), none⟩] (AW Try.prog (.seq (.list [⟨some 23, .loadA 3 (.s 9), none⟩, ⟨none, .store 3 (.s 8) (.s 23), none⟩]) .ret) (Fin [.cellA 3 8] fun v H' => v = tup (xs.foldl c16y 0) kind lba app ∧ Frm H H')) t
        ((((H.push ⟨true, 23, xs.map (.int .u8)⟩).push ⟨true, 28, [.int .u16 0, .int .u16 0, .int .u32 0]⟩).push ⟨true, 28, [.int .u16 0, .int .u16 0, .int .u32 0]⟩).set (H.nx + 1 + 1) ⟨true, 28, [.int .u16 (xs.foldl c16y 0), .int .u16 app, .int .u32 0]⟩) := by
    intro t h1 h8 h9 hk
    obtain ⟨u, rfl⟩ : ∃ u, t = upd (upd (upd u (some 1) _) (some 8) _) (some 9) _ := ⟨t, by rw [upd_self h1, upd_self h8, upd_self h9]⟩
    refine sN rfl rfl (by constructor) (sN rfl rfl (by constructor) (sN rfl rfl (by constructor) ?_))
    refine sN rfl (e_store (k := ⟨true, 28, [.int .u16 (xs.foldl c16y 0), .int .u16 app, .int .u32 0]⟩) rfl rfl rfl rfl (by simp [Hp.set]) rfl (by simp)) (by constructor) (sE ?_)
    refine fin (Q := True) (r := IntKind.u32.wrap lba) ((hF.set (by omega) _).set (by omega) _) h8 h9 (by simp [Hp.set, Hp.push]) (by simp [Hp.set, Hp.push]; rfl) (by rw [if_pos hk])
  cases h1 : (kind == 1) with
  | true =>
    refine sF rfl (by decide) (sF rfl (by decide) (sN rfl rfl (by constructor) (sE ?_)))
    show AW _ (.cond _ _ _) _ _ _
    refine AW_cond rfl (fun _ => ?_) (fun h => by cases h)
    exact yes rfl rfl rfl (.inl (by simpa using h1))
  | false =>
    refine sT rfl rfl rfl (by constructor) (sT rfl rfl rfl (by constructor) (sN rfl rfl (by constructor) (sE ?_)))
    show AW _ (.cond _ _ _) _ _ _
    refine AW_cond rfl (fun h2 => ?_) (fun h2 => ?_)
    · exact yes rfl rfl rfl (.inr (by simpa using h2))
    · refine fin (Q := True) (r := 0) (hF.set (b := H.nx + 1 + 1) (by omega) _) rfl rfl (by simp [Hp.set, Hp.push]) (by simp [Hp.set, Hp.push]; rfl) ?_
      rw [if_neg (by simp at h1 h2; omega)]
/-- A block's data, one by one. -/
theorem bytes_call {H : Hp} {xs : List Int} {rest : List Value} (hn : xs.length = 16) (hr : rest.length = 3) :
    ACalls Try.prog 19 [.agg (xs.map (Value.int .u8) ++ rest).toArray] H fun v H' => Acc H' H.nx 5 1 v (xs.map (Value.int .u8)) 16 ∧ Wf H' ∧ Frm H H' := by
  refine acallsW Try.func19 f19_ok (Nat.le_of_ble_eq_true rfl) fun hw => ?_
  unfold f19c
  show AWl _ _ _ _ _
  refine sN (v' := .pointer (some ⟨H.nx, 0, none⟩)) (H' := H.push ⟨true, 33, xs.map (Value.int .u8) ++ rest⟩) rfl ?_ (by constructor) ?_
  · show (if notTup _ = true ∧ _ = 19 then _ else _) = _
    rw [if_pos ⟨rfl, by show (xs.map (Value.int .u8) ++ rest).length = 19; simp [hn, hr]⟩]
    rfl
  refine sN rfl rfl (by constructor) (sE ?_)
  show AWl _ _ _ _ _
  refine sN rfl rfl (by constructor) (sE ?_)
  show AWl _ _ _ _ _
  refine sN rfl rfl (by constructor) (sE ?_)
  show AW _ (.loop _) _ _ _
  refine AW_loop (fun t' H' => Wf H' ∧ Low (H.nx + 1) (H.push ⟨true, 33, xs.map (Value.int .u8) ++ rest⟩) H' ∧ ∃ j : Nat, j ≤ 16 ∧ t' 1 = .pointer (some ⟨H.nx, 0, none⟩) ∧ (∃ v, t' 3 = v ∧ Acc H' (H.nx + 1) 5 1 v ((xs.map (Value.int .u8)).take j) j) ∧ t' 4 = .int .i64 j) (fun t' _ => 16 - (intOf (t' 4)).toNat) ⟨hw.push _, Low.refl _ _, 0, by omega, rfl, ⟨_, rfl, Acc.nil _ _ _ _⟩, rfl⟩ ?_
  rintro t H1 ⟨hw1, hL, j, hj, h1, ⟨v, h3, hacc⟩, h4⟩
  obtain ⟨u, rfl⟩ : ∃ u, t = upd (upd (upd u (some 1) _) (some 3) _) (some 4) _ := ⟨t, by rw [upd_self h1, upd_self h3, upd_self h4]⟩
  clear h1 h3 h4
  have hnx : H.nx + 1 ≤ H1.nx := hL.1
  have hblk : H1.m H.nx = some ⟨true, 33, xs.map (Value.int .u8) ++ rest⟩ := by rw [hL.2 H.nx (by omega)]; simp [Hp.push]
  show AWl _ _ _ _ _
  refine sN rfl rfl (by constructor) (sN rfl rfl (by constructor) (sE ?_))
  show AW _ (.cond _ _ _) _ _ _
  refine AW_cond rfl (fun hlt => ?_) (fun hge => ?_)
  · have hlt : j < 16 := by have := of_decide_eq_true hlt; omega
    have wj : IntKind.i64.wrap ((j : Int) + 1) = ((j + 1 : Nat) : Int) := by rw [IntKind.wrap_i64]; omega
    have hxj : (xs.map (Value.int .u8))[j]? = some (.int .u8 xs[j]) := by simp [hn, hlt]
    show AWl _ _ _ _ _
    refine sN rfl rfl (.any v) (sN rfl rfl (by constructor) (sN rfl rfl (by constructor) ?_))
    refine sN (v := .pointer (some ⟨H.nx, 0 + 0 + (j : Int).toNat * 1, none⟩)) (H' := H1) rfl ?_ (by constructor) ?_
    · show (if (0 : Int) ≤ (j : Int) ∧ (j : Int) < ((16 : Nat) : Int) then _ else _) = _
      rw [if_pos ⟨by omega, by omega⟩]
    refine sN (v := .int .u8 xs[j]) rfl (e_load rfl ?_) (by constructor) ?_
    · rw [get_of hblk (by simp [hn, hr]; omega)]
      have : (xs.map (Value.int .u8) ++ rest).drop (0 + 0 + (j : Int).toNat * 1) = .int .u8 xs[j] :: (xs.map (Value.int .u8) ++ rest).drop (j + 1) := by
        rw [show 0 + 0 + (j : Int).toNat * 1 = j by omega, List.drop_eq_getElem_cons (by simp [hn]; omega)]
        congr 1
        rw [List.getElem_append_left (by simp [hn, hlt])]
        simp
      simp only [this]
      rfl
    refine sN (H' := H1.push ⟨true, 5, [.int .u8 xs[j]]⟩) rfl rfl (by constructor) ?_
    refine sApp (lo := H.nx + 1) (cells := (xs.map (Value.int .u8)).take j) (n := j) (u := v) (m := 1) (ys := [.int .u8 xs[j]]) rfl (hacc.frm hw1 (Frm.push _ _)) (hw1.push _) (by show H.nx + 1 ≤ H1.nx + 1; omega) (src_one (e := 5) (by simp [Hp.push])) (by simp) (by omega) (by omega) fun v2 H2 ha2 hw2 hl2 => ?_
    refine sN rfl rfl (.any v2) (sE ?_)
    show AWl _ _ _ _ _
    refine sN rfl rfl (by constructor) (sN rfl rfl (by constructor) (sN rfl rfl (by constructor) (sE ?_)))
    refine ⟨⟨hw2, (hL.trans (Low.push H1 (by omega) _)).trans hl2, j + 1, by omega, rfl, ⟨v2, rfl, ?_⟩, ?_⟩, ?_⟩
    · rw [List.take_succ_eq_append_getElem (by simp [hn]; omega)]
      simpa using ha2
    · exact congrArg (Value.int .i64) wj
    · show 16 - (IntKind.i64.wrap ((j : Int) + 1)).toNat < 16 - (j : Int).toNat
      rw [wj]
      omega
  · have hge : j = 16 := by
      have := of_decide_eq_false hge
      omega
    subst hge
    show AWl _ _ _ _ _
    refine sN rfl rfl (.any v) (sN rfl rfl (.any v) (sE ?_))
    refine ⟨v, rfl, ?_, hw1, ?_⟩
    · rw [List.take_of_length_le (by simp [hn])] at hacc
      obtain ⟨a1, a2⟩ := hacc
      refine ⟨a1, ?_⟩
      rcases a2 with a2 | ⟨b, a3, a4⟩
      · exact .inl a2
      · exact .inr ⟨b, by omega, a4⟩
    · exact (Frm.push H _).trans ⟨hL.1, fun b hb => hL.2 b hb⟩
theorem rmake_call {H : Hp} {kind lba app : Int} {xs : List Int} (hn : xs.length = 16) :
    ACalls Try.prog 9 [.int .i64 kind, .int .u64 lba, .agg (xs.map (Value.int .u8)).toArray, .int .u16 app] H fun v H' => v = tup (xs.foldl r16y 0) kind (lba.tmod 4294967296) app ∧ Frm H H' := by
  refine acallsW Try.func9 f9_ok (Nat.le_of_ble_eq_true rfl) fun hw => ?_
  unfold f9c
  show AWl _ _ _ _ _
  refine sN (v' := .pointer (some ⟨H.nx, 0, none⟩)) (H' := H.push ⟨true, 23, xs.map (Value.int .u8)⟩) rfl ?_ (by constructor) ?_
  · show (if notTup _ = true ∧ _ = 16 then _ else _) = _
    rw [if_pos ⟨rfl, by show (xs.map (Value.int .u8)).length = 16; simp [hn]⟩]
    rfl
  refine sN rfl rfl (by constructor) (sE ?_)
  show AWl _ _ _ _ _
  refine sN rfl (e_loadA (k := ⟨true, 23, xs.map (Value.int .u8)⟩) (xs := xs.map (Value.int .u8)) rfl (by simp [Hp.push]) (by simp [hn]) (by rw [List.drop_zero, List.take_of_length_le (by simp [hn])])) (by constructor) ?_
  refine sN (v := .agg (xs.map (Value.int .u8) ++ [Value.int .u16 0, .int .u16 0, .int .u32 0]).toArray) (H' := (H.push ⟨true, 23, xs.map (Value.int .u8)⟩).push ⟨true, 28, [.int .u16 0, .int .u16 0, .int .u32 0]⟩) rfl ?_ (by constructor) ?_
  · show Option.map _ (fillA _ [(0, 16, Value.agg (xs.map (Value.int .u8)).toArray)]) = _
    simp [fillA, notTup, cellsOf, hn]
  refine sC (bytes_call (rest := [Value.int .u16 0, .int .u16 0, .int .u32 0]) hn rfl) fun v1 H1 ⟨ha1, hw1, hF1⟩ => ?_
  obtain ⟨hal, hac⟩ := ha1
  rcases hac with ⟨h0, _⟩ | ⟨b1, hb1, rfl, hm1⟩
  · cases h0
  refine sC (rc16_call (xs := xs) (sl_of (k := ⟨true, 5, xs.map (Value.int .u8)⟩) hm1 (by simp [hn]) (by rw [List.drop_zero, List.take_of_length_le (by simp [hn])]) (by omega)) hn (by omega)) fun v H2 ⟨hv, hH⟩ => ?_
  rw [hv, hH]
  have hF : Frm H H1 := ((Frm.push H _).trans (Frm.push _ _)).trans hF1
  have hnx : H.nx + 1 + 1 ≤ H1.nx := hF1.1
  have hm8 : H1.m (H.nx + 1) = some ⟨true, 28, [.int .u16 0, .int .u16 0, .int .u32 0]⟩ := by
    rw [hF1.2 (H.nx + 1) (by show H.nx + 1 < H.nx + 1 + 1; omega)]
    simp [Hp.push]
  refine sN rfl rfl (by constructor) (sN rfl rfl (by constructor) (sN rfl rfl (by constructor) ?_))
  refine sN rfl (e_store (k := ⟨true, 28, [.int .u16 0, .int .u16 0, .int .u32 0]⟩) rfl rfl rfl rfl (by simp [Hp.push]) rfl (by simp)) (by constructor) (sE ?_)
  show AWl _ _ _ _ _
  refine sN rfl rfl (by constructor) (sN rfl rfl (by constructor) (sN rfl rfl (by constructor) ?_))
  have fin : ∀ {H2 : Hp} {t : Tm} {r : Int}, Frm H H2 → t 8 = .pointer (some ⟨H.nx + 1, 0, none⟩) → t 9 = .pointer (some ⟨H1.nx, 0, none⟩) → H2.m (H.nx + 1) = some ⟨true, 28, [.int .u16 0, .int .u16 0, .int .u32 0]⟩ → H2.m H1.nx = some ⟨true, 28, [.int .u16 (xs.foldl r16y 0), .int .u16 app, .int .u32 r]⟩ → r = (if kind = 1 ∨ kind = 2 then IntKind.u32.wrap (lba.tmod 4294967296) else 0) →
      AW Try.prog (.seq (.list [⟨some 26, .loadA 3 (.s 9), none⟩, ⟨none, .store 3 (.s 8) (.s 26), none⟩]) .ret) (Fin [.cellA 3 8] fun v H' => v = tup (xs.foldl r16y 0) kind (lba.tmod 4294967296) app ∧ Frm H H') t H2 := by
    intro H2 t r hF h8 h9 hm8 hm9 hr
    show AWl _ _ _ _ _
    refine sN rfl (e_loadA (k := ⟨true, 28, _⟩) h9 hm9 (by simp) rfl) (by constructor) ?_
    refine sN rfl (e_store (k := ⟨true, 28, _⟩) (o := 0) (by show t 8 = _; exact h8) rfl rfl rfl hm8 rfl (by simp)) (by constructor) (sE ?_)
    refine ⟨tup (xs.foldl r16y 0) kind (lba.tmod 4294967296) app, ?_, rfl, hF.set (by omega) _⟩
    refine out_cellA (k := ⟨true, 28, [.int .u16 (xs.foldl r16y 0), .int .u16 app, .int .u32 r]⟩) (o := 0) (m := 3) h8 (by simp [Hp.set]; rfl) (by simp) ?_
    rw [hr]
    rfl
  have hF3 : Frm H (H1.push ⟨true, 28, [.int .u16 0, .int .u16 0, .int .u32 0]⟩) := hF.trans (Frm.push _ _)
  have hne : H.nx + 1 ≠ H1.nx := by omega
  have yes : ∀ {t : Tm}, t 1 = .int .u64 lba → t 8 = .pointer (some ⟨H.nx + 1, 0, none⟩) → t 9 = .pointer (some ⟨H1.nx, 0, none⟩) → (kind = 1 ∨ kind = 2) →
      AWl Try.prog [⟨some 22, .mov (.s 1), none⟩, ⟨some 23, .bin 5 .rem (.s 22) (.c (.int .u64 4294967296)), none⟩, ⟨some 24, .conv .u32 (.s 23), none⟩, ⟨some 25, .fadr 2 (.s 9), none⟩, ⟨none, .store 1 (.s 25) (.s 24), none⟩] (AW Try.prog (.seq (.list [⟨some 26, .loadA 3 (.s 9), none⟩, ⟨none, .store 3 (.s 8) (.s 26), none⟩]) .ret) (Fin [.cellA 3 8] fun v H' => v = tup (xs.foldl r16y 0) kind (lba.tmod 4294967296) app ∧ Frm H H')) t
        ((H1.push ⟨true, 28, [.int .u16 0, .int .u16 0, .int .u32 0]⟩).set H1.nx ⟨true, 28, [.int .u16 (xs.foldl r16y 0), .int .u16 app, .int .u32 0]⟩) := by
    intro t h1 h8 h9 hk
    obtain ⟨u, rfl⟩ : ∃ u, t = upd (upd (upd u (some 1) _) (some 8) _) (some 9) _ := ⟨t, by rw [upd_self h1, upd_self h8, upd_self h9]⟩
    refine sN rfl rfl (by constructor) (sN rfl rfl (by constructor) (sN rfl rfl (by constructor) (sN rfl rfl (by constructor) ?_)))
    refine sN rfl (e_store (k := ⟨true, 28, [.int .u16 (xs.foldl r16y 0), .int .u16 app, .int .u32 0]⟩) rfl rfl rfl rfl (by simp [Hp.set]) rfl (by simp)) (by constructor) (sE ?_)
    refine fin (r := IntKind.u32.wrap (lba.tmod 4294967296)) ((hF3.set (by omega) _).set (by omega) _) h8 h9 (by simp [Hp.set, Hp.push, hne, hm8]) (by simp [Hp.set, Hp.push]; rfl) (by rw [if_pos hk])
  cases h1 : (kind == 1) with
  | true =>
    refine sF rfl (by decide) (sF rfl (by decide) (sN rfl rfl (by constructor) (sE ?_)))
    show AW _ (.cond _ _ _) _ _ _
    refine AW_cond rfl (fun _ => ?_) (fun h => by cases h)
    exact yes rfl rfl rfl (.inl (by simpa using h1))
  | false =>
    refine sT rfl rfl rfl (by constructor) (sT rfl rfl rfl (by constructor) (sN rfl rfl (by constructor) (sE ?_)))
    show AW _ (.cond _ _ _) _ _ _
    refine AW_cond rfl (fun h2 => ?_) (fun h2 => ?_)
    · exact yes rfl rfl rfl (.inr (by simpa using h2))
    · refine fin (r := 0) (hF3.set (b := H1.nx) (by omega) _) rfl rfl (by simp [Hp.set, Hp.push, hne, hm8]) (by simp [Hp.set, Hp.push]; rfl) ?_
      rw [if_neg (by simp at h1 h2; omega)]
theorem awake_call {H : Hp} : ACalls Try.prog 7 [] H fun v H' => v = .bool true ∧ Frm H H' := by
  refine acallsW Try.func7 f7_ok (Nat.le_of_ble_eq_true rfl) fun hw => ?_
  unfold f7c
  show AWl _ _ _ _ _
  refine sN rfl rfl (by constructor) (sE ?_)
  show AWl _ _ _ _ _
  refine sN rfl rfl (by constructor) ?_
  refine sC (make_call (kind := 1) (lba := 5) (app := 7) (xs := List.replicate 16 0) rfl) fun v H1 ⟨hv, hF⟩ => ?_
  have h0 : (List.replicate 16 (0 : Int)).foldl c16y 0 = 0 := by decide +kernel
  have h1 : tup ((List.replicate 16 (0 : Int)).foldl c16y 0) 1 5 7 = .agg #[.int .u16 0, .int .u16 7, .int .u32 5] := by
    rw [h0]
    rfl
  rw [hv, h1]
  refine sN rfl rfl (by constructor) (sN (v := .bool true) (H' := H1) rfl rfl (by constructor) (sN rfl rfl (by constructor) (sE ?_)))
  exact ⟨_, rfl, rfl, hF⟩
/-- The data of an argument. -/
theorem data_of {H : Hp} {B : Nat} {x : Value} (h : datV Try.prog H B 8 23 x) : ∃ xs : List Int, x = .agg (xs.map (Value.int .u8)).toArray ∧ xs.length = 16 ∧ Bytes xs := by
  unfold datV at h
  rw [show isRowT Try.prog 23 = some true by kernel_rfl] at h
  obtain ⟨us, rfl, hd⟩ := h
  unfold dat at hd
  rw [show Try.prog.underlying 23 = some (.array 16 5) by kernel_rfl] at hd
  obtain ⟨h1, h2⟩ := hd
  have hc : Try.prog.cellsOf 5 = 1 := by kernel_rfl
  have hl : us.length = 16 := by rw [h1]; kernel_rfl
  have each : ∀ (i : Nat) (hi : i < us.length), ∃ n : Int, us[i] = .int .u8 n ∧ 0 ≤ n ∧ n ≤ 255 := fun i hi => by
    have := h2 i (by omega)
    unfold dat at this
    rw [show Try.prog.underlying 5 = some (.int .u8) by kernel_rfl, hc] at this
    obtain ⟨n, hn, hwf⟩ := this
    rw [Nat.mul_one, List.drop_eq_getElem_cons hi] at hn
    injection hn with hn
    refine ⟨n, hn, ?_⟩
    simp [Lit.wf, IntKind.min, IntKind.max, IntKind.signed, IntKind.bits] at hwf
    omega
  refine ⟨us.map intOf, ?_, by simp [hl], fun y hy => ?_⟩
  · congr 1
    congr 1
    apply List.ext_getElem
    · simp
    · intro i h3 h4
      obtain ⟨n, hn, _⟩ := each i h3
      simp [hn, intOf]
  · obtain ⟨v, hv, rfl⟩ := List.mem_map.1 hy
    obtain ⟨i, hi, rfl⟩ := List.mem_iff_getElem.1 hv
    obtain ⟨n, hn, h5⟩ := each i hi
    rw [hn]
    exact h5
theorem int_of {H : Hp} {B : Nat} {t : TypeId} {k : IntKind} {x : Value} (ht : Try.prog.underlying t = some (.int k)) (h : datV Try.prog H B 8 t x) : ∃ n, x = .int k n ∧ (Lit.int k n).wf = true := by
  unfold datV at h
  rw [show isRowT Try.prog t = some false by simp [isRowT, ht]] at h
  unfold dat at h
  simp only [ht] at h
  obtain ⟨n, hn, hw⟩ := h
  injection hn with hn
  exact ⟨n, hn, hw⟩
theorem piMakes_law {H : Hp} {B : Nat} {xs : List Value} (hro : Ro H) (hd : datArgs Try.prog H B 8 [5, 22, 23, 24] xs) : ACalls Try.prog 3 xs H fun v _ => v = .bool true := by
  match xs, hd with
  | [x0, x1, x2, x3], ⟨d0, d1, d2, d3, _⟩ =>
  obtain ⟨kind, rfl, wk⟩ := int_of (k := .u8) (by kernel_rfl) d0
  obtain ⟨lba, rfl, wl⟩ := int_of (k := .u64) (by kernel_rfl) d1
  obtain ⟨data, rfl, hn, hb⟩ := data_of d2
  obtain ⟨app, rfl, wa⟩ := int_of (k := .u16) (by kernel_rfl) d3
  refine acallsW Try.func3 f3_ok (Nat.le_of_ble_eq_true rfl) fun hw => ?_
  unfold f3c
  show AWl _ _ _ _ _
  refine sN (v' := .pointer (some ⟨H.nx, 0, none⟩)) (H' := H.push ⟨true, 23, data.map (Value.int .u8)⟩) rfl ?_ (by constructor) ?_
  · show (if notTup _ = true ∧ _ = 16 then _ else _) = _
    rw [if_pos ⟨rfl, by show (data.map (Value.int .u8)).length = 16; simp [hn]⟩]
    rfl
  refine sN rfl rfl (by constructor) (sE ?_)
  show AWp _ _ _ _ _
  refine pC awake_call (fun v H1 ⟨hv, hF1⟩ => ⟨trivial, ?_⟩) pS
  rw [hv]
  have hm1 : H1.m H.nx = some ⟨true, 23, data.map (Value.int .u8)⟩ := by
    rw [hF1.2 H.nx (by show H.nx < H.nx + 1; omega)]
    simp [Hp.push]
  have ld : ∀ {t : Tm} {H2 : Hp}, t 6 = .pointer (some ⟨H.nx, 0, none⟩) → H2.m H.nx = some ⟨true, 23, data.map (Value.int .u8)⟩ → aI (.loadA 16 (.s 6)) (ev t) H2 = some (.agg (data.map (Value.int .u8)).toArray, H2) := fun h1 h2 =>
    e_loadA (x := .s 6) (k := ⟨true, 23, data.map (Value.int .u8)⟩) h1 h2 (by simp [hn]) (by rw [List.drop_zero, List.take_of_length_le (by simp [hn])])
  refine pN rfl rfl (by constructor) (pT rfl rfl rfl (by constructor) (pT rfl rfl rfl (by constructor) (pT rfl rfl (ld rfl hm1) (by constructor) (pT rfl rfl rfl (by constructor) (pT rfl rfl rfl (by constructor) (pT rfl rfl rfl (by constructor) (pT rfl rfl rfl (by constructor) (pT rfl rfl (ld rfl hm1) (by constructor) (pT rfl rfl rfl (by constructor) ?_)))))))))
  refine pCT rfl (make_call (kind := kind) (lba := lba) (app := app) hn) (fun v H2 ⟨hv, hF2⟩ => ?_) pS
  have hlt : H.nx < H1.nx := hF1.1
  have hm2 : H2.m H.nx = some ⟨true, 23, data.map (Value.int .u8)⟩ := by rw [hF2.2 H.nx hlt]; exact hm1
  rw [hv]
  refine ⟨⟨⟨true, rfl, ld rfl hm2⟩, trivial⟩, ?_⟩
  have wkk : IntKind.i64.wrap kind = kind := by
    simp [Lit.wf, IntKind.min, IntKind.max, IntKind.signed, IntKind.bits] at wk
    rw [IntKind.wrap_i64]
    omega
  refine pCT rfl (rmake_call (kind := IntKind.i64.wrap kind) (lba := lba) (app := app) hn) (fun v H3 ⟨hv, hF3⟩ => ?_) pS
  have hm3 : H3.m H.nx = some ⟨true, 23, data.map (Value.int .u8)⟩ := by rw [hF3.2 H.nx (Nat.lt_of_lt_of_le hlt hF2.1)]; exact hm2
  rw [hv, wkk]
  refine ⟨⟨⟨true, rfl, ld rfl hm3⟩, trivial⟩, ?_⟩
  have heq : tup (data.foldl c16y 0) kind lba app = tup (data.foldl r16y 0) kind (lba.tmod 4294967296) app := by
    have h1 : data.foldl c16y 0 = data.foldl r16y 0 := (fold16 data 0#16 hb).1
    have h2 : IntKind.u32.wrap (lba.tmod 4294967296) = IntKind.u32.wrap lba := by
      simp [Lit.wf, IntKind.min, IntKind.max, IntKind.signed, IntKind.bits] at wl
      rw [Int.tmod_eq_emod_of_nonneg (by omega)]
      simp [IntKind.wrap, IntKind.bits, IntKind.signed]
    unfold tup
    rw [h1, h2]
  rw [heq]
  refine pT (v := .bool true) (H' := H3) rfl rfl ?_ (by constructor) (pN rfl rfl (by constructor) (pN rfl rfl (by constructor) ?_))
  · simp [aI, ev, upd, tup, eqL, eqV]
  show ∃ v, _ ∧ _
  exact ⟨_, rfl, rfl⟩
end Go.Proofs.Ytbbdggmnjkkjkaa.Abs
