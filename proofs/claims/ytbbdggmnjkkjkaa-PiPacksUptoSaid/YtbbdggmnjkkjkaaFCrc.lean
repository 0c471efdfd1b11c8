import Derived.Test.YtbbdggmnjkkjkaaC1
set_option linter.unusedVariables false
namespace Go.Proofs.Ytbbdggmnjkkjkaa.Abs
open Go Go.RowKit
/-- One bit of the guard. -/
def c16b (s : Int) : Int := if (s.fdiv (2 ^ min (15 : Int).toNat IntKind.u16.bits)) == 1 then bits .xor .u16 (IntKind.u16.wrap (s * 2 ^ min (1 : Int).toNat IntKind.u16.bits)) 35767 else IntKind.u16.wrap (s * 2 ^ min (1 : Int).toNat IntKind.u16.bits)
theorem c16b_t {s : Int} (h : ((s.fdiv (2 ^ min (15 : Int).toNat IntKind.u16.bits)) == 1) = true) : c16b s = bits .xor .u16 (IntKind.u16.wrap (s * 2 ^ min (1 : Int).toNat IntKind.u16.bits)) 35767 := if_pos h
theorem c16b_f {s : Int} (h : ((s.fdiv (2 ^ min (15 : Int).toNat IntKind.u16.bits)) == 1) = false) : c16b s = IntKind.u16.wrap (s * 2 ^ min (1 : Int).toNat IntKind.u16.bits) := if_neg (by rw [h]; simp)
def rep {α : Type} (f : α → α) : Nat → α → α
  | 0, x => x
  | n + 1, x => rep f n (f x)
def c16y (s b : Int) : Int := rep c16b 8 (bits .xor .u16 s (IntKind.u16.wrap (IntKind.u16.wrap b * 2 ^ min (8 : Int).toNat IntKind.u16.bits)))
theorem rep_succ {α : Type} (f : α → α) : ∀ (n : Nat) (x : α), rep f (n + 1) x = f (rep f n x)
  | 0, x => rfl
  | n + 1, x => rep_succ f n (f x)
theorem add16 {H : Hp} {s : Int} {xs : List Int} {b o n c : Nat} (hx : H.sl 1 (.slice (some ⟨b, o, none⟩) n c) = some (xs.map (.int .u8))) (hn : xs.length = n) (hb : n ≤ 140737488355328) :
    ACalls Try.prog 23 [.int .u16 s, .slice (some ⟨b, o, none⟩) n c] H fun v H' => v = .int .u16 (xs.foldl c16y s) ∧ H' = H := by
  refine acalls Try.func23 f23_ok (Nat.le_of_ble_eq_true rfl) ?_
  unfold f23c
  show AWl _ _ _ _ _
  refine sN rfl rfl (by constructor) ?_
  refine sE ?_
  show AWl _ _ _ _ _
  refine sN rfl rfl (by constructor) (sN rfl rfl (by constructor) (sN rfl rfl (by constructor) (sE ?_)))
  show AW _ (.loop _) _ _ _
  refine AW_loop (fun t' H' => H' = H ∧ ∃ j : Nat, j ≤ n ∧ t' 0 = .int .u16 ((xs.take j).foldl c16y s) ∧ t' 8 = .slice (some ⟨b, o, none⟩) n c ∧ t' 9 = .int .i64 n ∧ t' 10 = .int .i64 j) (fun t' _ => n - (intOf (t' 10)).toNat) ⟨rfl, 0, Nat.zero_le _, rfl, rfl, rfl, rfl⟩ ?_
  rintro t H ⟨rfl, j, hj, h0, h8, h9, h10⟩
  obtain ⟨u, rfl⟩ : ∃ u, t = upd (upd (upd (upd u (some 0) _) (some 8) _) (some 9) _) (some 10) _ := ⟨t, by rw [upd_self h0, upd_self h8, upd_self h9, upd_self h10]⟩
  clear h0 h8 h9 h10
  show AWl _ _ _ _ _
  refine sN rfl rfl (by constructor) (sE ?_)
  show AW _ (.cond _ _ _) _ _ _
  refine AW_cond rfl (fun hlt => ?_) (fun hge => ?_)
  · have hlt : j < n := by have := of_decide_eq_true hlt; omega
    show AWl _ _ _ _ _
    refine sN rfl (e_iadr rfl rfl (by omega)) (by constructor) ?_
    have hxj : (xs.map (Value.int .u8))[j]? = some (.int .u8 xs[j]) := by simp [hn, hlt]
    refine sN rfl (e_load rfl (by simpa using get_sl hx hlt hxj)) (by constructor) ?_
    refine sN rfl rfl (by constructor) (sE ?_)
    show AWl _ _ _ _ _
    refine sN rfl rfl (by constructor) (sN rfl rfl (by constructor) (sN rfl rfl (by constructor) (sN rfl rfl (by constructor) (sN rfl rfl (by constructor) (sN rfl rfl (by constructor) (sE ?_))))))
    show AWl _ _ _ _ _
    refine sN rfl rfl (by constructor) (sE ?_)
    show AW _ (.loop _) _ _ _
    refine AW_loop (fun t' H' => H' = H ∧ ∃ i : Nat, i ≤ 8 ∧ t' 0 = .int .u16 (rep c16b i (bits .xor .u16 ((xs.take j).foldl c16y s) (IntKind.u16.wrap (IntKind.u16.wrap xs[j] * 2 ^ min (8 : Int).toNat IntKind.u16.bits)))) ∧ t' 8 = .slice (some ⟨b, o, none⟩) n c ∧ t' 9 = .int .i64 n ∧ t' 10 = .int .i64 j ∧ t' 19 = .int .i64 i) (fun t' _ => 8 - (intOf (t' 19)).toNat) ⟨rfl, 0, by omega, rfl, rfl, rfl, rfl, rfl⟩ ?_
    rintro t H ⟨rfl, i, hi, h0, h8, h9, h10, h19⟩
    obtain ⟨u, rfl⟩ : ∃ u, t = upd (upd (upd (upd (upd u (some 0) _) (some 8) _) (some 9) _) (some 10) _) (some 19) _ := ⟨t, by rw [upd_self h0, upd_self h8, upd_self h9, upd_self h10, upd_self h19]⟩
    clear h0 h8 h9 h10 h19
    show AWl _ _ _ _ _
    refine sN rfl rfl (by constructor) (sE ?_)
    show AW _ (.cond _ _ _) _ _ _
    refine AW_cond rfl (fun hlt2 => ?_) (fun hge => ?_)
    · have hlt2 : i < 8 := by have := of_decide_eq_true hlt2; omega
      show AWl _ _ _ _ _
      refine sN rfl rfl (by constructor) (sN rfl rfl (by constructor) (sN rfl rfl (by constructor) (sE ?_)))
      show AWl _ _ _ _ _
      refine sN rfl rfl (by constructor) (sN rfl rfl (by constructor) (sN rfl rfl (by constructor) (sE ?_)))
      show AWl _ _ _ _ _
      refine sN rfl rfl (by constructor) (sN rfl rfl (by constructor) (sE ?_))
      show AW _ (.cond _ _ _) _ _ _
      have wi : IntKind.i64.wrap ((i : Int) + 1) = ((i + 1 : Nat) : Int) := by rw [IntKind.wrap_i64]; omega
      refine AW_cond rfl (fun hbit => ?_) (fun hbit => ?_)
      · show AWl _ _ _ _ _
        refine sN rfl rfl (by constructor) (sN rfl rfl (by constructor) (sN rfl rfl (by constructor) (sE ?_)))
        show AWl _ _ _ _ _
        refine sN rfl rfl (by constructor) (sN rfl rfl (by constructor) (sE ?_))
        refine ⟨⟨rfl, i + 1, by omega, ?_, rfl, rfl, rfl, ?_⟩, ?_⟩
        · rw [rep_succ]
          exact congrArg (Value.int .u16) (c16b_t hbit).symm
        · exact congrArg (Value.int .i64) wi
        · show 8 - (IntKind.i64.wrap ((i : Int) + 1)).toNat < 8 - (i : Int).toNat
          rw [wi]
          omega
      · show AWl _ _ _ _ _
        refine sN rfl rfl (by constructor) (sN rfl rfl (by constructor) (sE ?_))
        refine ⟨⟨rfl, i + 1, by omega, ?_, rfl, rfl, rfl, ?_⟩, ?_⟩
        · rw [rep_succ]
          exact congrArg (Value.int .u16) (c16b_f hbit).symm
        · exact congrArg (Value.int .i64) wi
        · show 8 - (IntKind.i64.wrap ((i : Int) + 1)).toNat < 8 - (i : Int).toNat
          rw [wi]
          omega
    · have hge : i = 8 := by
        have := of_decide_eq_false hge
        omega
      subst hge
      have wj : IntKind.i64.wrap ((j : Int) + 1) = ((j + 1 : Nat) : Int) := by
        rw [IntKind.wrap_i64]
        omega
      show AWl _ _ _ _ _
      refine sN rfl rfl (by constructor) (sN rfl rfl (by constructor) (sE ?_))
      refine ⟨⟨rfl, j + 1, by omega, ?_, rfl, rfl, ?_⟩, ?_⟩
      · rw [List.take_succ_eq_append_getElem (by omega), List.foldl_append]
        rfl
      · exact congrArg (Value.int .i64) wj
      · show n - (IntKind.i64.wrap ((j : Int) + 1)).toNat < n - (j : Int).toNat
        rw [wj]
        omega
  · have hge : j = n := by
      have := of_decide_eq_false hge
      omega
    show AWl _ _ _ _ _
    refine sN rfl rfl (by constructor) (sN rfl rfl (by constructor) (sE ?_))
    refine ⟨_, rfl, ?_, rfl⟩
    subst hge
    rw [← hn, List.take_length]
    rfl

/-- One bit of the reference's guard. -/
def r16b (x : Int) (i : Nat) (r : Int) : Int := if (bits .xor .u16 (r.fdiv (2 ^ min (15 : Int).toNat IntKind.u16.bits)) (bits .and .u16 (IntKind.u16.wrap (x.fdiv (2 ^ min (7 - (i : Int)).toNat IntKind.u8.bits))) 1)) == 1 then bits .xor .u16 (IntKind.u16.wrap (r * 2 ^ min (1 : Int).toNat IntKind.u16.bits)) 35767 else IntKind.u16.wrap (r * 2 ^ min (1 : Int).toNat IntKind.u16.bits)
theorem r16b_t {x r : Int} {i : Nat} (h : ((bits .xor .u16 (r.fdiv (2 ^ min (15 : Int).toNat IntKind.u16.bits)) (bits .and .u16 (IntKind.u16.wrap (x.fdiv (2 ^ min (7 - (i : Int)).toNat IntKind.u8.bits))) 1)) == 1) = true) : r16b x i r = bits .xor .u16 (IntKind.u16.wrap (r * 2 ^ min (1 : Int).toNat IntKind.u16.bits)) 35767 := if_pos h
theorem r16b_f {x r : Int} {i : Nat} (h : ((bits .xor .u16 (r.fdiv (2 ^ min (15 : Int).toNat IntKind.u16.bits)) (bits .and .u16 (IntKind.u16.wrap (x.fdiv (2 ^ min (7 - (i : Int)).toNat IntKind.u8.bits))) 1)) == 1) = false) : r16b x i r = IntKind.u16.wrap (r * 2 ^ min (1 : Int).toNat IntKind.u16.bits) := if_neg (by rw [h]; simp)
def repI {α : Type} (f : Nat → α → α) : Nat → α → α
  | 0, x => x
  | n + 1, x => f n (repI f n x)
def r16y (s x : Int) : Int := repI (r16b x) 8 s
theorem radd16 {H : Hp} {s : Int} {xs : List Int} {b o n c : Nat} (hx : H.sl 1 (.slice (some ⟨b, o, none⟩) n c) = some (xs.map (.int .u8))) (hn : xs.length = n) (hb : n ≤ 140737488355328) :
    ACalls Try.prog 24 [.int .u16 s, .slice (some ⟨b, o, none⟩) n c] H fun v H' => v = .int .u16 (xs.foldl r16y s) ∧ H' = H := by
  refine acalls Try.func24 f24_ok (Nat.le_of_ble_eq_true rfl) ?_
  unfold f24c
  show AWl _ _ _ _ _
  refine sN rfl rfl (by constructor) (sE ?_)
  show AWl _ _ _ _ _
  refine sN rfl rfl (by constructor) (sN rfl rfl (by constructor) (sE ?_))
  show AWl _ _ _ _ _
  refine sN rfl rfl (by constructor) (sE ?_)
  show AW _ (.loop _) _ _ _
  refine AW_loop (fun t' H' => H' = H ∧ ∃ j : Nat, j ≤ n ∧ t' 1 = .slice (some ⟨b, o, none⟩) n c ∧ t' 5 = .int .u16 ((xs.take j).foldl r16y s) ∧ t' 6 = .int .i64 j) (fun t' _ => n - (intOf (t' 6)).toNat) ⟨rfl, 0, Nat.zero_le _, rfl, rfl, rfl⟩ ?_
  rintro t H ⟨rfl, j, hj, h1, h5, h6⟩
  obtain ⟨u, rfl⟩ : ∃ u, t = upd (upd (upd u (some 1) _) (some 5) _) (some 6) _ := ⟨t, by rw [upd_self h1, upd_self h5, upd_self h6]⟩
  clear h1 h5 h6
  show AWl _ _ _ _ _
  refine sN rfl rfl (by constructor) (sN rfl rfl (by constructor) (sN rfl rfl (by constructor) (sN rfl rfl (by constructor) (sE ?_))))
  show AW _ (.cond _ _ _) _ _ _
  refine AW_cond rfl (fun hlt => ?_) (fun hge => ?_)
  · have hlt : j < n := by have := of_decide_eq_true hlt; omega
    show AWl _ _ _ _ _
    refine sN rfl rfl (by constructor) (sE ?_)
    show AW _ (.loop _) _ _ _
    have hxj : (xs.map (Value.int .u8))[j]? = some (.int .u8 xs[j]) := by simp [hn, hlt]
    refine AW_loop (fun t' H' => H' = H ∧ ∃ i : Nat, i ≤ 8 ∧ t' 1 = .slice (some ⟨b, o, none⟩) n c ∧ t' 5 = .int .u16 (repI (r16b xs[j]) i ((xs.take j).foldl r16y s)) ∧ t' 6 = .int .i64 j ∧ t' 7 = .int .i64 (7 - (i : Int))) (fun t' _ => (intOf (t' 7) + 1).toNat) ⟨rfl, 0, by omega, rfl, rfl, rfl, rfl⟩ ?_
    rintro t H ⟨rfl, i, hi, h1, h5, h6, h7⟩
    obtain ⟨u, rfl⟩ : ∃ u, t = upd (upd (upd (upd u (some 1) _) (some 5) _) (some 6) _) (some 7) _ := ⟨t, by rw [upd_self h1, upd_self h5, upd_self h6, upd_self h7]⟩
    clear h1 h5 h6 h7
    show AWl _ _ _ _ _
    refine sN rfl rfl (by constructor) (sN rfl rfl (by constructor) (sE ?_))
    show AW _ (.cond _ _ _) _ _ _
    refine AW_cond rfl (fun hlt2 => ?_) (fun hge => ?_)
    · have hlt2 : i < 8 := by have := of_decide_eq_true hlt2; omega
      have wi : IntKind.i64.wrap (7 - (i : Int) - 1) = 7 - ((i + 1 : Nat) : Int) := by rw [IntKind.wrap_i64]; omega
      show AWl _ _ _ _ _
      refine sN rfl rfl (by constructor) (sN rfl rfl (by constructor) ?_)
      refine sN rfl (e_iadr rfl rfl (by omega)) (by constructor) ?_
      refine sN rfl (e_load rfl (by simpa using get_sl hx hlt hxj)) (by constructor) ?_
      refine sN rfl rfl (by constructor) ?_
      refine sN rfl (e_shr rfl rfl (by omega)) (by constructor) ?_
      refine sN rfl rfl (by constructor) (sN rfl rfl (by constructor) (sN rfl rfl (by constructor) (sE ?_)))
      show AWl _ _ _ _ _
      refine sN rfl rfl (by constructor) (sN rfl rfl (by constructor) (sN rfl rfl (by constructor) (sN rfl rfl (by constructor) (sN rfl rfl (by constructor) (sE ?_)))))
      show AW _ (.cond _ _ _) _ _ _
      refine AW_cond rfl (fun hbit => ?_) (fun hbit => ?_)
      · show AWl _ _ _ _ _
        refine sN rfl rfl (by constructor) (sN rfl rfl (by constructor) (sN rfl rfl (by constructor) (sN rfl rfl (by constructor) (sE ?_))))
        show AWl _ _ _ _ _
        refine sN rfl rfl (by constructor) (sN rfl rfl (by constructor) (sN rfl rfl (by constructor) (sE ?_)))
        refine ⟨⟨rfl, i + 1, by omega, rfl, ?_, rfl, ?_⟩, ?_⟩
        · exact congrArg (Value.int .u16) (r16b_t hbit).symm
        · exact congrArg (Value.int .i64) wi
        · show (IntKind.i64.wrap (7 - (i : Int) - 1) + 1).toNat < (7 - (i : Int) + 1).toNat
          rw [wi]
          omega
      · show AWl _ _ _ _ _
        refine sN rfl rfl (by constructor) (sN rfl rfl (by constructor) (sN rfl rfl (by constructor) (sE ?_)))
        show AWl _ _ _ _ _
        refine sN rfl rfl (by constructor) (sN rfl rfl (by constructor) (sN rfl rfl (by constructor) (sE ?_)))
        refine ⟨⟨rfl, i + 1, by omega, rfl, ?_, rfl, ?_⟩, ?_⟩
        · exact congrArg (Value.int .u16) (r16b_f hbit).symm
        · exact congrArg (Value.int .i64) wi
        · show (IntKind.i64.wrap (7 - (i : Int) - 1) + 1).toNat < (7 - (i : Int) + 1).toNat
          rw [wi]
          omega
    · have hge : i = 8 := by
        have := of_decide_eq_false hge
        omega
      subst hge
      have wj : IntKind.i64.wrap ((j : Int) + 1) = ((j + 1 : Nat) : Int) := by
        rw [IntKind.wrap_i64]
        omega
      show AWl _ _ _ _ _
      refine sN rfl rfl (by constructor) (sN rfl rfl (by constructor) (sN rfl rfl (by constructor) (sE ?_)))
      refine ⟨⟨rfl, j + 1, by omega, rfl, ?_, ?_⟩, ?_⟩
      · rw [List.take_succ_eq_append_getElem (by omega), List.foldl_append]
        rfl
      · exact congrArg (Value.int .i64) wj
      · show n - (IntKind.i64.wrap ((j : Int) + 1)).toNat < n - (j : Int).toNat
        rw [wj]
        omega
  · have hge : j = n := by
      have := of_decide_eq_false hge
      omega
    show AWl _ _ _ _ _
    refine sN rfl rfl (by constructor) (sN rfl rfl (by constructor) (sE ?_))
    refine ⟨_, rfl, ?_, rfl⟩
    subst hge
    rw [← hn, List.take_length]
    rfl
end Go.Proofs.Ytbbdggmnjkkjkaa.Abs
