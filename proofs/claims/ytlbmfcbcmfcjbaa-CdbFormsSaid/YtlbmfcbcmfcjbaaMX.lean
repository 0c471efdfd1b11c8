/- Commands: their blocks. -/
import Derived.Test.YtlbmfcbcmfcjbaaM1
set_option linter.unusedVariables false
set_option linter.unusedSimpArgs false
set_option maxRecDepth 100000
namespace Go.Proofs.Ytlbmfcbcmfcjbaa.Abs
open Go Go.RowKit
theorem rgetV_bd {xs : List Int} (hb : ByteL xs) (a n : Int) : 0 ≤ rgetV xs a n ∧ rgetV xs a n < 18446744073709551616 := by
  unfold rgetV
  split
  · rename_i h
    obtain ⟨h1, h2, h3, h4⟩ := rfieldE_ok h
    refine ⟨beN_nonneg ((hb.drop _).take _), Int.lt_of_lt_of_le (beN_lt ((hb.drop _).take _)) ?_⟩
    have hle : ((xs.drop a.toNat).take n.toNat).length ≤ 8 := by rw [List.length_take]; omega
    have : (256 : Nat) ^ ((xs.drop a.toNat).take n.toNat).length ≤ 256 ^ 8 := Nat.pow_le_pow_right (by decide) hle
    have h5 : ((256 ^ ((xs.drop a.toNat).take n.toNat).length : Nat) : Int) ≤ 18446744073709551616 := by omega
    simpa using h5
  · omega
theorem b_and21 {a : Int} (h : 0 ≤ a ∧ a < 18446744073709551616) : bits .and .u64 a 2097151 = a % 2097152 := by
  rw [u64_and _ _ h.1 h.2 (by decide) (by decide), show ((2097151 : Int)).toNat = 2 ^ 21 - 1 from rfl, Nat.and_two_pow_sub_one_eq_mod]
  omega
theorem rgetV_in {xs : List Int} (a n : Nat) (hn : 1 ≤ n ∧ n ≤ 8) (hl : a + n ≤ xs.length) : rgetV xs (a : Int) (n : Int) = beN ((xs.drop a).take n) := by
  have : rfieldE xs.length (a : Int) (n : Int) = 0 := by
    unfold rfieldE
    rw [if_neg (by omega), if_neg (by omega)]
  unfold rgetV
  rw [if_pos this]
  rfl
theorem one_byte {xs : List Int} {a : Nat} (hl : a < xs.length) : rgetV xs (a : Int) 1 = xs.getD a 0 := by
  have h := rgetV_in (xs := xs) a 1 (by omega) (by omega)
  rw [show rgetV xs (a : Int) 1 = rgetV xs (a : Int) ((1 : Nat) : Int) from rfl, h, List.drop_eq_getElem_cons hl, List.take_succ_cons, List.take_zero]
  simp [beN, List.getD, List.getElem?_eq_getElem hl]
theorem number_call {H : Hp} {xs : List Int} {x : Value} {at_ n : Int} (hx : Sl H 1 xs.length (xs.map (Value.int .u8)) x) (hb : ByteL xs) (hl : xs.length ≤ 1000000000000000) (hn : -9000000000000000000 ≤ n ∧ n ≤ 9000000000000000000) :
    ACalls Try.prog 25 [x, .int .i64 at_, .int .i64 n] H (fun v H' => v = .int .u64 (rgetV xs at_ n) ∧ Stt [] H H' []) := by
  refine acallsW Try.func25 f25_ok (Nat.le_of_ble_eq_true rfl) fun hw => ?_
  have st : Stt [] H H [] := Stt.start hw
  unfold f25c
  show AWl _ _ _ _ _
  refine aN rfl rfl (by constructor) ?_
  refine sE ?_
  show AWl _ _ _ _ _
  refine aMovV x rfl ?_
  refine aN rfl rfl (by constructor) ?_
  refine aN rfl rfl (by constructor) ?_
  refine aC (get_call (st.slc hx) hb hl hn) fun v13 H1 ⟨hv, st1⟩ => ?_
  subst hv
  replace st := st.call st1 rfl
  clear st1
  refine aN rfl rfl (by constructor) ?_
  refine aN rfl rfl (by constructor) ?_
  refine aN rfl rfl (by constructor) ?_
  refine aN rfl rfl (by constructor) ?_
  refine aN rfl rfl (by constructor) ?_
  refine sE ?_
  show AWl _ _ _ _ _
  refine aN rfl rfl (by constructor) ?_
  refine aN rfl rfl (by constructor) ?_
  refine sE ?_
  refine ⟨_, out1 (r_tmp rfl (by constructor)), ?_⟩
  exact ⟨rfl, st.drop⟩
theorem span6_call {H : Hp} {b : Nat} {k : Int} {xs : List Int} {x : Value} (hk : H.m b = some ⟨true, 27, [.int .u8 k, .bool false, .int .u64 0, .int .u64 0, .int .i64 0, .bool false, .int .u8 0, .bool false, .bool false, .int .u8 0, .int .u8 0, .bool false, .int .u8 0, .int .u8 0, .bool false]⟩) (hx : Sl H 1 6 (xs.map (Value.int .u8)) x) (hb : ByteL xs) (hlen : xs.length = 6) (ha : Apart b x) :
    ACalls Try.prog 33 [.pointer (some ⟨b, 0, none⟩), x] H (fun v H' => v = .int .i64 (spanM 6 xs).2.2 ∧ Stt [b] H H' [⟨some b, true, ⟨true, 27, [.int .u8 k, .bool false, .int .u64 (spanM 6 xs).1, .int .u64 (spanM 6 xs).2.1, .int .i64 0, .bool false, .int .u8 0, .bool false, .bool false, .int .u8 0, .int .u8 0, .bool false, .int .u8 0, .int .u8 0, .bool false]⟩⟩]) := by
  refine acallsW Try.func33 f33_ok (Nat.le_of_ble_eq_true rfl) fun hw => ?_
  have st : Stt [b] H H [] := Stt.start hw
  replace st := st.mine hk rfl (by simp) (by simp)
  unfold f33c
  show AWl _ _ _ _ _
  refine aN rfl rfl (by constructor) ?_
  refine sE ?_
  show AWl _ _ _ _ _
  refine aMovV x rfl ?_
  refine aLen (st.slcX hx ha) rfl ?_
  refine sE ?_
  show AWl _ _ _ _ _
  refine aBinV (.bool true) rfl rfl rfl ?_
  refine aN rfl rfl (by constructor) ?_
  refine sE ?_
  show AW _ (.cond _ _ _) _ _ _
  refine cT rfl ?_
  show AWl _ _ _ _ _
  refine aN rfl rfl (by constructor) ?_
  refine aN rfl rfl (by constructor) ?_
  refine aMovV x rfl ?_
  refine aC (number_call (by rw [hlen]; exact (st.slcX hx ha)) hb (by omega) (by decide)) fun v12 H1 ⟨hv, st1⟩ => ?_
  subst hv
  replace st := st.call st1 rfl
  clear st1
  refine aN rfl rfl (by constructor) ?_
  rw [b_and21 (rgetV_bd hb _ _)]
  refine aMovV x rfl ?_
  refine aC (number_call (by rw [hlen]; exact (st.slcX hx ha)) hb (by omega) (by decide)) fun v15 H2 ⟨hv, st1⟩ => ?_
  subst hv
  replace st := st.call st1 rfl
  clear st1
  rw [show rgetV xs 4 1 = rgetV xs ((4 : Nat) : Int) 1 from rfl, one_byte (by omega)]
  refine aN rfl rfl (by constructor) ?_
  refine aN rfl rfl (by constructor) ?_
  refine aSt st 0 rfl rfl rfl rfl (by first | rfl | simp [cellsOf, *]) (by first | decide | simp [*]) (by repeat constructor) fun H3 st => ?_
  refine aN rfl rfl (by constructor) ?_
  refine aN rfl rfl (by constructor) ?_
  refine aSt st 0 rfl rfl rfl rfl (by first | rfl | simp [cellsOf, *]) (by first | decide | simp [*]) (by repeat constructor) fun H4 st => ?_
  refine sE ?_
  show AWl _ _ _ _ _
  refine aN rfl rfl (by constructor) ?_
  refine aN rfl rfl (by constructor) ?_
  refine aN rfl rfl (by constructor) ?_
  refine aLd st 0 rfl rfl rfl (by constructor) ?_
  refine aN rfl rfl (by constructor) ?_
  refine sE ?_
  show AW _ (.cond _ _ _) _ _ _
  refine cC' rfl (fun h5 => ?_) (fun h5 => ?_)
  · show AWl _ _ _ _ _
    refine aN rfl rfl (by constructor) ?_
    refine aN rfl rfl (by constructor) ?_
    refine aN rfl rfl (by constructor) ?_
    refine aSt st 0 rfl rfl rfl rfl (by first | rfl | simp [cellsOf, *]) (by first | decide | simp [*]) (by repeat constructor) fun H6 st => ?_
    refine sE ?_
    show AWl _ _ _ _ _
    refine aN rfl rfl (by constructor) ?_
    refine sE ?_
    refine ⟨_, out1 (r_tmp rfl (by constructor)), ?_⟩
    refine ⟨rfl, ?_⟩
    have st2 := st.pick 0 rfl
    have hq : xs.getD 4 0 = 0 := by simpa using h5
    have e2 : (spanM 6 xs).2.1 = 256 := by show (if xs.getD 4 0 = 0 then 256 else xs.getD 4 0) = _; rw [if_pos hq]
    rw [e2]; exact st2
  · show AWl _ _ _ _ _
    refine aN rfl rfl (by constructor) ?_
    refine sE ?_
    refine ⟨_, out1 (r_tmp rfl (by constructor)), ?_⟩
    refine ⟨rfl, ?_⟩
    have st2 := st.pick 0 rfl
    have hq : ¬ xs.getD 4 0 = 0 := by simpa using h5
    have e2 : (spanM 6 xs).2.1 = xs.getD 4 0 := by show (if xs.getD 4 0 = 0 then 256 else xs.getD 4 0) = _; rw [if_neg hq]
    rw [e2]; exact st2
theorem span10_call {H : Hp} {b : Nat} {k : Int} {xs : List Int} {x : Value} (hk : H.m b = some ⟨true, 27, [.int .u8 k, .bool false, .int .u64 0, .int .u64 0, .int .i64 0, .bool false, .int .u8 0, .bool false, .bool false, .int .u8 0, .int .u8 0, .bool false, .int .u8 0, .int .u8 0, .bool false]⟩) (hx : Sl H 1 10 (xs.map (Value.int .u8)) x) (hb : ByteL xs) (hlen : xs.length = 10) (ha : Apart b x) :
    ACalls Try.prog 33 [.pointer (some ⟨b, 0, none⟩), x] H (fun v H' => v = .int .i64 (spanM 10 xs).2.2 ∧ Stt [b] H H' [⟨some b, true, ⟨true, 27, [.int .u8 k, .bool false, .int .u64 (spanM 10 xs).1, .int .u64 (spanM 10 xs).2.1, .int .i64 0, .bool false, .int .u8 0, .bool false, .bool false, .int .u8 0, .int .u8 0, .bool false, .int .u8 0, .int .u8 0, .bool false]⟩⟩]) := by
  refine acallsW Try.func33 f33_ok (Nat.le_of_ble_eq_true rfl) fun hw => ?_
  have st : Stt [b] H H [] := Stt.start hw
  replace st := st.mine hk rfl (by simp) (by simp)
  unfold f33c
  show AWl _ _ _ _ _
  refine aN rfl rfl (by constructor) ?_
  refine sE ?_
  show AWl _ _ _ _ _
  refine aMovV x rfl ?_
  refine aLen (st.slcX hx ha) rfl ?_
  refine sE ?_
  show AWl _ _ _ _ _
  refine aBinV (.bool false) rfl rfl rfl ?_
  refine aN rfl rfl (by constructor) ?_
  refine sE ?_
  show AW _ (.cond _ _ _) _ _ _
  refine cF' rfl ?_
  show AWl _ _ _ _ _
  refine aBinV (.bool true) rfl rfl rfl ?_
  refine aN rfl rfl (by constructor) ?_
  refine sE ?_
  show AW _ (.cond _ _ _) _ _ _
  refine cT rfl ?_
  show AWl _ _ _ _ _
  refine aN rfl rfl (by constructor) ?_
  refine aN rfl rfl (by constructor) ?_
  refine aMovV x rfl ?_
  refine aC (number_call (by rw [hlen]; exact (st.slcX hx ha)) hb (by omega) (by decide)) fun v33 H1 ⟨hv, st1⟩ => ?_
  subst hv
  replace st := st.call st1 rfl
  clear st1
  refine aMovV x rfl ?_
  refine aC (number_call (by rw [hlen]; exact (st.slcX hx ha)) hb (by omega) (by decide)) fun v35 H2 ⟨hv, st1⟩ => ?_
  subst hv
  replace st := st.call st1 rfl
  clear st1
  refine aN rfl rfl (by constructor) ?_
  refine aN rfl rfl (by constructor) ?_
  refine aSt st 0 rfl rfl rfl rfl (by first | rfl | simp [cellsOf, *]) (by first | decide | simp [*]) (by repeat constructor) fun H3 st => ?_
  refine aN rfl rfl (by constructor) ?_
  refine aN rfl rfl (by constructor) ?_
  refine aSt st 0 rfl rfl rfl rfl (by first | rfl | simp [cellsOf, *]) (by first | decide | simp [*]) (by repeat constructor) fun H4 st => ?_
  refine sE ?_
  show AWl _ _ _ _ _
  refine aN rfl rfl (by constructor) ?_
  refine sE ?_
  refine ⟨_, out1 (r_tmp rfl (by constructor)), ?_⟩
  refine ⟨rfl, ?_⟩
  have st2 := st.pick 0 rfl
  exact st2
theorem span16_call {H : Hp} {b : Nat} {k : Int} {xs : List Int} {x : Value} (hk : H.m b = some ⟨true, 27, [.int .u8 k, .bool false, .int .u64 0, .int .u64 0, .int .i64 0, .bool false, .int .u8 0, .bool false, .bool false, .int .u8 0, .int .u8 0, .bool false, .int .u8 0, .int .u8 0, .bool false]⟩) (hx : Sl H 1 16 (xs.map (Value.int .u8)) x) (hb : ByteL xs) (hlen : xs.length = 16) (ha : Apart b x) :
    ACalls Try.prog 33 [.pointer (some ⟨b, 0, none⟩), x] H (fun v H' => v = .int .i64 (spanM 16 xs).2.2 ∧ Stt [b] H H' [⟨some b, true, ⟨true, 27, [.int .u8 k, .bool false, .int .u64 (spanM 16 xs).1, .int .u64 (spanM 16 xs).2.1, .int .i64 0, .bool false, .int .u8 0, .bool false, .bool false, .int .u8 0, .int .u8 0, .bool false, .int .u8 0, .int .u8 0, .bool false]⟩⟩]) := by
  refine acallsW Try.func33 f33_ok (Nat.le_of_ble_eq_true rfl) fun hw => ?_
  have st : Stt [b] H H [] := Stt.start hw
  replace st := st.mine hk rfl (by simp) (by simp)
  unfold f33c
  show AWl _ _ _ _ _
  refine aN rfl rfl (by constructor) ?_
  refine sE ?_
  show AWl _ _ _ _ _
  refine aMovV x rfl ?_
  refine aLen (st.slcX hx ha) rfl ?_
  refine sE ?_
  show AWl _ _ _ _ _
  refine aBinV (.bool false) rfl rfl rfl ?_
  refine aN rfl rfl (by constructor) ?_
  refine sE ?_
  show AW _ (.cond _ _ _) _ _ _
  refine cF' rfl ?_
  show AWl _ _ _ _ _
  refine aBinV (.bool false) rfl rfl rfl ?_
  refine aN rfl rfl (by constructor) ?_
  refine sE ?_
  show AW _ (.cond _ _ _) _ _ _
  refine cF' rfl ?_
  show AWl _ _ _ _ _
  refine aN rfl rfl (by constructor) ?_
  refine aN rfl rfl (by constructor) ?_
  refine aMovV x rfl ?_
  refine aC (number_call (by rw [hlen]; exact (st.slcX hx ha)) hb (by omega) (by decide)) fun v43 H1 ⟨hv, st1⟩ => ?_
  subst hv
  replace st := st.call st1 rfl
  clear st1
  refine aMovV x rfl ?_
  refine aC (number_call (by rw [hlen]; exact (st.slcX hx ha)) hb (by omega) (by decide)) fun v45 H2 ⟨hv, st1⟩ => ?_
  subst hv
  replace st := st.call st1 rfl
  clear st1
  refine aN rfl rfl (by constructor) ?_
  refine aN rfl rfl (by constructor) ?_
  refine aSt st 0 rfl rfl rfl rfl (by first | rfl | simp [cellsOf, *]) (by first | decide | simp [*]) (by repeat constructor) fun H3 st => ?_
  refine aN rfl rfl (by constructor) ?_
  refine aN rfl rfl (by constructor) ?_
  refine aSt st 0 rfl rfl rfl rfl (by first | rfl | simp [cellsOf, *]) (by first | decide | simp [*]) (by repeat constructor) fun H4 st => ?_
  refine sE ?_
  show AWl _ _ _ _ _
  refine aN rfl rfl (by constructor) ?_
  refine sE ?_
  refine ⟨_, out1 (r_tmp rfl (by constructor)), ?_⟩
  refine ⟨rfl, ?_⟩
  have st2 := st.pick 0 rfl
  exact st2
theorem blocks7_6 {H : Hp} {b : Nat} {xs : List Int} {x : Value} (hk : H.m b = some ⟨true, 27, [.int .u8 7, .bool false, .int .u64 0, .int .u64 0, .int .i64 0, .bool false, .int .u8 0, .bool false, .bool false, .int .u8 0, .int .u8 0, .bool false, .int .u8 0, .int .u8 0, .bool false]⟩) (hx : Sl H 1 6 (xs.map (Value.int .u8)) x) (hb : ByteL xs) (hlen : xs.length = 6) (ha : Apart b x) :
    ACalls Try.prog 26 [.pointer (some ⟨b, 0, none⟩), x] H (fun v H' => v = .tuple #[.int .i64 (blocksF 7 6 xs).1, .int .i64 (blocksF 7 6 xs).2] ∧ Stt [b] H H' [⟨some b, true, ⟨true, 27, (blocksC 7 6 xs).cells⟩⟩]) := by
  refine acallsW Try.func26 f26_ok (Nat.le_of_ble_eq_true rfl) fun hw => ?_
  have st : Stt [b] H H [] := Stt.start hw
  replace st := st.mine hk rfl (by simp) (by simp)
  have q1 := hb.getD ((1 : Int)).toNat
  have q2 := hb.getD ((2 : Int)).toNat
  have q4 : IntKind.i64.wrap (xs.getD ((4 : Int)).toNat 0) = xs.getD 4 0 := wi _ (by have := hb.getD ((4 : Int)).toNat; omega)
  have q13 : IntKind.u64.wrap (xs.getD ((13 : Int)).toNat 0) = xs.getD 13 0 := by have := hb.getD ((13 : Int)).toNat; rw [w64]; show (xs.getD ((13 : Int)).toNat 0) % _ = xs.getD ((13 : Int)).toNat 0; omega
  unfold f26c
  show AWl _ _ _ _ _
  refine aN rfl rfl (by constructor) ?_
  refine aN rfl rfl (by constructor) ?_
  refine sE ?_
  show AWl _ _ _ _ _
  refine aN rfl rfl (by constructor) ?_
  refine aMovV x rfl ?_
  refine aC (span6_call (st.get (j := 0) rfl) (st.slcX hx ha) hb hlen ha) fun v9 H1 ⟨hv, st1⟩ => ?_
  subst hv
  replace st := st.callX 0 rfl st1 rfl
  clear st1
  refine aN rfl rfl (by constructor) ?_
  refine sE ?_
  show AWl _ _ _ _ _
  refine aMovV x rfl ?_
  refine aLen (st.slcX hx ha) rfl ?_
  refine aBinV (.bool false) rfl rfl rfl ?_
  refine sE ?_
  show AW _ (.cond _ _ _) _ _ _
  refine cF' rfl ?_
  show AWl _ _ _ _ _
  refine aN rfl rfl (by constructor) ?_
  refine aN rfl rfl (by constructor) ?_
  refine aN rfl rfl (by constructor) ?_
  refine aLd st 0 rfl rfl rfl (by constructor) ?_
  refine aBinV (.bool true) rfl rfl rfl ?_
  refine aN rfl rfl (by constructor) ?_
  refine gT rfl ?_
  refine aN rfl rfl (by constructor) ?_
  refine gT rfl ?_
  refine aN rfl rfl (by constructor) ?_
  refine gT rfl ?_
  refine aN rfl rfl (by constructor) ?_
  refine gT rfl ?_
  refine aLd st 0 rfl rfl rfl (by constructor) ?_
  refine gT rfl ?_
  refine aBinV (.bool true) rfl rfl rfl ?_
  refine aN rfl rfl (by constructor) ?_
  refine aN rfl rfl (by constructor) ?_
  refine gT rfl ?_
  refine aN rfl rfl (by constructor) ?_
  refine gT rfl ?_
  refine aN rfl rfl (by constructor) ?_
  refine gT rfl ?_
  refine aN rfl rfl (by constructor) ?_
  refine gT rfl ?_
  refine aLd st 0 rfl rfl rfl (by constructor) ?_
  refine gT rfl ?_
  refine aN rfl rfl (by constructor) ?_
  refine aN rfl rfl (by constructor) ?_
  refine sE ?_
  show AW _ (.cond _ _ _) _ _ _
  refine cC' rfl (fun h2 => ?_) (fun h2 => ?_)
  · show AWl _ _ _ _ _
    refine aN rfl rfl (by constructor) ?_
    refine aN rfl rfl (by constructor) ?_
    refine aN rfl rfl (by constructor) ?_
    refine sE ?_
    refine ⟨_, out2 (r_tmp rfl (by constructor)) (r_tmp rfl (by constructor)) ⟨rfl, rfl⟩, ?_⟩
    have h2q : ((spanM 6 xs).2.1 > 256) := of_decide_eq_true h2
    have st2 := st.pick 0 rfl
    have hF : blocksF 7 6 xs = ((spanM 6 xs).2.2, 7) := if_pos ⟨by decide, h2q⟩
    exact ⟨by rw [hF], st2⟩
  · show AWl _ _ _ _ _
    refine aN rfl rfl (by constructor) ?_
    refine aN rfl rfl (by constructor) ?_
    refine sE ?_
    refine ⟨_, out2 (r_tmp rfl (by constructor)) (r_tmp rfl (by constructor)) ⟨rfl, rfl⟩, ?_⟩
    have h2q : ¬ ((spanM 6 xs).2.1 > 256) := of_decide_eq_false h2
    have st2 := st.pick 0 rfl
    have hF : blocksF 7 6 xs = (-1, 0) := if_neg (fun hc => h2q hc.2)
    exact ⟨by rw [hF], st2⟩
theorem blocks7_10 {H : Hp} {b : Nat} {xs : List Int} {x : Value} (hk : H.m b = some ⟨true, 27, [.int .u8 7, .bool false, .int .u64 0, .int .u64 0, .int .i64 0, .bool false, .int .u8 0, .bool false, .bool false, .int .u8 0, .int .u8 0, .bool false, .int .u8 0, .int .u8 0, .bool false]⟩) (hx : Sl H 1 10 (xs.map (Value.int .u8)) x) (hb : ByteL xs) (hlen : xs.length = 10) (ha : Apart b x) :
    ACalls Try.prog 26 [.pointer (some ⟨b, 0, none⟩), x] H (fun v H' => v = .tuple #[.int .i64 (blocksF 7 10 xs).1, .int .i64 (blocksF 7 10 xs).2] ∧ Stt [b] H H' [⟨some b, true, ⟨true, 27, (blocksC 7 10 xs).cells⟩⟩]) := by
  refine acallsW Try.func26 f26_ok (Nat.le_of_ble_eq_true rfl) fun hw => ?_
  have st : Stt [b] H H [] := Stt.start hw
  replace st := st.mine hk rfl (by simp) (by simp)
  have q1 := hb.getD ((1 : Int)).toNat
  have q2 := hb.getD ((2 : Int)).toNat
  have q4 : IntKind.i64.wrap (xs.getD ((4 : Int)).toNat 0) = xs.getD 4 0 := wi _ (by have := hb.getD ((4 : Int)).toNat; omega)
  have q13 : IntKind.u64.wrap (xs.getD ((13 : Int)).toNat 0) = xs.getD 13 0 := by have := hb.getD ((13 : Int)).toNat; rw [w64]; show (xs.getD ((13 : Int)).toNat 0) % _ = xs.getD ((13 : Int)).toNat 0; omega
  unfold f26c
  show AWl _ _ _ _ _
  refine aN rfl rfl (by constructor) ?_
  refine aN rfl rfl (by constructor) ?_
  refine sE ?_
  show AWl _ _ _ _ _
  refine aN rfl rfl (by constructor) ?_
  refine aMovV x rfl ?_
  refine aC (span10_call (st.get (j := 0) rfl) (st.slcX hx ha) hb hlen ha) fun v9 H1 ⟨hv, st1⟩ => ?_
  subst hv
  replace st := st.callX 0 rfl st1 rfl
  clear st1
  refine aN rfl rfl (by constructor) ?_
  refine sE ?_
  show AWl _ _ _ _ _
  refine aMovV x rfl ?_
  refine aLen (st.slcX hx ha) rfl ?_
  refine aBinV (.bool true) rfl rfl rfl ?_
  refine sE ?_
  show AW _ (.cond _ _ _) _ _ _
  refine cT rfl ?_
  show AWl _ _ _ _ _
  refine aN rfl rfl (by constructor) ?_
  refine aMovV x rfl ?_
  refine aIxB (st.slcX hx ha) rfl rfl (by first | decide | omega) fun b15 o15 g15 => ?_
  refine aLdG rfl g15 ?_
  refine aN rfl rfl (by constructor) ?_
  refine aN rfl rfl (by constructor) ?_
  refine aN rfl rfl (by constructor) ?_
  refine aSt st 0 rfl rfl rfl rfl (by first | rfl | simp [cellsOf, *]) (by first | decide | simp [*]) (by repeat constructor) fun H2 st => ?_
  refine sE ?_
  show AWl _ _ _ _ _
  refine aN rfl rfl (by constructor) ?_
  refine aN rfl rfl (by constructor) ?_
  refine aN rfl rfl (by constructor) ?_
  refine aLd st 0 rfl rfl rfl (by constructor) ?_
  refine sE ?_
  show AWl _ _ _ _ _
  refine aBinV (.bool true) rfl rfl rfl ?_
  refine aN rfl rfl (by constructor) ?_
  refine sE ?_
  show AW _ (.cond _ _ _) _ _ _
  refine cT rfl ?_
  show AW _ (.cond _ _ _) _ _ _
  refine cT rfl ?_
  show AWl _ _ _ _ _
  refine aN rfl rfl (by constructor) ?_
  refine aMovV x rfl ?_
  refine aIxB (st.slcX hx ha) rfl rfl (by first | decide | omega) fun b29 o29 g29 => ?_
  refine aLdG rfl g29 ?_
  refine aN rfl rfl (by constructor) ?_
  refine aN rfl rfl (by constructor) ?_
  refine aN rfl rfl (by constructor) ?_
  refine aN rfl rfl (by constructor) ?_
  refine aSt st 0 rfl rfl rfl rfl (by first | rfl | simp [cellsOf, *]) (by first | decide | simp [*]) (by repeat constructor) fun H3 st => ?_
  refine sE ?_
  show AWl _ _ _ _ _
  refine aN rfl rfl (by constructor) ?_
  refine aN rfl rfl (by constructor) ?_
  refine aN rfl rfl (by constructor) ?_
  refine aLd st 0 rfl rfl rfl (by constructor) ?_
  refine aBinV (.bool true) rfl rfl rfl ?_
  refine aN rfl rfl (by constructor) ?_
  refine gT rfl ?_
  refine aN rfl rfl (by constructor) ?_
  refine gT rfl ?_
  refine aN rfl rfl (by constructor) ?_
  refine gT rfl ?_
  refine aN rfl rfl (by constructor) ?_
  refine gT rfl ?_
  refine aLd st 0 rfl rfl rfl (by constructor) ?_
  refine gT rfl ?_
  refine aBinV (.bool true) rfl rfl rfl ?_
  refine aN rfl rfl (by constructor) ?_
  refine aN rfl rfl (by constructor) ?_
  refine gT rfl ?_
  refine aN rfl rfl (by constructor) ?_
  refine gT rfl ?_
  refine aN rfl rfl (by constructor) ?_
  refine gT rfl ?_
  refine aN rfl rfl (by constructor) ?_
  refine gT rfl ?_
  refine aLd st 0 rfl rfl rfl (by constructor) ?_
  refine gT rfl ?_
  refine aN rfl rfl (by constructor) ?_
  refine aN rfl rfl (by constructor) ?_
  refine sE ?_
  show AW _ (.cond _ _ _) _ _ _
  refine cC' rfl (fun h4 => ?_) (fun h4 => ?_)
  · show AWl _ _ _ _ _
    refine aN rfl rfl (by constructor) ?_
    refine aN rfl rfl (by constructor) ?_
    refine aN rfl rfl (by constructor) ?_
    refine sE ?_
    refine ⟨_, out2 (r_tmp rfl (by constructor)) (r_tmp rfl (by constructor)) ⟨rfl, rfl⟩, ?_⟩
    have h4q : ((spanM 10 xs).2.1 > 256) := of_decide_eq_true h4
    have st2 := st.pick 0 rfl
    try simp only [b_and1 q1, b_and8 q1, b_and2 q1, b_and16 q1, b_shr5 q1, b_shr6 q2, b_and63 q2, b_and15 q2, q4, q13] at st2
    have hF : blocksF 7 10 xs = ((spanM 10 xs).2.2, 7) := if_pos ⟨by decide, h4q⟩
    exact ⟨by rw [hF], st2⟩
  · show AWl _ _ _ _ _
    refine aN rfl rfl (by constructor) ?_
    refine aN rfl rfl (by constructor) ?_
    refine sE ?_
    refine ⟨_, out2 (r_tmp rfl (by constructor)) (r_tmp rfl (by constructor)) ⟨rfl, rfl⟩, ?_⟩
    have h4q : ¬ ((spanM 10 xs).2.1 > 256) := of_decide_eq_false h4
    have st2 := st.pick 0 rfl
    try simp only [b_and1 q1, b_and8 q1, b_and2 q1, b_and16 q1, b_shr5 q1, b_shr6 q2, b_and63 q2, b_and15 q2, q4, q13] at st2
    have hF : blocksF 7 10 xs = (-1, 0) := if_neg (fun hc => h4q hc.2)
    exact ⟨by rw [hF], st2⟩
theorem blocks7_16 {H : Hp} {b : Nat} {xs : List Int} {x : Value} (hk : H.m b = some ⟨true, 27, [.int .u8 7, .bool false, .int .u64 0, .int .u64 0, .int .i64 0, .bool false, .int .u8 0, .bool false, .bool false, .int .u8 0, .int .u8 0, .bool false, .int .u8 0, .int .u8 0, .bool false]⟩) (hx : Sl H 1 16 (xs.map (Value.int .u8)) x) (hb : ByteL xs) (hlen : xs.length = 16) (ha : Apart b x) :
    ACalls Try.prog 26 [.pointer (some ⟨b, 0, none⟩), x] H (fun v H' => v = .tuple #[.int .i64 (blocksF 7 16 xs).1, .int .i64 (blocksF 7 16 xs).2] ∧ Stt [b] H H' [⟨some b, true, ⟨true, 27, (blocksC 7 16 xs).cells⟩⟩]) := by
  refine acallsW Try.func26 f26_ok (Nat.le_of_ble_eq_true rfl) fun hw => ?_
  have st : Stt [b] H H [] := Stt.start hw
  replace st := st.mine hk rfl (by simp) (by simp)
  have q1 := hb.getD ((1 : Int)).toNat
  have q2 := hb.getD ((2 : Int)).toNat
  have q4 : IntKind.i64.wrap (xs.getD ((4 : Int)).toNat 0) = xs.getD 4 0 := wi _ (by have := hb.getD ((4 : Int)).toNat; omega)
  have q13 : IntKind.u64.wrap (xs.getD ((13 : Int)).toNat 0) = xs.getD 13 0 := by have := hb.getD ((13 : Int)).toNat; rw [w64]; show (xs.getD ((13 : Int)).toNat 0) % _ = xs.getD ((13 : Int)).toNat 0; omega
  unfold f26c
  show AWl _ _ _ _ _
  refine aN rfl rfl (by constructor) ?_
  refine aN rfl rfl (by constructor) ?_
  refine sE ?_
  show AWl _ _ _ _ _
  refine aN rfl rfl (by constructor) ?_
  refine aMovV x rfl ?_
  refine aC (span16_call (st.get (j := 0) rfl) (st.slcX hx ha) hb hlen ha) fun v9 H1 ⟨hv, st1⟩ => ?_
  subst hv
  replace st := st.callX 0 rfl st1 rfl
  clear st1
  refine aN rfl rfl (by constructor) ?_
  refine sE ?_
  show AWl _ _ _ _ _
  refine aMovV x rfl ?_
  refine aLen (st.slcX hx ha) rfl ?_
  refine aBinV (.bool true) rfl rfl rfl ?_
  refine sE ?_
  show AW _ (.cond _ _ _) _ _ _
  refine cT rfl ?_
  show AWl _ _ _ _ _
  refine aN rfl rfl (by constructor) ?_
  refine aMovV x rfl ?_
  refine aIxB (st.slcX hx ha) rfl rfl (by first | decide | omega) fun b15 o15 g15 => ?_
  refine aLdG rfl g15 ?_
  refine aN rfl rfl (by constructor) ?_
  refine aN rfl rfl (by constructor) ?_
  refine aN rfl rfl (by constructor) ?_
  refine aSt st 0 rfl rfl rfl rfl (by first | rfl | simp [cellsOf, *]) (by first | decide | simp [*]) (by repeat constructor) fun H2 st => ?_
  refine sE ?_
  show AWl _ _ _ _ _
  refine aN rfl rfl (by constructor) ?_
  refine aN rfl rfl (by constructor) ?_
  refine aN rfl rfl (by constructor) ?_
  refine aLd st 0 rfl rfl rfl (by constructor) ?_
  refine sE ?_
  show AWl _ _ _ _ _
  refine aBinV (.bool true) rfl rfl rfl ?_
  refine aN rfl rfl (by constructor) ?_
  refine sE ?_
  show AW _ (.cond _ _ _) _ _ _
  refine cT rfl ?_
  show AW _ (.cond _ _ _) _ _ _
  refine cT rfl ?_
  show AWl _ _ _ _ _
  refine aN rfl rfl (by constructor) ?_
  refine aMovV x rfl ?_
  refine aIxB (st.slcX hx ha) rfl rfl (by first | decide | omega) fun b29 o29 g29 => ?_
  refine aLdG rfl g29 ?_
  refine aN rfl rfl (by constructor) ?_
  refine aN rfl rfl (by constructor) ?_
  refine aN rfl rfl (by constructor) ?_
  refine aN rfl rfl (by constructor) ?_
  refine aSt st 0 rfl rfl rfl rfl (by first | rfl | simp [cellsOf, *]) (by first | decide | simp [*]) (by repeat constructor) fun H3 st => ?_
  refine sE ?_
  show AWl _ _ _ _ _
  refine aN rfl rfl (by constructor) ?_
  refine aN rfl rfl (by constructor) ?_
  refine aN rfl rfl (by constructor) ?_
  refine aLd st 0 rfl rfl rfl (by constructor) ?_
  refine aBinV (.bool true) rfl rfl rfl ?_
  refine aN rfl rfl (by constructor) ?_
  refine gT rfl ?_
  refine aN rfl rfl (by constructor) ?_
  refine gT rfl ?_
  refine aN rfl rfl (by constructor) ?_
  refine gT rfl ?_
  refine aN rfl rfl (by constructor) ?_
  refine gT rfl ?_
  refine aLd st 0 rfl rfl rfl (by constructor) ?_
  refine gT rfl ?_
  refine aBinV (.bool true) rfl rfl rfl ?_
  refine aN rfl rfl (by constructor) ?_
  refine aN rfl rfl (by constructor) ?_
  refine gT rfl ?_
  refine aN rfl rfl (by constructor) ?_
  refine gT rfl ?_
  refine aN rfl rfl (by constructor) ?_
  refine gT rfl ?_
  refine aN rfl rfl (by constructor) ?_
  refine gT rfl ?_
  refine aLd st 0 rfl rfl rfl (by constructor) ?_
  refine gT rfl ?_
  refine aN rfl rfl (by constructor) ?_
  refine aN rfl rfl (by constructor) ?_
  refine sE ?_
  show AW _ (.cond _ _ _) _ _ _
  refine cC' rfl (fun h4 => ?_) (fun h4 => ?_)
  · show AWl _ _ _ _ _
    refine aN rfl rfl (by constructor) ?_
    refine aN rfl rfl (by constructor) ?_
    refine aN rfl rfl (by constructor) ?_
    refine sE ?_
    refine ⟨_, out2 (r_tmp rfl (by constructor)) (r_tmp rfl (by constructor)) ⟨rfl, rfl⟩, ?_⟩
    have h4q : ((spanM 16 xs).2.1 > 256) := of_decide_eq_true h4
    have st2 := st.pick 0 rfl
    try simp only [b_and1 q1, b_and8 q1, b_and2 q1, b_and16 q1, b_shr5 q1, b_shr6 q2, b_and63 q2, b_and15 q2, q4, q13] at st2
    have hF : blocksF 7 16 xs = ((spanM 16 xs).2.2, 7) := if_pos ⟨by decide, h4q⟩
    exact ⟨by rw [hF], st2⟩
  · show AWl _ _ _ _ _
    refine aN rfl rfl (by constructor) ?_
    refine aN rfl rfl (by constructor) ?_
    refine sE ?_
    refine ⟨_, out2 (r_tmp rfl (by constructor)) (r_tmp rfl (by constructor)) ⟨rfl, rfl⟩, ?_⟩
    have h4q : ¬ ((spanM 16 xs).2.1 > 256) := of_decide_eq_false h4
    have st2 := st.pick 0 rfl
    try simp only [b_and1 q1, b_and8 q1, b_and2 q1, b_and16 q1, b_shr5 q1, b_shr6 q2, b_and63 q2, b_and15 q2, q4, q13] at st2
    have hF : blocksF 7 16 xs = (-1, 0) := if_neg (fun hc => h4q hc.2)
    exact ⟨by rw [hF], st2⟩
theorem blocks8_6 {H : Hp} {b : Nat} {xs : List Int} {x : Value} (hk : H.m b = some ⟨true, 27, [.int .u8 8, .bool false, .int .u64 0, .int .u64 0, .int .i64 0, .bool false, .int .u8 0, .bool false, .bool false, .int .u8 0, .int .u8 0, .bool false, .int .u8 0, .int .u8 0, .bool false]⟩) (hx : Sl H 1 6 (xs.map (Value.int .u8)) x) (hb : ByteL xs) (hlen : xs.length = 6) (ha : Apart b x) :
    ACalls Try.prog 26 [.pointer (some ⟨b, 0, none⟩), x] H (fun v H' => v = .tuple #[.int .i64 (blocksF 8 6 xs).1, .int .i64 (blocksF 8 6 xs).2] ∧ Stt [b] H H' [⟨some b, true, ⟨true, 27, (blocksC 8 6 xs).cells⟩⟩]) := by
  refine acallsW Try.func26 f26_ok (Nat.le_of_ble_eq_true rfl) fun hw => ?_
  have st : Stt [b] H H [] := Stt.start hw
  replace st := st.mine hk rfl (by simp) (by simp)
  have q1 := hb.getD ((1 : Int)).toNat
  have q2 := hb.getD ((2 : Int)).toNat
  have q4 : IntKind.i64.wrap (xs.getD ((4 : Int)).toNat 0) = xs.getD 4 0 := wi _ (by have := hb.getD ((4 : Int)).toNat; omega)
  have q13 : IntKind.u64.wrap (xs.getD ((13 : Int)).toNat 0) = xs.getD 13 0 := by have := hb.getD ((13 : Int)).toNat; rw [w64]; show (xs.getD ((13 : Int)).toNat 0) % _ = xs.getD ((13 : Int)).toNat 0; omega
  unfold f26c
  show AWl _ _ _ _ _
  refine aN rfl rfl (by constructor) ?_
  refine aN rfl rfl (by constructor) ?_
  refine sE ?_
  show AWl _ _ _ _ _
  refine aN rfl rfl (by constructor) ?_
  refine aMovV x rfl ?_
  refine aC (span6_call (st.get (j := 0) rfl) (st.slcX hx ha) hb hlen ha) fun v9 H1 ⟨hv, st1⟩ => ?_
  subst hv
  replace st := st.callX 0 rfl st1 rfl
  clear st1
  refine aN rfl rfl (by constructor) ?_
  refine sE ?_
  show AWl _ _ _ _ _
  refine aMovV x rfl ?_
  refine aLen (st.slcX hx ha) rfl ?_
  refine aBinV (.bool false) rfl rfl rfl ?_
  refine sE ?_
  show AW _ (.cond _ _ _) _ _ _
  refine cF' rfl ?_
  show AWl _ _ _ _ _
  refine aN rfl rfl (by constructor) ?_
  refine aN rfl rfl (by constructor) ?_
  refine aN rfl rfl (by constructor) ?_
  refine aLd st 0 rfl rfl rfl (by constructor) ?_
  refine aBinV (.bool true) rfl rfl rfl ?_
  refine aN rfl rfl (by constructor) ?_
  refine gT rfl ?_
  refine aN rfl rfl (by constructor) ?_
  refine gT rfl ?_
  refine aN rfl rfl (by constructor) ?_
  refine gT rfl ?_
  refine aN rfl rfl (by constructor) ?_
  refine gT rfl ?_
  refine aLd st 0 rfl rfl rfl (by constructor) ?_
  refine gT rfl ?_
  refine aBinV (.bool true) rfl rfl rfl ?_
  refine aN rfl rfl (by constructor) ?_
  refine aN rfl rfl (by constructor) ?_
  refine gT rfl ?_
  refine aN rfl rfl (by constructor) ?_
  refine gT rfl ?_
  refine aN rfl rfl (by constructor) ?_
  refine gT rfl ?_
  refine aN rfl rfl (by constructor) ?_
  refine gT rfl ?_
  refine aLd st 0 rfl rfl rfl (by constructor) ?_
  refine gT rfl ?_
  refine aN rfl rfl (by constructor) ?_
  refine aN rfl rfl (by constructor) ?_
  refine sE ?_
  show AW _ (.cond _ _ _) _ _ _
  refine cC' rfl (fun h2 => ?_) (fun h2 => ?_)
  · show AWl _ _ _ _ _
    refine aN rfl rfl (by constructor) ?_
    refine aN rfl rfl (by constructor) ?_
    refine aN rfl rfl (by constructor) ?_
    refine sE ?_
    refine ⟨_, out2 (r_tmp rfl (by constructor)) (r_tmp rfl (by constructor)) ⟨rfl, rfl⟩, ?_⟩
    have h2q : ((spanM 6 xs).2.1 > 256) := of_decide_eq_true h2
    have st2 := st.pick 0 rfl
    have hF : blocksF 8 6 xs = ((spanM 6 xs).2.2, 7) := if_pos ⟨by decide, h2q⟩
    exact ⟨by rw [hF], st2⟩
  · show AWl _ _ _ _ _
    refine aN rfl rfl (by constructor) ?_
    refine aN rfl rfl (by constructor) ?_
    refine sE ?_
    refine ⟨_, out2 (r_tmp rfl (by constructor)) (r_tmp rfl (by constructor)) ⟨rfl, rfl⟩, ?_⟩
    have h2q : ¬ ((spanM 6 xs).2.1 > 256) := of_decide_eq_false h2
    have st2 := st.pick 0 rfl
    have hF : blocksF 8 6 xs = (-1, 0) := if_neg (fun hc => h2q hc.2)
    exact ⟨by rw [hF], st2⟩
theorem blocks8_10 {H : Hp} {b : Nat} {xs : List Int} {x : Value} (hk : H.m b = some ⟨true, 27, [.int .u8 8, .bool false, .int .u64 0, .int .u64 0, .int .i64 0, .bool false, .int .u8 0, .bool false, .bool false, .int .u8 0, .int .u8 0, .bool false, .int .u8 0, .int .u8 0, .bool false]⟩) (hx : Sl H 1 10 (xs.map (Value.int .u8)) x) (hb : ByteL xs) (hlen : xs.length = 10) (ha : Apart b x) :
    ACalls Try.prog 26 [.pointer (some ⟨b, 0, none⟩), x] H (fun v H' => v = .tuple #[.int .i64 (blocksF 8 10 xs).1, .int .i64 (blocksF 8 10 xs).2] ∧ Stt [b] H H' [⟨some b, true, ⟨true, 27, (blocksC 8 10 xs).cells⟩⟩]) := by
  refine acallsW Try.func26 f26_ok (Nat.le_of_ble_eq_true rfl) fun hw => ?_
  have st : Stt [b] H H [] := Stt.start hw
  replace st := st.mine hk rfl (by simp) (by simp)
  have q1 := hb.getD ((1 : Int)).toNat
  have q2 := hb.getD ((2 : Int)).toNat
  have q4 : IntKind.i64.wrap (xs.getD ((4 : Int)).toNat 0) = xs.getD 4 0 := wi _ (by have := hb.getD ((4 : Int)).toNat; omega)
  have q13 : IntKind.u64.wrap (xs.getD ((13 : Int)).toNat 0) = xs.getD 13 0 := by have := hb.getD ((13 : Int)).toNat; rw [w64]; show (xs.getD ((13 : Int)).toNat 0) % _ = xs.getD ((13 : Int)).toNat 0; omega
  unfold f26c
  show AWl _ _ _ _ _
  refine aN rfl rfl (by constructor) ?_
  refine aN rfl rfl (by constructor) ?_
  refine sE ?_
  show AWl _ _ _ _ _
  refine aN rfl rfl (by constructor) ?_
  refine aMovV x rfl ?_
  refine aC (span10_call (st.get (j := 0) rfl) (st.slcX hx ha) hb hlen ha) fun v9 H1 ⟨hv, st1⟩ => ?_
  subst hv
  replace st := st.callX 0 rfl st1 rfl
  clear st1
  refine aN rfl rfl (by constructor) ?_
  refine sE ?_
  show AWl _ _ _ _ _
  refine aMovV x rfl ?_
  refine aLen (st.slcX hx ha) rfl ?_
  refine aBinV (.bool true) rfl rfl rfl ?_
  refine sE ?_
  show AW _ (.cond _ _ _) _ _ _
  refine cT rfl ?_
  show AWl _ _ _ _ _
  refine aN rfl rfl (by constructor) ?_
  refine aMovV x rfl ?_
  refine aIxB (st.slcX hx ha) rfl rfl (by first | decide | omega) fun b15 o15 g15 => ?_
  refine aLdG rfl g15 ?_
  refine aN rfl rfl (by constructor) ?_
  refine aN rfl rfl (by constructor) ?_
  refine aN rfl rfl (by constructor) ?_
  refine aSt st 0 rfl rfl rfl rfl (by first | rfl | simp [cellsOf, *]) (by first | decide | simp [*]) (by repeat constructor) fun H2 st => ?_
  refine sE ?_
  show AWl _ _ _ _ _
  refine aN rfl rfl (by constructor) ?_
  refine aN rfl rfl (by constructor) ?_
  refine aN rfl rfl (by constructor) ?_
  refine aLd st 0 rfl rfl rfl (by constructor) ?_
  refine sE ?_
  show AWl _ _ _ _ _
  refine aBinV (.bool false) rfl rfl rfl ?_
  refine aN rfl rfl (by constructor) ?_
  refine sE ?_
  show AW _ (.cond _ _ _) _ _ _
  refine cF' rfl ?_
  show AWl _ _ _ _ _
  refine aBinV (.bool true) rfl rfl rfl ?_
  refine aN rfl rfl (by constructor) ?_
  refine sE ?_
  show AW _ (.cond _ _ _) _ _ _
  refine cT rfl ?_
  show AWl _ _ _ _ _
  refine aN rfl rfl (by constructor) ?_
  refine aMovV x rfl ?_
  refine aIxB (st.slcX hx ha) rfl rfl (by first | decide | omega) fun b29 o29 g29 => ?_
  refine aLdG rfl g29 ?_
  refine aN rfl rfl (by constructor) ?_
  refine aN rfl rfl (by constructor) ?_
  refine aN rfl rfl (by constructor) ?_
  refine aN rfl rfl (by constructor) ?_
  refine aSt st 0 rfl rfl rfl rfl (by first | rfl | simp [cellsOf, *]) (by first | decide | simp [*]) (by repeat constructor) fun H3 st => ?_
  refine sE ?_
  show AWl _ _ _ _ _
  refine aN rfl rfl (by constructor) ?_
  refine aN rfl rfl (by constructor) ?_
  refine aN rfl rfl (by constructor) ?_
  refine aLd st 0 rfl rfl rfl (by constructor) ?_
  refine aBinV (.bool true) rfl rfl rfl ?_
  refine aN rfl rfl (by constructor) ?_
  refine gT rfl ?_
  refine aN rfl rfl (by constructor) ?_
  refine gT rfl ?_
  refine aN rfl rfl (by constructor) ?_
  refine gT rfl ?_
  refine aN rfl rfl (by constructor) ?_
  refine gT rfl ?_
  refine aLd st 0 rfl rfl rfl (by constructor) ?_
  refine gT rfl ?_
  refine aBinV (.bool true) rfl rfl rfl ?_
  refine aN rfl rfl (by constructor) ?_
  refine aN rfl rfl (by constructor) ?_
  refine gT rfl ?_
  refine aN rfl rfl (by constructor) ?_
  refine gT rfl ?_
  refine aN rfl rfl (by constructor) ?_
  refine gT rfl ?_
  refine aN rfl rfl (by constructor) ?_
  refine gT rfl ?_
  refine aLd st 0 rfl rfl rfl (by constructor) ?_
  refine gT rfl ?_
  refine aN rfl rfl (by constructor) ?_
  refine aN rfl rfl (by constructor) ?_
  refine sE ?_
  show AW _ (.cond _ _ _) _ _ _
  refine cC' rfl (fun h4 => ?_) (fun h4 => ?_)
  · show AWl _ _ _ _ _
    refine aN rfl rfl (by constructor) ?_
    refine aN rfl rfl (by constructor) ?_
    refine aN rfl rfl (by constructor) ?_
    refine sE ?_
    refine ⟨_, out2 (r_tmp rfl (by constructor)) (r_tmp rfl (by constructor)) ⟨rfl, rfl⟩, ?_⟩
    have h4q : ((spanM 10 xs).2.1 > 256) := of_decide_eq_true h4
    have st2 := st.pick 0 rfl
    try simp only [b_and1 q1, b_and8 q1, b_and2 q1, b_and16 q1, b_shr5 q1, b_shr6 q2, b_and63 q2, b_and15 q2, q4, q13] at st2
    have hF : blocksF 8 10 xs = ((spanM 10 xs).2.2, 7) := if_pos ⟨by decide, h4q⟩
    exact ⟨by rw [hF], st2⟩
  · show AWl _ _ _ _ _
    refine aN rfl rfl (by constructor) ?_
    refine aN rfl rfl (by constructor) ?_
    refine sE ?_
    refine ⟨_, out2 (r_tmp rfl (by constructor)) (r_tmp rfl (by constructor)) ⟨rfl, rfl⟩, ?_⟩
    have h4q : ¬ ((spanM 10 xs).2.1 > 256) := of_decide_eq_false h4
    have st2 := st.pick 0 rfl
    try simp only [b_and1 q1, b_and8 q1, b_and2 q1, b_and16 q1, b_shr5 q1, b_shr6 q2, b_and63 q2, b_and15 q2, q4, q13] at st2
    have hF : blocksF 8 10 xs = (-1, 0) := if_neg (fun hc => h4q hc.2)
    exact ⟨by rw [hF], st2⟩
theorem blocks8_16 {H : Hp} {b : Nat} {xs : List Int} {x : Value} (hk : H.m b = some ⟨true, 27, [.int .u8 8, .bool false, .int .u64 0, .int .u64 0, .int .i64 0, .bool false, .int .u8 0, .bool false, .bool false, .int .u8 0, .int .u8 0, .bool false, .int .u8 0, .int .u8 0, .bool false]⟩) (hx : Sl H 1 16 (xs.map (Value.int .u8)) x) (hb : ByteL xs) (hlen : xs.length = 16) (ha : Apart b x) :
    ACalls Try.prog 26 [.pointer (some ⟨b, 0, none⟩), x] H (fun v H' => v = .tuple #[.int .i64 (blocksF 8 16 xs).1, .int .i64 (blocksF 8 16 xs).2] ∧ Stt [b] H H' [⟨some b, true, ⟨true, 27, (blocksC 8 16 xs).cells⟩⟩]) := by
  refine acallsW Try.func26 f26_ok (Nat.le_of_ble_eq_true rfl) fun hw => ?_
  have st : Stt [b] H H [] := Stt.start hw
  replace st := st.mine hk rfl (by simp) (by simp)
  have q1 := hb.getD ((1 : Int)).toNat
  have q2 := hb.getD ((2 : Int)).toNat
  have q4 : IntKind.i64.wrap (xs.getD ((4 : Int)).toNat 0) = xs.getD 4 0 := wi _ (by have := hb.getD ((4 : Int)).toNat; omega)
  have q13 : IntKind.u64.wrap (xs.getD ((13 : Int)).toNat 0) = xs.getD 13 0 := by have := hb.getD ((13 : Int)).toNat; rw [w64]; show (xs.getD ((13 : Int)).toNat 0) % _ = xs.getD ((13 : Int)).toNat 0; omega
  unfold f26c
  show AWl _ _ _ _ _
  refine aN rfl rfl (by constructor) ?_
  refine aN rfl rfl (by constructor) ?_
  refine sE ?_
  show AWl _ _ _ _ _
  refine aN rfl rfl (by constructor) ?_
  refine aMovV x rfl ?_
  refine aC (span16_call (st.get (j := 0) rfl) (st.slcX hx ha) hb hlen ha) fun v9 H1 ⟨hv, st1⟩ => ?_
  subst hv
  replace st := st.callX 0 rfl st1 rfl
  clear st1
  refine aN rfl rfl (by constructor) ?_
  refine sE ?_
  show AWl _ _ _ _ _
  refine aMovV x rfl ?_
  refine aLen (st.slcX hx ha) rfl ?_
  refine aBinV (.bool true) rfl rfl rfl ?_
  refine sE ?_
  show AW _ (.cond _ _ _) _ _ _
  refine cT rfl ?_
  show AWl _ _ _ _ _
  refine aN rfl rfl (by constructor) ?_
  refine aMovV x rfl ?_
  refine aIxB (st.slcX hx ha) rfl rfl (by first | decide | omega) fun b15 o15 g15 => ?_
  refine aLdG rfl g15 ?_
  refine aN rfl rfl (by constructor) ?_
  refine aN rfl rfl (by constructor) ?_
  refine aN rfl rfl (by constructor) ?_
  refine aSt st 0 rfl rfl rfl rfl (by first | rfl | simp [cellsOf, *]) (by first | decide | simp [*]) (by repeat constructor) fun H2 st => ?_
  refine sE ?_
  show AWl _ _ _ _ _
  refine aN rfl rfl (by constructor) ?_
  refine aN rfl rfl (by constructor) ?_
  refine aN rfl rfl (by constructor) ?_
  refine aLd st 0 rfl rfl rfl (by constructor) ?_
  refine sE ?_
  show AWl _ _ _ _ _
  refine aBinV (.bool false) rfl rfl rfl ?_
  refine aN rfl rfl (by constructor) ?_
  refine sE ?_
  show AW _ (.cond _ _ _) _ _ _
  refine cF' rfl ?_
  show AWl _ _ _ _ _
  refine aBinV (.bool true) rfl rfl rfl ?_
  refine aN rfl rfl (by constructor) ?_
  refine sE ?_
  show AW _ (.cond _ _ _) _ _ _
  refine cT rfl ?_
  show AWl _ _ _ _ _
  refine aN rfl rfl (by constructor) ?_
  refine aMovV x rfl ?_
  refine aIxB (st.slcX hx ha) rfl rfl (by first | decide | omega) fun b29 o29 g29 => ?_
  refine aLdG rfl g29 ?_
  refine aN rfl rfl (by constructor) ?_
  refine aN rfl rfl (by constructor) ?_
  refine aN rfl rfl (by constructor) ?_
  refine aN rfl rfl (by constructor) ?_
  refine aSt st 0 rfl rfl rfl rfl (by first | rfl | simp [cellsOf, *]) (by first | decide | simp [*]) (by repeat constructor) fun H3 st => ?_
  refine sE ?_
  show AWl _ _ _ _ _
  refine aN rfl rfl (by constructor) ?_
  refine aN rfl rfl (by constructor) ?_
  refine aN rfl rfl (by constructor) ?_
  refine aLd st 0 rfl rfl rfl (by constructor) ?_
  refine aBinV (.bool true) rfl rfl rfl ?_
  refine aN rfl rfl (by constructor) ?_
  refine gT rfl ?_
  refine aN rfl rfl (by constructor) ?_
  refine gT rfl ?_
  refine aN rfl rfl (by constructor) ?_
  refine gT rfl ?_
  refine aN rfl rfl (by constructor) ?_
  refine gT rfl ?_
  refine aLd st 0 rfl rfl rfl (by constructor) ?_
  refine gT rfl ?_
  refine aBinV (.bool true) rfl rfl rfl ?_
  refine aN rfl rfl (by constructor) ?_
  refine aN rfl rfl (by constructor) ?_
  refine gT rfl ?_
  refine aN rfl rfl (by constructor) ?_
  refine gT rfl ?_
  refine aN rfl rfl (by constructor) ?_
  refine gT rfl ?_
  refine aN rfl rfl (by constructor) ?_
  refine gT rfl ?_
  refine aLd st 0 rfl rfl rfl (by constructor) ?_
  refine gT rfl ?_
  refine aN rfl rfl (by constructor) ?_
  refine aN rfl rfl (by constructor) ?_
  refine sE ?_
  show AW _ (.cond _ _ _) _ _ _
  refine cC' rfl (fun h4 => ?_) (fun h4 => ?_)
  · show AWl _ _ _ _ _
    refine aN rfl rfl (by constructor) ?_
    refine aN rfl rfl (by constructor) ?_
    refine aN rfl rfl (by constructor) ?_
    refine sE ?_
    refine ⟨_, out2 (r_tmp rfl (by constructor)) (r_tmp rfl (by constructor)) ⟨rfl, rfl⟩, ?_⟩
    have h4q : ((spanM 16 xs).2.1 > 256) := of_decide_eq_true h4
    have st2 := st.pick 0 rfl
    try simp only [b_and1 q1, b_and8 q1, b_and2 q1, b_and16 q1, b_shr5 q1, b_shr6 q2, b_and63 q2, b_and15 q2, q4, q13] at st2
    have hF : blocksF 8 16 xs = ((spanM 16 xs).2.2, 7) := if_pos ⟨by decide, h4q⟩
    exact ⟨by rw [hF], st2⟩
  · show AWl _ _ _ _ _
    refine aN rfl rfl (by constructor) ?_
    refine aN rfl rfl (by constructor) ?_
    refine sE ?_
    refine ⟨_, out2 (r_tmp rfl (by constructor)) (r_tmp rfl (by constructor)) ⟨rfl, rfl⟩, ?_⟩
    have h4q : ¬ ((spanM 16 xs).2.1 > 256) := of_decide_eq_false h4
    have st2 := st.pick 0 rfl
    try simp only [b_and1 q1, b_and8 q1, b_and2 q1, b_and16 q1, b_shr5 q1, b_shr6 q2, b_and63 q2, b_and15 q2, q4, q13] at st2
    have hF : blocksF 8 16 xs = (-1, 0) := if_neg (fun hc => h4q hc.2)
    exact ⟨by rw [hF], st2⟩
theorem blocks9_10 {H : Hp} {b : Nat} {xs : List Int} {x : Value} (hk : H.m b = some ⟨true, 27, [.int .u8 9, .bool false, .int .u64 0, .int .u64 0, .int .i64 0, .bool false, .int .u8 0, .bool false, .bool false, .int .u8 0, .int .u8 0, .bool false, .int .u8 0, .int .u8 0, .bool false]⟩) (hx : Sl H 1 10 (xs.map (Value.int .u8)) x) (hb : ByteL xs) (hlen : xs.length = 10) (ha : Apart b x) :
    ACalls Try.prog 26 [.pointer (some ⟨b, 0, none⟩), x] H (fun v H' => v = .tuple #[.int .i64 (blocksF 9 10 xs).1, .int .i64 (blocksF 9 10 xs).2] ∧ Stt [b] H H' [⟨some b, true, ⟨true, 27, (blocksC 9 10 xs).cells⟩⟩]) := by
  refine acallsW Try.func26 f26_ok (Nat.le_of_ble_eq_true rfl) fun hw => ?_
  have st : Stt [b] H H [] := Stt.start hw
  replace st := st.mine hk rfl (by simp) (by simp)
  have q1 := hb.getD ((1 : Int)).toNat
  have q2 := hb.getD ((2 : Int)).toNat
  have q4 : IntKind.i64.wrap (xs.getD ((4 : Int)).toNat 0) = xs.getD 4 0 := wi _ (by have := hb.getD ((4 : Int)).toNat; omega)
  have q13 : IntKind.u64.wrap (xs.getD ((13 : Int)).toNat 0) = xs.getD 13 0 := by have := hb.getD ((13 : Int)).toNat; rw [w64]; show (xs.getD ((13 : Int)).toNat 0) % _ = xs.getD ((13 : Int)).toNat 0; omega
  unfold f26c
  show AWl _ _ _ _ _
  refine aN rfl rfl (by constructor) ?_
  refine aN rfl rfl (by constructor) ?_
  refine sE ?_
  show AWl _ _ _ _ _
  refine aN rfl rfl (by constructor) ?_
  refine aMovV x rfl ?_
  refine aC (span10_call (st.get (j := 0) rfl) (st.slcX hx ha) hb hlen ha) fun v9 H1 ⟨hv, st1⟩ => ?_
  subst hv
  replace st := st.callX 0 rfl st1 rfl
  clear st1
  refine aN rfl rfl (by constructor) ?_
  refine sE ?_
  show AWl _ _ _ _ _
  refine aMovV x rfl ?_
  refine aLen (st.slcX hx ha) rfl ?_
  refine aBinV (.bool true) rfl rfl rfl ?_
  refine sE ?_
  show AW _ (.cond _ _ _) _ _ _
  refine cT rfl ?_
  show AWl _ _ _ _ _
  refine aN rfl rfl (by constructor) ?_
  refine aMovV x rfl ?_
  refine aIxB (st.slcX hx ha) rfl rfl (by first | decide | omega) fun b15 o15 g15 => ?_
  refine aLdG rfl g15 ?_
  refine aN rfl rfl (by constructor) ?_
  refine aN rfl rfl (by constructor) ?_
  refine aN rfl rfl (by constructor) ?_
  refine aSt st 0 rfl rfl rfl rfl (by first | rfl | simp [cellsOf, *]) (by first | decide | simp [*]) (by repeat constructor) fun H2 st => ?_
  refine sE ?_
  show AWl _ _ _ _ _
  refine aN rfl rfl (by constructor) ?_
  refine aN rfl rfl (by constructor) ?_
  refine aN rfl rfl (by constructor) ?_
  refine aLd st 0 rfl rfl rfl (by constructor) ?_
  refine sE ?_
  show AWl _ _ _ _ _
  refine aBinV (.bool false) rfl rfl rfl ?_
  refine aN rfl rfl (by constructor) ?_
  refine sE ?_
  show AW _ (.cond _ _ _) _ _ _
  refine cF' rfl ?_
  show AWl _ _ _ _ _
  refine aBinV (.bool false) rfl rfl rfl ?_
  refine aN rfl rfl (by constructor) ?_
  refine sE ?_
  show AW _ (.cond _ _ _) _ _ _
  refine cF' rfl ?_
  show AWl _ _ _ _ _
  refine aBinV (.bool false) rfl rfl rfl ?_
  refine aN rfl rfl (by constructor) ?_
  refine sE ?_
  show AW _ (.cond _ _ _) _ _ _
  refine cF' rfl ?_
  show AWl _ _ _ _ _
  refine aBinV (.bool false) rfl rfl rfl ?_
  refine aN rfl rfl (by constructor) ?_
  refine sE ?_
  show AW _ (.cond _ _ _) _ _ _
  refine cF' rfl ?_
  show AWl _ _ _ _ _
  refine aBinV (.bool false) rfl rfl rfl ?_
  refine aN rfl rfl (by constructor) ?_
  refine sE ?_
  show AW _ (.cond _ _ _) _ _ _
  refine cF' rfl ?_
  show AWl _ _ _ _ _
  refine aN rfl rfl (by constructor) ?_
  refine aN rfl rfl (by constructor) ?_
  refine aN rfl rfl (by constructor) ?_
  refine aLd st 0 rfl rfl rfl (by constructor) ?_
  refine aBinV (.bool true) rfl rfl rfl ?_
  refine aN rfl rfl (by constructor) ?_
  refine gT rfl ?_
  refine aN rfl rfl (by constructor) ?_
  refine gT rfl ?_
  refine aN rfl rfl (by constructor) ?_
  refine gT rfl ?_
  refine aN rfl rfl (by constructor) ?_
  refine gT rfl ?_
  refine aLd st 0 rfl rfl rfl (by constructor) ?_
  refine gT rfl ?_
  refine aBinV (.bool true) rfl rfl rfl ?_
  refine aN rfl rfl (by constructor) ?_
  refine aN rfl rfl (by constructor) ?_
  refine gT rfl ?_
  refine aN rfl rfl (by constructor) ?_
  refine gT rfl ?_
  refine aN rfl rfl (by constructor) ?_
  refine gT rfl ?_
  refine aN rfl rfl (by constructor) ?_
  refine gT rfl ?_
  refine aLd st 0 rfl rfl rfl (by constructor) ?_
  refine gT rfl ?_
  refine aN rfl rfl (by constructor) ?_
  refine aN rfl rfl (by constructor) ?_
  refine sE ?_
  show AW _ (.cond _ _ _) _ _ _
  refine cC' rfl (fun h3 => ?_) (fun h3 => ?_)
  · show AWl _ _ _ _ _
    refine aN rfl rfl (by constructor) ?_
    refine aN rfl rfl (by constructor) ?_
    refine aN rfl rfl (by constructor) ?_
    refine sE ?_
    refine ⟨_, out2 (r_tmp rfl (by constructor)) (r_tmp rfl (by constructor)) ⟨rfl, rfl⟩, ?_⟩
    have h3q : ((spanM 10 xs).2.1 > 256) := of_decide_eq_true h3
    have st2 := st.pick 0 rfl
    try simp only [b_and1 q1, b_and8 q1, b_and2 q1, b_and16 q1, b_shr5 q1, b_shr6 q2, b_and63 q2, b_and15 q2, q4, q13] at st2
    have hF : blocksF 9 10 xs = ((spanM 10 xs).2.2, 7) := if_pos ⟨by decide, h3q⟩
    exact ⟨by rw [hF], st2⟩
  · show AWl _ _ _ _ _
    refine aN rfl rfl (by constructor) ?_
    refine aN rfl rfl (by constructor) ?_
    refine sE ?_
    refine ⟨_, out2 (r_tmp rfl (by constructor)) (r_tmp rfl (by constructor)) ⟨rfl, rfl⟩, ?_⟩
    have h3q : ¬ ((spanM 10 xs).2.1 > 256) := of_decide_eq_false h3
    have st2 := st.pick 0 rfl
    try simp only [b_and1 q1, b_and8 q1, b_and2 q1, b_and16 q1, b_shr5 q1, b_shr6 q2, b_and63 q2, b_and15 q2, q4, q13] at st2
    have hF : blocksF 9 10 xs = (-1, 0) := if_neg (fun hc => h3q hc.2)
    exact ⟨by rw [hF], st2⟩
theorem blocks10_10 {H : Hp} {b : Nat} {xs : List Int} {x : Value} (hk : H.m b = some ⟨true, 27, [.int .u8 10, .bool false, .int .u64 0, .int .u64 0, .int .i64 0, .bool false, .int .u8 0, .bool false, .bool false, .int .u8 0, .int .u8 0, .bool false, .int .u8 0, .int .u8 0, .bool false]⟩) (hx : Sl H 1 10 (xs.map (Value.int .u8)) x) (hb : ByteL xs) (hlen : xs.length = 10) (ha : Apart b x) :
    ACalls Try.prog 26 [.pointer (some ⟨b, 0, none⟩), x] H (fun v H' => v = .tuple #[.int .i64 (blocksF 10 10 xs).1, .int .i64 (blocksF 10 10 xs).2] ∧ Stt [b] H H' [⟨some b, true, ⟨true, 27, (blocksC 10 10 xs).cells⟩⟩]) := by
  refine acallsW Try.func26 f26_ok (Nat.le_of_ble_eq_true rfl) fun hw => ?_
  have st : Stt [b] H H [] := Stt.start hw
  replace st := st.mine hk rfl (by simp) (by simp)
  have q1 := hb.getD ((1 : Int)).toNat
  have q2 := hb.getD ((2 : Int)).toNat
  have q4 : IntKind.i64.wrap (xs.getD ((4 : Int)).toNat 0) = xs.getD 4 0 := wi _ (by have := hb.getD ((4 : Int)).toNat; omega)
  have q13 : IntKind.u64.wrap (xs.getD ((13 : Int)).toNat 0) = xs.getD 13 0 := by have := hb.getD ((13 : Int)).toNat; rw [w64]; show (xs.getD ((13 : Int)).toNat 0) % _ = xs.getD ((13 : Int)).toNat 0; omega
  unfold f26c
  show AWl _ _ _ _ _
  refine aN rfl rfl (by constructor) ?_
  refine aN rfl rfl (by constructor) ?_
  refine sE ?_
  show AWl _ _ _ _ _
  refine aN rfl rfl (by constructor) ?_
  refine aMovV x rfl ?_
  refine aC (span10_call (st.get (j := 0) rfl) (st.slcX hx ha) hb hlen ha) fun v9 H1 ⟨hv, st1⟩ => ?_
  subst hv
  replace st := st.callX 0 rfl st1 rfl
  clear st1
  refine aN rfl rfl (by constructor) ?_
  refine sE ?_
  show AWl _ _ _ _ _
  refine aMovV x rfl ?_
  refine aLen (st.slcX hx ha) rfl ?_
  refine aBinV (.bool true) rfl rfl rfl ?_
  refine sE ?_
  show AW _ (.cond _ _ _) _ _ _
  refine cT rfl ?_
  show AWl _ _ _ _ _
  refine aN rfl rfl (by constructor) ?_
  refine aMovV x rfl ?_
  refine aIxB (st.slcX hx ha) rfl rfl (by first | decide | omega) fun b15 o15 g15 => ?_
  refine aLdG rfl g15 ?_
  refine aN rfl rfl (by constructor) ?_
  refine aN rfl rfl (by constructor) ?_
  refine aN rfl rfl (by constructor) ?_
  refine aSt st 0 rfl rfl rfl rfl (by first | rfl | simp [cellsOf, *]) (by first | decide | simp [*]) (by repeat constructor) fun H2 st => ?_
  refine sE ?_
  show AWl _ _ _ _ _
  refine aN rfl rfl (by constructor) ?_
  refine aN rfl rfl (by constructor) ?_
  refine aN rfl rfl (by constructor) ?_
  refine aLd st 0 rfl rfl rfl (by constructor) ?_
  refine sE ?_
  show AWl _ _ _ _ _
  refine aBinV (.bool false) rfl rfl rfl ?_
  refine aN rfl rfl (by constructor) ?_
  refine sE ?_
  show AW _ (.cond _ _ _) _ _ _
  refine cF' rfl ?_
  show AWl _ _ _ _ _
  refine aBinV (.bool false) rfl rfl rfl ?_
  refine aN rfl rfl (by constructor) ?_
  refine sE ?_
  show AW _ (.cond _ _ _) _ _ _
  refine cF' rfl ?_
  show AWl _ _ _ _ _
  refine aBinV (.bool true) rfl rfl rfl ?_
  refine aN rfl rfl (by constructor) ?_
  refine sE ?_
  show AW _ (.cond _ _ _) _ _ _
  refine cT rfl ?_
  show AWl _ _ _ _ _
  refine aN rfl rfl (by constructor) ?_
  refine aMovV x rfl ?_
  refine aIxB (st.slcX hx ha) rfl rfl (by first | decide | omega) fun b39 o39 g39 => ?_
  refine aLdG rfl g39 ?_
  refine aN rfl rfl (by constructor) ?_
  refine aN rfl rfl (by constructor) ?_
  refine aN rfl rfl (by constructor) ?_
  refine aN rfl rfl (by constructor) ?_
  refine aSt st 0 rfl rfl rfl rfl (by first | rfl | simp [cellsOf, *]) (by first | decide | simp [*]) (by repeat constructor) fun H3 st => ?_
  refine sE ?_
  show AWl _ _ _ _ _
  refine aN rfl rfl (by constructor) ?_
  refine aN rfl rfl (by constructor) ?_
  refine aN rfl rfl (by constructor) ?_
  refine aLd st 0 rfl rfl rfl (by constructor) ?_
  refine aBinV (.bool true) rfl rfl rfl ?_
  refine aN rfl rfl (by constructor) ?_
  refine gT rfl ?_
  refine aN rfl rfl (by constructor) ?_
  refine gT rfl ?_
  refine aN rfl rfl (by constructor) ?_
  refine gT rfl ?_
  refine aN rfl rfl (by constructor) ?_
  refine gT rfl ?_
  refine aLd st 0 rfl rfl rfl (by constructor) ?_
  refine gT rfl ?_
  refine aBinV (.bool true) rfl rfl rfl ?_
  refine aN rfl rfl (by constructor) ?_
  refine aN rfl rfl (by constructor) ?_
  refine gT rfl ?_
  refine aN rfl rfl (by constructor) ?_
  refine gT rfl ?_
  refine aN rfl rfl (by constructor) ?_
  refine gT rfl ?_
  refine aN rfl rfl (by constructor) ?_
  refine gT rfl ?_
  refine aLd st 0 rfl rfl rfl (by constructor) ?_
  refine gT rfl ?_
  refine aN rfl rfl (by constructor) ?_
  refine aN rfl rfl (by constructor) ?_
  refine sE ?_
  show AW _ (.cond _ _ _) _ _ _
  refine cC' rfl (fun h4 => ?_) (fun h4 => ?_)
  · show AWl _ _ _ _ _
    refine aN rfl rfl (by constructor) ?_
    refine aN rfl rfl (by constructor) ?_
    refine aN rfl rfl (by constructor) ?_
    refine sE ?_
    refine ⟨_, out2 (r_tmp rfl (by constructor)) (r_tmp rfl (by constructor)) ⟨rfl, rfl⟩, ?_⟩
    have h4q : ((spanM 10 xs).2.1 > 256) := of_decide_eq_true h4
    have st2 := st.pick 0 rfl
    try simp only [b_and1 q1, b_and8 q1, b_and2 q1, b_and16 q1, b_shr5 q1, b_shr6 q2, b_and63 q2, b_and15 q2, q4, q13] at st2
    have hF : blocksF 10 10 xs = ((spanM 10 xs).2.2, 7) := if_pos ⟨by decide, h4q⟩
    exact ⟨by rw [hF], st2⟩
  · show AWl _ _ _ _ _
    refine aN rfl rfl (by constructor) ?_
    refine aN rfl rfl (by constructor) ?_
    refine sE ?_
    refine ⟨_, out2 (r_tmp rfl (by constructor)) (r_tmp rfl (by constructor)) ⟨rfl, rfl⟩, ?_⟩
    have h4q : ¬ ((spanM 10 xs).2.1 > 256) := of_decide_eq_false h4
    have st2 := st.pick 0 rfl
    try simp only [b_and1 q1, b_and8 q1, b_and2 q1, b_and16 q1, b_shr5 q1, b_shr6 q2, b_and63 q2, b_and15 q2, q4, q13] at st2
    have hF : blocksF 10 10 xs = (-1, 0) := if_neg (fun hc => h4q hc.2)
    exact ⟨by rw [hF], st2⟩
theorem blocks11_10 {H : Hp} {b : Nat} {xs : List Int} {x : Value} (hk : H.m b = some ⟨true, 27, [.int .u8 11, .bool false, .int .u64 0, .int .u64 0, .int .i64 0, .bool false, .int .u8 0, .bool false, .bool false, .int .u8 0, .int .u8 0, .bool false, .int .u8 0, .int .u8 0, .bool false]⟩) (hx : Sl H 1 10 (xs.map (Value.int .u8)) x) (hb : ByteL xs) (hlen : xs.length = 10) (ha : Apart b x) :
    ACalls Try.prog 26 [.pointer (some ⟨b, 0, none⟩), x] H (fun v H' => v = .tuple #[.int .i64 (blocksF 11 10 xs).1, .int .i64 (blocksF 11 10 xs).2] ∧ Stt [b] H H' [⟨some b, true, ⟨true, 27, (blocksC 11 10 xs).cells⟩⟩]) := by
  refine acallsW Try.func26 f26_ok (Nat.le_of_ble_eq_true rfl) fun hw => ?_
  have st : Stt [b] H H [] := Stt.start hw
  replace st := st.mine hk rfl (by simp) (by simp)
  have q1 := hb.getD ((1 : Int)).toNat
  have q2 := hb.getD ((2 : Int)).toNat
  have q4 : IntKind.i64.wrap (xs.getD ((4 : Int)).toNat 0) = xs.getD 4 0 := wi _ (by have := hb.getD ((4 : Int)).toNat; omega)
  have q13 : IntKind.u64.wrap (xs.getD ((13 : Int)).toNat 0) = xs.getD 13 0 := by have := hb.getD ((13 : Int)).toNat; rw [w64]; show (xs.getD ((13 : Int)).toNat 0) % _ = xs.getD ((13 : Int)).toNat 0; omega
  unfold f26c
  show AWl _ _ _ _ _
  refine aN rfl rfl (by constructor) ?_
  refine aN rfl rfl (by constructor) ?_
  refine sE ?_
  show AWl _ _ _ _ _
  refine aN rfl rfl (by constructor) ?_
  refine aMovV x rfl ?_
  refine aC (span10_call (st.get (j := 0) rfl) (st.slcX hx ha) hb hlen ha) fun v9 H1 ⟨hv, st1⟩ => ?_
  subst hv
  replace st := st.callX 0 rfl st1 rfl
  clear st1
  refine aN rfl rfl (by constructor) ?_
  refine sE ?_
  show AWl _ _ _ _ _
  refine aMovV x rfl ?_
  refine aLen (st.slcX hx ha) rfl ?_
  refine aBinV (.bool true) rfl rfl rfl ?_
  refine sE ?_
  show AW _ (.cond _ _ _) _ _ _
  refine cT rfl ?_
  show AWl _ _ _ _ _
  refine aN rfl rfl (by constructor) ?_
  refine aMovV x rfl ?_
  refine aIxB (st.slcX hx ha) rfl rfl (by first | decide | omega) fun b15 o15 g15 => ?_
  refine aLdG rfl g15 ?_
  refine aN rfl rfl (by constructor) ?_
  refine aN rfl rfl (by constructor) ?_
  refine aN rfl rfl (by constructor) ?_
  refine aSt st 0 rfl rfl rfl rfl (by first | rfl | simp [cellsOf, *]) (by first | decide | simp [*]) (by repeat constructor) fun H2 st => ?_
  refine sE ?_
  show AWl _ _ _ _ _
  refine aN rfl rfl (by constructor) ?_
  refine aN rfl rfl (by constructor) ?_
  refine aN rfl rfl (by constructor) ?_
  refine aLd st 0 rfl rfl rfl (by constructor) ?_
  refine sE ?_
  show AWl _ _ _ _ _
  refine aBinV (.bool false) rfl rfl rfl ?_
  refine aN rfl rfl (by constructor) ?_
  refine sE ?_
  show AW _ (.cond _ _ _) _ _ _
  refine cF' rfl ?_
  show AWl _ _ _ _ _
  refine aBinV (.bool false) rfl rfl rfl ?_
  refine aN rfl rfl (by constructor) ?_
  refine sE ?_
  show AW _ (.cond _ _ _) _ _ _
  refine cF' rfl ?_
  show AWl _ _ _ _ _
  refine aBinV (.bool false) rfl rfl rfl ?_
  refine aN rfl rfl (by constructor) ?_
  refine sE ?_
  show AW _ (.cond _ _ _) _ _ _
  refine cF' rfl ?_
  show AWl _ _ _ _ _
  refine aBinV (.bool false) rfl rfl rfl ?_
  refine aN rfl rfl (by constructor) ?_
  refine sE ?_
  show AW _ (.cond _ _ _) _ _ _
  refine cF' rfl ?_
  show AWl _ _ _ _ _
  refine aBinV (.bool true) rfl rfl rfl ?_
  refine aN rfl rfl (by constructor) ?_
  refine sE ?_
  show AW _ (.cond _ _ _) _ _ _
  refine cT rfl ?_
  show AWl _ _ _ _ _
  refine aN rfl rfl (by constructor) ?_
  refine aN rfl rfl (by constructor) ?_
  refine aN rfl rfl (by constructor) ?_
  refine aSt st 0 rfl rfl rfl rfl (by first | rfl | simp [cellsOf, *]) (by first | decide | simp [*]) (by repeat constructor) fun H3 st => ?_
  refine sE ?_
  show AWl _ _ _ _ _
  refine aN rfl rfl (by constructor) ?_
  refine aN rfl rfl (by constructor) ?_
  refine aN rfl rfl (by constructor) ?_
  refine aLd st 0 rfl rfl rfl (by constructor) ?_
  refine aBinV (.bool false) rfl rfl rfl ?_
  refine aN rfl rfl (by constructor) ?_
  refine gF rfl (by decide) ?_
  refine gF rfl (by decide) ?_
  refine gF rfl (by decide) ?_
  refine gF rfl (by decide) ?_
  refine gF rfl (by decide) ?_
  refine aN rfl rfl (by constructor) ?_
  refine aN rfl rfl (by constructor) ?_
  refine gF rfl (by decide) ?_
  refine gF rfl (by decide) ?_
  refine gF rfl (by decide) ?_
  refine gF rfl (by decide) ?_
  refine gF rfl (by decide) ?_
  refine aN rfl rfl (by constructor) ?_
  refine sE ?_
  show AW _ (.cond _ _ _) _ _ _
  refine cF' rfl ?_
  show AWl _ _ _ _ _
  refine aN rfl rfl (by constructor) ?_
  refine aN rfl rfl (by constructor) ?_
  refine sE ?_
  refine ⟨_, out2 (r_tmp rfl (by constructor)) (r_tmp rfl (by constructor)) ⟨rfl, rfl⟩, ?_⟩
  have st2 := st.pick 0 rfl
  try simp only [b_and1 q1, b_and8 q1, b_and2 q1, b_and16 q1, b_shr5 q1, b_shr6 q2, b_and63 q2, b_and15 q2, q4, q13] at st2
  have hF : blocksF 11 10 xs = (-1, 0) := if_neg (fun hc => absurd hc.1 (by decide))
  exact ⟨by rw [hF], st2⟩
theorem blocks11_16 {H : Hp} {b : Nat} {xs : List Int} {x : Value} (hk : H.m b = some ⟨true, 27, [.int .u8 11, .bool false, .int .u64 0, .int .u64 0, .int .i64 0, .bool false, .int .u8 0, .bool false, .bool false, .int .u8 0, .int .u8 0, .bool false, .int .u8 0, .int .u8 0, .bool false]⟩) (hx : Sl H 1 16 (xs.map (Value.int .u8)) x) (hb : ByteL xs) (hlen : xs.length = 16) (ha : Apart b x) :
    ACalls Try.prog 26 [.pointer (some ⟨b, 0, none⟩), x] H (fun v H' => v = .tuple #[.int .i64 (blocksF 11 16 xs).1, .int .i64 (blocksF 11 16 xs).2] ∧ Stt [b] H H' [⟨some b, true, ⟨true, 27, (blocksC 11 16 xs).cells⟩⟩]) := by
  refine acallsW Try.func26 f26_ok (Nat.le_of_ble_eq_true rfl) fun hw => ?_
  have st : Stt [b] H H [] := Stt.start hw
  replace st := st.mine hk rfl (by simp) (by simp)
  have q1 := hb.getD ((1 : Int)).toNat
  have q2 := hb.getD ((2 : Int)).toNat
  have q4 : IntKind.i64.wrap (xs.getD ((4 : Int)).toNat 0) = xs.getD 4 0 := wi _ (by have := hb.getD ((4 : Int)).toNat; omega)
  have q13 : IntKind.u64.wrap (xs.getD ((13 : Int)).toNat 0) = xs.getD 13 0 := by have := hb.getD ((13 : Int)).toNat; rw [w64]; show (xs.getD ((13 : Int)).toNat 0) % _ = xs.getD ((13 : Int)).toNat 0; omega
  unfold f26c
  show AWl _ _ _ _ _
  refine aN rfl rfl (by constructor) ?_
  refine aN rfl rfl (by constructor) ?_
  refine sE ?_
  show AWl _ _ _ _ _
  refine aN rfl rfl (by constructor) ?_
  refine aMovV x rfl ?_
  refine aC (span16_call (st.get (j := 0) rfl) (st.slcX hx ha) hb hlen ha) fun v9 H1 ⟨hv, st1⟩ => ?_
  subst hv
  replace st := st.callX 0 rfl st1 rfl
  clear st1
  refine aN rfl rfl (by constructor) ?_
  refine sE ?_
  show AWl _ _ _ _ _
  refine aMovV x rfl ?_
  refine aLen (st.slcX hx ha) rfl ?_
  refine aBinV (.bool true) rfl rfl rfl ?_
  refine sE ?_
  show AW _ (.cond _ _ _) _ _ _
  refine cT rfl ?_
  show AWl _ _ _ _ _
  refine aN rfl rfl (by constructor) ?_
  refine aMovV x rfl ?_
  refine aIxB (st.slcX hx ha) rfl rfl (by first | decide | omega) fun b15 o15 g15 => ?_
  refine aLdG rfl g15 ?_
  refine aN rfl rfl (by constructor) ?_
  refine aN rfl rfl (by constructor) ?_
  refine aN rfl rfl (by constructor) ?_
  refine aSt st 0 rfl rfl rfl rfl (by first | rfl | simp [cellsOf, *]) (by first | decide | simp [*]) (by repeat constructor) fun H2 st => ?_
  refine sE ?_
  show AWl _ _ _ _ _
  refine aN rfl rfl (by constructor) ?_
  refine aN rfl rfl (by constructor) ?_
  refine aN rfl rfl (by constructor) ?_
  refine aLd st 0 rfl rfl rfl (by constructor) ?_
  refine sE ?_
  show AWl _ _ _ _ _
  refine aBinV (.bool false) rfl rfl rfl ?_
  refine aN rfl rfl (by constructor) ?_
  refine sE ?_
  show AW _ (.cond _ _ _) _ _ _
  refine cF' rfl ?_
  show AWl _ _ _ _ _
  refine aBinV (.bool false) rfl rfl rfl ?_
  refine aN rfl rfl (by constructor) ?_
  refine sE ?_
  show AW _ (.cond _ _ _) _ _ _
  refine cF' rfl ?_
  show AWl _ _ _ _ _
  refine aBinV (.bool false) rfl rfl rfl ?_
  refine aN rfl rfl (by constructor) ?_
  refine sE ?_
  show AW _ (.cond _ _ _) _ _ _
  refine cF' rfl ?_
  show AWl _ _ _ _ _
  refine aBinV (.bool false) rfl rfl rfl ?_
  refine aN rfl rfl (by constructor) ?_
  refine sE ?_
  show AW _ (.cond _ _ _) _ _ _
  refine cF' rfl ?_
  show AWl _ _ _ _ _
  refine aBinV (.bool true) rfl rfl rfl ?_
  refine aN rfl rfl (by constructor) ?_
  refine sE ?_
  show AW _ (.cond _ _ _) _ _ _
  refine cT rfl ?_
  show AWl _ _ _ _ _
  refine aN rfl rfl (by constructor) ?_
  refine aN rfl rfl (by constructor) ?_
  refine aN rfl rfl (by constructor) ?_
  refine aSt st 0 rfl rfl rfl rfl (by first | rfl | simp [cellsOf, *]) (by first | decide | simp [*]) (by repeat constructor) fun H3 st => ?_
  refine sE ?_
  show AWl _ _ _ _ _
  refine aN rfl rfl (by constructor) ?_
  refine aN rfl rfl (by constructor) ?_
  refine aN rfl rfl (by constructor) ?_
  refine aLd st 0 rfl rfl rfl (by constructor) ?_
  refine aBinV (.bool false) rfl rfl rfl ?_
  refine aN rfl rfl (by constructor) ?_
  refine gF rfl (by decide) ?_
  refine gF rfl (by decide) ?_
  refine gF rfl (by decide) ?_
  refine gF rfl (by decide) ?_
  refine gF rfl (by decide) ?_
  refine aN rfl rfl (by constructor) ?_
  refine aN rfl rfl (by constructor) ?_
  refine gF rfl (by decide) ?_
  refine gF rfl (by decide) ?_
  refine gF rfl (by decide) ?_
  refine gF rfl (by decide) ?_
  refine gF rfl (by decide) ?_
  refine aN rfl rfl (by constructor) ?_
  refine sE ?_
  show AW _ (.cond _ _ _) _ _ _
  refine cF' rfl ?_
  show AWl _ _ _ _ _
  refine aN rfl rfl (by constructor) ?_
  refine aN rfl rfl (by constructor) ?_
  refine sE ?_
  refine ⟨_, out2 (r_tmp rfl (by constructor)) (r_tmp rfl (by constructor)) ⟨rfl, rfl⟩, ?_⟩
  have st2 := st.pick 0 rfl
  try simp only [b_and1 q1, b_and8 q1, b_and2 q1, b_and16 q1, b_shr5 q1, b_shr6 q2, b_and63 q2, b_and15 q2, q4, q13] at st2
  have hF : blocksF 11 16 xs = (-1, 0) := if_neg (fun hc => absurd hc.1 (by decide))
  exact ⟨by rw [hF], st2⟩
theorem blocks12_10 {H : Hp} {b : Nat} {xs : List Int} {x : Value} (hk : H.m b = some ⟨true, 27, [.int .u8 12, .bool false, .int .u64 0, .int .u64 0, .int .i64 0, .bool false, .int .u8 0, .bool false, .bool false, .int .u8 0, .int .u8 0, .bool false, .int .u8 0, .int .u8 0, .bool false]⟩) (hx : Sl H 1 10 (xs.map (Value.int .u8)) x) (hb : ByteL xs) (hlen : xs.length = 10) (ha : Apart b x) :
    ACalls Try.prog 26 [.pointer (some ⟨b, 0, none⟩), x] H (fun v H' => v = .tuple #[.int .i64 (blocksF 12 10 xs).1, .int .i64 (blocksF 12 10 xs).2] ∧ Stt [b] H H' [⟨some b, true, ⟨true, 27, (blocksC 12 10 xs).cells⟩⟩]) := by
  refine acallsW Try.func26 f26_ok (Nat.le_of_ble_eq_true rfl) fun hw => ?_
  have st : Stt [b] H H [] := Stt.start hw
  replace st := st.mine hk rfl (by simp) (by simp)
  have q1 := hb.getD ((1 : Int)).toNat
  have q2 := hb.getD ((2 : Int)).toNat
  have q4 : IntKind.i64.wrap (xs.getD ((4 : Int)).toNat 0) = xs.getD 4 0 := wi _ (by have := hb.getD ((4 : Int)).toNat; omega)
  have q13 : IntKind.u64.wrap (xs.getD ((13 : Int)).toNat 0) = xs.getD 13 0 := by have := hb.getD ((13 : Int)).toNat; rw [w64]; show (xs.getD ((13 : Int)).toNat 0) % _ = xs.getD ((13 : Int)).toNat 0; omega
  unfold f26c
  show AWl _ _ _ _ _
  refine aN rfl rfl (by constructor) ?_
  refine aN rfl rfl (by constructor) ?_
  refine sE ?_
  show AWl _ _ _ _ _
  refine aN rfl rfl (by constructor) ?_
  refine aMovV x rfl ?_
  refine aC (span10_call (st.get (j := 0) rfl) (st.slcX hx ha) hb hlen ha) fun v9 H1 ⟨hv, st1⟩ => ?_
  subst hv
  replace st := st.callX 0 rfl st1 rfl
  clear st1
  refine aN rfl rfl (by constructor) ?_
  refine sE ?_
  show AWl _ _ _ _ _
  refine aMovV x rfl ?_
  refine aLen (st.slcX hx ha) rfl ?_
  refine aBinV (.bool true) rfl rfl rfl ?_
  refine sE ?_
  show AW _ (.cond _ _ _) _ _ _
  refine cT rfl ?_
  show AWl _ _ _ _ _
  refine aN rfl rfl (by constructor) ?_
  refine aMovV x rfl ?_
  refine aIxB (st.slcX hx ha) rfl rfl (by first | decide | omega) fun b15 o15 g15 => ?_
  refine aLdG rfl g15 ?_
  refine aN rfl rfl (by constructor) ?_
  refine aN rfl rfl (by constructor) ?_
  refine aN rfl rfl (by constructor) ?_
  refine aSt st 0 rfl rfl rfl rfl (by first | rfl | simp [cellsOf, *]) (by first | decide | simp [*]) (by repeat constructor) fun H2 st => ?_
  refine sE ?_
  show AWl _ _ _ _ _
  refine aN rfl rfl (by constructor) ?_
  refine aN rfl rfl (by constructor) ?_
  refine aN rfl rfl (by constructor) ?_
  refine aLd st 0 rfl rfl rfl (by constructor) ?_
  refine sE ?_
  show AWl _ _ _ _ _
  refine aBinV (.bool false) rfl rfl rfl ?_
  refine aN rfl rfl (by constructor) ?_
  refine sE ?_
  show AW _ (.cond _ _ _) _ _ _
  refine cF' rfl ?_
  show AWl _ _ _ _ _
  refine aBinV (.bool false) rfl rfl rfl ?_
  refine aN rfl rfl (by constructor) ?_
  refine sE ?_
  show AW _ (.cond _ _ _) _ _ _
  refine cF' rfl ?_
  show AWl _ _ _ _ _
  refine aBinV (.bool false) rfl rfl rfl ?_
  refine aN rfl rfl (by constructor) ?_
  refine sE ?_
  show AW _ (.cond _ _ _) _ _ _
  refine cF' rfl ?_
  show AWl _ _ _ _ _
  refine aBinV (.bool true) rfl rfl rfl ?_
  refine aN rfl rfl (by constructor) ?_
  refine sE ?_
  show AW _ (.cond _ _ _) _ _ _
  refine cT rfl ?_
  show AWl _ _ _ _ _
  refine aN rfl rfl (by constructor) ?_
  refine aMovV x rfl ?_
  refine aIxB (st.slcX hx ha) rfl rfl (by first | decide | omega) fun b49 o49 g49 => ?_
  refine aLdG rfl g49 ?_
  refine aN rfl rfl (by constructor) ?_
  refine aN rfl rfl (by constructor) ?_
  refine aN rfl rfl (by constructor) ?_
  refine aN rfl rfl (by constructor) ?_
  refine aSt st 0 rfl rfl rfl rfl (by first | rfl | simp [cellsOf, *]) (by first | decide | simp [*]) (by repeat constructor) fun H3 st => ?_
  refine sE ?_
  show AWl _ _ _ _ _
  refine aN rfl rfl (by constructor) ?_
  refine aN rfl rfl (by constructor) ?_
  refine aN rfl rfl (by constructor) ?_
  refine aLd st 0 rfl rfl rfl (by constructor) ?_
  refine aBinV (.bool true) rfl rfl rfl ?_
  refine aN rfl rfl (by constructor) ?_
  refine gT rfl ?_
  refine aN rfl rfl (by constructor) ?_
  refine gT rfl ?_
  refine aN rfl rfl (by constructor) ?_
  refine gT rfl ?_
  refine aN rfl rfl (by constructor) ?_
  refine gT rfl ?_
  refine aLd st 0 rfl rfl rfl (by constructor) ?_
  refine gT rfl ?_
  refine aBinV (.bool false) rfl rfl rfl ?_
  refine aN rfl rfl (by constructor) ?_
  refine aN rfl rfl (by constructor) ?_
  refine gF rfl (by decide) ?_
  refine gF rfl (by decide) ?_
  refine gF rfl (by decide) ?_
  refine gF rfl (by decide) ?_
  refine gF rfl (by decide) ?_
  refine aN rfl rfl (by constructor) ?_
  refine sE ?_
  show AW _ (.cond _ _ _) _ _ _
  refine cF' rfl ?_
  show AWl _ _ _ _ _
  refine aN rfl rfl (by constructor) ?_
  refine aN rfl rfl (by constructor) ?_
  refine sE ?_
  refine ⟨_, out2 (r_tmp rfl (by constructor)) (r_tmp rfl (by constructor)) ⟨rfl, rfl⟩, ?_⟩
  have st2 := st.pick 0 rfl
  try simp only [b_and1 q1, b_and8 q1, b_and2 q1, b_and16 q1, b_shr5 q1, b_shr6 q2, b_and63 q2, b_and15 q2, q4, q13] at st2
  have hF : blocksF 12 10 xs = (-1, 0) := if_neg (fun hc => absurd hc.1 (by decide))
  exact ⟨by rw [hF], st2⟩
theorem blocks12_16 {H : Hp} {b : Nat} {xs : List Int} {x : Value} (hk : H.m b = some ⟨true, 27, [.int .u8 12, .bool false, .int .u64 0, .int .u64 0, .int .i64 0, .bool false, .int .u8 0, .bool false, .bool false, .int .u8 0, .int .u8 0, .bool false, .int .u8 0, .int .u8 0, .bool false]⟩) (hx : Sl H 1 16 (xs.map (Value.int .u8)) x) (hb : ByteL xs) (hlen : xs.length = 16) (ha : Apart b x) :
    ACalls Try.prog 26 [.pointer (some ⟨b, 0, none⟩), x] H (fun v H' => v = .tuple #[.int .i64 (blocksF 12 16 xs).1, .int .i64 (blocksF 12 16 xs).2] ∧ Stt [b] H H' [⟨some b, true, ⟨true, 27, (blocksC 12 16 xs).cells⟩⟩]) := by
  refine acallsW Try.func26 f26_ok (Nat.le_of_ble_eq_true rfl) fun hw => ?_
  have st : Stt [b] H H [] := Stt.start hw
  replace st := st.mine hk rfl (by simp) (by simp)
  have q1 := hb.getD ((1 : Int)).toNat
  have q2 := hb.getD ((2 : Int)).toNat
  have q4 : IntKind.i64.wrap (xs.getD ((4 : Int)).toNat 0) = xs.getD 4 0 := wi _ (by have := hb.getD ((4 : Int)).toNat; omega)
  have q13 : IntKind.u64.wrap (xs.getD ((13 : Int)).toNat 0) = xs.getD 13 0 := by have := hb.getD ((13 : Int)).toNat; rw [w64]; show (xs.getD ((13 : Int)).toNat 0) % _ = xs.getD ((13 : Int)).toNat 0; omega
  unfold f26c
  show AWl _ _ _ _ _
  refine aN rfl rfl (by constructor) ?_
  refine aN rfl rfl (by constructor) ?_
  refine sE ?_
  show AWl _ _ _ _ _
  refine aN rfl rfl (by constructor) ?_
  refine aMovV x rfl ?_
  refine aC (span16_call (st.get (j := 0) rfl) (st.slcX hx ha) hb hlen ha) fun v9 H1 ⟨hv, st1⟩ => ?_
  subst hv
  replace st := st.callX 0 rfl st1 rfl
  clear st1
  refine aN rfl rfl (by constructor) ?_
  refine sE ?_
  show AWl _ _ _ _ _
  refine aMovV x rfl ?_
  refine aLen (st.slcX hx ha) rfl ?_
  refine aBinV (.bool true) rfl rfl rfl ?_
  refine sE ?_
  show AW _ (.cond _ _ _) _ _ _
  refine cT rfl ?_
  show AWl _ _ _ _ _
  refine aN rfl rfl (by constructor) ?_
  refine aMovV x rfl ?_
  refine aIxB (st.slcX hx ha) rfl rfl (by first | decide | omega) fun b15 o15 g15 => ?_
  refine aLdG rfl g15 ?_
  refine aN rfl rfl (by constructor) ?_
  refine aN rfl rfl (by constructor) ?_
  refine aN rfl rfl (by constructor) ?_
  refine aSt st 0 rfl rfl rfl rfl (by first | rfl | simp [cellsOf, *]) (by first | decide | simp [*]) (by repeat constructor) fun H2 st => ?_
  refine sE ?_
  show AWl _ _ _ _ _
  refine aN rfl rfl (by constructor) ?_
  refine aN rfl rfl (by constructor) ?_
  refine aN rfl rfl (by constructor) ?_
  refine aLd st 0 rfl rfl rfl (by constructor) ?_
  refine sE ?_
  show AWl _ _ _ _ _
  refine aBinV (.bool false) rfl rfl rfl ?_
  refine aN rfl rfl (by constructor) ?_
  refine sE ?_
  show AW _ (.cond _ _ _) _ _ _
  refine cF' rfl ?_
  show AWl _ _ _ _ _
  refine aBinV (.bool false) rfl rfl rfl ?_
  refine aN rfl rfl (by constructor) ?_
  refine sE ?_
  show AW _ (.cond _ _ _) _ _ _
  refine cF' rfl ?_
  show AWl _ _ _ _ _
  refine aBinV (.bool false) rfl rfl rfl ?_
  refine aN rfl rfl (by constructor) ?_
  refine sE ?_
  show AW _ (.cond _ _ _) _ _ _
  refine cF' rfl ?_
  show AWl _ _ _ _ _
  refine aBinV (.bool true) rfl rfl rfl ?_
  refine aN rfl rfl (by constructor) ?_
  refine sE ?_
  show AW _ (.cond _ _ _) _ _ _
  refine cT rfl ?_
  show AWl _ _ _ _ _
  refine aN rfl rfl (by constructor) ?_
  refine aMovV x rfl ?_
  refine aIxB (st.slcX hx ha) rfl rfl (by first | decide | omega) fun b49 o49 g49 => ?_
  refine aLdG rfl g49 ?_
  refine aN rfl rfl (by constructor) ?_
  refine aN rfl rfl (by constructor) ?_
  refine aN rfl rfl (by constructor) ?_
  refine aN rfl rfl (by constructor) ?_
  refine aSt st 0 rfl rfl rfl rfl (by first | rfl | simp [cellsOf, *]) (by first | decide | simp [*]) (by repeat constructor) fun H3 st => ?_
  refine sE ?_
  show AWl _ _ _ _ _
  refine aN rfl rfl (by constructor) ?_
  refine aN rfl rfl (by constructor) ?_
  refine aN rfl rfl (by constructor) ?_
  refine aLd st 0 rfl rfl rfl (by constructor) ?_
  refine aBinV (.bool true) rfl rfl rfl ?_
  refine aN rfl rfl (by constructor) ?_
  refine gT rfl ?_
  refine aN rfl rfl (by constructor) ?_
  refine gT rfl ?_
  refine aN rfl rfl (by constructor) ?_
  refine gT rfl ?_
  refine aN rfl rfl (by constructor) ?_
  refine gT rfl ?_
  refine aLd st 0 rfl rfl rfl (by constructor) ?_
  refine gT rfl ?_
  refine aBinV (.bool false) rfl rfl rfl ?_
  refine aN rfl rfl (by constructor) ?_
  refine aN rfl rfl (by constructor) ?_
  refine gF rfl (by decide) ?_
  refine gF rfl (by decide) ?_
  refine gF rfl (by decide) ?_
  refine gF rfl (by decide) ?_
  refine gF rfl (by decide) ?_
  refine aN rfl rfl (by constructor) ?_
  refine sE ?_
  show AW _ (.cond _ _ _) _ _ _
  refine cF' rfl ?_
  show AWl _ _ _ _ _
  refine aN rfl rfl (by constructor) ?_
  refine aN rfl rfl (by constructor) ?_
  refine sE ?_
  refine ⟨_, out2 (r_tmp rfl (by constructor)) (r_tmp rfl (by constructor)) ⟨rfl, rfl⟩, ?_⟩
  have st2 := st.pick 0 rfl
  try simp only [b_and1 q1, b_and8 q1, b_and2 q1, b_and16 q1, b_shr5 q1, b_shr6 q2, b_and63 q2, b_and15 q2, q4, q13] at st2
  have hF : blocksF 12 16 xs = (-1, 0) := if_neg (fun hc => absurd hc.1 (by decide))
  exact ⟨by rw [hF], st2⟩
theorem fill1_6 {H : Hp} {b : Nat} {xs : List Int} {x : Value} {sv : Int} (hk : H.m b = some ⟨true, 27, [.int .u8 1, .bool false, .int .u64 0, .int .u64 0, .int .i64 0, .bool false, .int .u8 0, .bool false, .bool false, .int .u8 0, .int .u8 0, .bool false, .int .u8 0, .int .u8 0, .bool false]⟩) (hx : Sl H 1 6 (xs.map (Value.int .u8)) x) (hb : ByteL xs) (hlen : xs.length = 6) (ha : Apart b x) (hw5 : True) :
    ACalls Try.prog 19 [.pointer (some ⟨b, 0, none⟩), x, .int .u8 sv] H (fun v H' => v = .tuple #[.int .i64 (fillF 1 6 xs).1, .int .i64 (fillF 1 6 xs).2] ∧ Stt [b] H H' [⟨some b, true, ⟨true, 27, (fillC 1 6 xs sv).cells⟩⟩]) := by
  refine acallsW Try.func19 f19_ok (Nat.le_of_ble_eq_true rfl) fun hw => ?_
  have st : Stt [b] H H [] := Stt.start hw
  replace st := st.mine hk rfl (by simp) (by simp)
  have q1 := hb.getD ((1 : Int)).toNat
  have q2 := hb.getD ((2 : Int)).toNat
  have q4 : IntKind.i64.wrap (xs.getD ((4 : Int)).toNat 0) = xs.getD 4 0 := wi _ (by have := hb.getD ((4 : Int)).toNat; omega)
  have q13 : IntKind.u64.wrap (xs.getD ((13 : Int)).toNat 0) = xs.getD 13 0 := by have := hb.getD ((13 : Int)).toNat; rw [w64]; show (xs.getD ((13 : Int)).toNat 0) % _ = xs.getD ((13 : Int)).toNat 0; omega
  unfold f19c
  show AWl _ _ _ _ _
  refine aN rfl rfl (by constructor) ?_
  refine aN rfl rfl (by constructor) ?_
  refine sE ?_
  show AWl _ _ _ _ _
  refine aMovV x rfl ?_
  refine aLen (st.slcX hx ha) rfl ?_
  refine aN rfl rfl (by constructor) ?_
  refine sE ?_
  show AWl _ _ _ _ _
  refine aN rfl rfl (by constructor) ?_
  refine aN rfl rfl (by constructor) ?_
  refine aN rfl rfl (by constructor) ?_
  refine aLd st 0 rfl rfl rfl (by constructor) ?_
  refine sE ?_
  show AWl _ _ _ _ _
  refine aBinV (.bool false) rfl rfl rfl ?_
  refine aN rfl rfl (by constructor) ?_
  refine sE ?_
  show AW _ (.cond _ _ _) _ _ _
  refine cF' rfl ?_
  show AWl _ _ _ _ _
  refine aBinV (.bool false) rfl rfl rfl ?_
  refine aN rfl rfl (by constructor) ?_
  refine sE ?_
  show AW _ (.cond _ _ _) _ _ _
  refine cF' rfl ?_
  show AWl _ _ _ _ _
  refine aBinV (.bool false) rfl rfl rfl ?_
  refine aN rfl rfl (by constructor) ?_
  refine sE ?_
  show AW _ (.cond _ _ _) _ _ _
  refine cF' rfl ?_
  show AWl _ _ _ _ _
  refine aBinV (.bool false) rfl rfl rfl ?_
  refine aN rfl rfl (by constructor) ?_
  refine sE ?_
  show AW _ (.cond _ _ _) _ _ _
  refine cF' rfl ?_
  show AWl _ _ _ _ _
  refine aBinV (.bool false) rfl rfl rfl ?_
  refine aN rfl rfl (by constructor) ?_
  refine sE ?_
  show AW _ (.cond _ _ _) _ _ _
  refine cF' rfl ?_
  show AWl _ _ _ _ _
  refine aBinV (.bool false) rfl rfl rfl ?_
  refine aN rfl rfl (by constructor) ?_
  refine sE ?_
  show AW _ (.cond _ _ _) _ _ _
  refine cF' rfl ?_
  show AWl _ _ _ _ _
  refine aBinV (.bool false) rfl rfl rfl ?_
  refine aN rfl rfl (by constructor) ?_
  refine sE ?_
  show AW _ (.cond _ _ _) _ _ _
  refine cF' rfl ?_
  show AWl _ _ _ _ _
  refine aBinV (.bool false) rfl rfl rfl ?_
  refine aN rfl rfl (by constructor) ?_
  refine sE ?_
  show AW _ (.cond _ _ _) _ _ _
  refine cF' rfl ?_
  show AWl _ _ _ _ _
  refine aBinV (.bool false) rfl rfl rfl ?_
  refine aN rfl rfl (by constructor) ?_
  refine sE ?_
  show AW _ (.cond _ _ _) _ _ _
  refine cF' rfl ?_
  show AWl _ _ _ _ _
  refine aBinV (.bool false) rfl rfl rfl ?_
  refine aN rfl rfl (by constructor) ?_
  refine sE ?_
  show AW _ (.cond _ _ _) _ _ _
  refine cF' rfl ?_
  show AWl _ _ _ _ _
  refine aBinV (.bool false) rfl rfl rfl ?_
  refine aN rfl rfl (by constructor) ?_
  refine sE ?_
  show AW _ (.cond _ _ _) _ _ _
  refine cF' rfl ?_
  show AWl _ _ _ _ _
  refine aBinV (.bool false) rfl rfl rfl ?_
  refine aN rfl rfl (by constructor) ?_
  refine sE ?_
  show AW _ (.cond _ _ _) _ _ _
  refine cF' rfl ?_
  show AWl _ _ _ _ _
  refine aBinV (.bool false) rfl rfl rfl ?_
  refine aN rfl rfl (by constructor) ?_
  refine sE ?_
  show AW _ (.cond _ _ _) _ _ _
  refine cF' rfl ?_
  show AWl _ _ _ _ _
  refine aBinV (.bool false) rfl rfl rfl ?_
  refine aN rfl rfl (by constructor) ?_
  refine sE ?_
  show AW _ (.cond _ _ _) _ _ _
  refine cF' rfl ?_
  show AWl _ _ _ _ _
  refine aBinV (.bool false) rfl rfl rfl ?_
  refine aN rfl rfl (by constructor) ?_
  refine sE ?_
  show AW _ (.cond _ _ _) _ _ _
  refine cF' rfl ?_
  show AWl _ _ _ _ _
  refine aBinV (.bool false) rfl rfl rfl ?_
  refine aN rfl rfl (by constructor) ?_
  refine sE ?_
  show AW _ (.cond _ _ _) _ _ _
  refine cF' rfl ?_
  show AWl _ _ _ _ _
  refine aBinV (.bool false) rfl rfl rfl ?_
  refine aN rfl rfl (by constructor) ?_
  refine sE ?_
  show AW _ (.cond _ _ _) _ _ _
  refine cF' rfl ?_
  show AWl _ _ _ _ _
  refine aN rfl rfl (by constructor) ?_
  refine aN rfl rfl (by constructor) ?_
  refine sE ?_
  refine ⟨_, out2 (r_tmp rfl (by constructor)) (r_tmp rfl (by constructor)) ⟨rfl, rfl⟩, ?_⟩
  have st2 := st.pick 0 rfl
  try simp only [b_and1 q1, b_and8 q1, b_and2 q1, b_and16 q1, b_shr5 q1, b_shr6 q2, b_and63 q2, b_and15 q2, q4, q13] at st2
  have hF : fillF 1 6 xs = (-1, 0) := rfl
  exact ⟨by rw [hF], st2⟩
theorem fill2_6 {H : Hp} {b : Nat} {xs : List Int} {x : Value} {sv : Int} (hk : H.m b = some ⟨true, 27, [.int .u8 2, .bool false, .int .u64 0, .int .u64 0, .int .i64 0, .bool false, .int .u8 0, .bool false, .bool false, .int .u8 0, .int .u8 0, .bool false, .int .u8 0, .int .u8 0, .bool false]⟩) (hx : Sl H 1 6 (xs.map (Value.int .u8)) x) (hb : ByteL xs) (hlen : xs.length = 6) (ha : Apart b x) (hw5 : True) :
    ACalls Try.prog 19 [.pointer (some ⟨b, 0, none⟩), x, .int .u8 sv] H (fun v H' => v = .tuple #[.int .i64 (fillF 2 6 xs).1, .int .i64 (fillF 2 6 xs).2] ∧ Stt [b] H H' [⟨some b, true, ⟨true, 27, (fillC 2 6 xs sv).cells⟩⟩]) := by
  refine acallsW Try.func19 f19_ok (Nat.le_of_ble_eq_true rfl) fun hw => ?_
  have st : Stt [b] H H [] := Stt.start hw
  replace st := st.mine hk rfl (by simp) (by simp)
  have q1 := hb.getD ((1 : Int)).toNat
  have q2 := hb.getD ((2 : Int)).toNat
  have q4 : IntKind.i64.wrap (xs.getD ((4 : Int)).toNat 0) = xs.getD 4 0 := wi _ (by have := hb.getD ((4 : Int)).toNat; omega)
  have q13 : IntKind.u64.wrap (xs.getD ((13 : Int)).toNat 0) = xs.getD 13 0 := by have := hb.getD ((13 : Int)).toNat; rw [w64]; show (xs.getD ((13 : Int)).toNat 0) % _ = xs.getD ((13 : Int)).toNat 0; omega
  unfold f19c
  show AWl _ _ _ _ _
  refine aN rfl rfl (by constructor) ?_
  refine aN rfl rfl (by constructor) ?_
  refine sE ?_
  show AWl _ _ _ _ _
  refine aMovV x rfl ?_
  refine aLen (st.slcX hx ha) rfl ?_
  refine aN rfl rfl (by constructor) ?_
  refine sE ?_
  show AWl _ _ _ _ _
  refine aN rfl rfl (by constructor) ?_
  refine aN rfl rfl (by constructor) ?_
  refine aN rfl rfl (by constructor) ?_
  refine aLd st 0 rfl rfl rfl (by constructor) ?_
  refine sE ?_
  show AWl _ _ _ _ _
  refine aBinV (.bool true) rfl rfl rfl ?_
  refine aN rfl rfl (by constructor) ?_
  refine sE ?_
  show AW _ (.cond _ _ _) _ _ _
  refine cT rfl ?_
  show AWl _ _ _ _ _
  refine aN rfl rfl (by constructor) ?_
  refine aMovV x rfl ?_
  refine aIxBK (st.slcX hx ha) rfl rfl (by first | decide | omega) fun b19 o19 g19 => ?_
  refine aLdG rfl (g19 _ (st.slcX hx ha)) ?_
  refine aN rfl rfl (by constructor) ?_
  refine aN rfl rfl (by constructor) ?_
  refine aN rfl rfl (by constructor) ?_
  refine aSt st 0 rfl rfl rfl rfl (by first | rfl | simp [cellsOf, *]) (by first | decide | simp [*]) (by repeat constructor) fun H1 st => ?_
  refine sE ?_
  show AWl _ _ _ _ _
  refine aN rfl rfl (by constructor) ?_
  refine aMovV x rfl ?_
  refine aIxBK (st.slcX hx ha) rfl rfl (by first | decide | omega) fun b26 o26 g26 => ?_
  refine aLdG rfl (g26 _ (st.slcX hx ha)) ?_
  refine aN rfl rfl (by constructor) ?_
  refine aN rfl rfl (by constructor) ?_
  refine aN rfl rfl (by constructor) ?_
  refine aN rfl rfl (by constructor) ?_
  refine aSt st 0 rfl rfl rfl rfl (by first | rfl | simp [cellsOf, *]) (by first | decide | simp [*]) (by repeat constructor) fun H2 st => ?_
  refine sE ?_
  show AWl _ _ _ _ _
  refine aN rfl rfl (by constructor) ?_
  refine aN rfl rfl (by constructor) ?_
  refine sE ?_
  refine ⟨_, out2 (r_tmp rfl (by constructor)) (r_tmp rfl (by constructor)) ⟨rfl, rfl⟩, ?_⟩
  have st2 := st.pick 0 rfl
  try simp only [b_and1 q1, b_and8 q1, b_and2 q1, b_and16 q1, b_shr5 q1, b_shr6 q2, b_and63 q2, b_and15 q2, q4, q13] at st2
  have hF : fillF 2 6 xs = (-1, 0) := rfl
  exact ⟨by rw [hF], st2⟩
theorem fill3_6 {H : Hp} {b : Nat} {xs : List Int} {x : Value} {sv : Int} (hk : H.m b = some ⟨true, 27, [.int .u8 3, .bool false, .int .u64 0, .int .u64 0, .int .i64 0, .bool false, .int .u8 0, .bool false, .bool false, .int .u8 0, .int .u8 0, .bool false, .int .u8 0, .int .u8 0, .bool false]⟩) (hx : Sl H 1 6 (xs.map (Value.int .u8)) x) (hb : ByteL xs) (hlen : xs.length = 6) (ha : Apart b x) (hw5 : True) :
    ACalls Try.prog 19 [.pointer (some ⟨b, 0, none⟩), x, .int .u8 sv] H (fun v H' => v = .tuple #[.int .i64 (fillF 3 6 xs).1, .int .i64 (fillF 3 6 xs).2] ∧ Stt [b] H H' [⟨some b, true, ⟨true, 27, (fillC 3 6 xs sv).cells⟩⟩]) := by
  refine acallsW Try.func19 f19_ok (Nat.le_of_ble_eq_true rfl) fun hw => ?_
  have st : Stt [b] H H [] := Stt.start hw
  replace st := st.mine hk rfl (by simp) (by simp)
  have q1 := hb.getD ((1 : Int)).toNat
  have q2 := hb.getD ((2 : Int)).toNat
  have q4 : IntKind.i64.wrap (xs.getD ((4 : Int)).toNat 0) = xs.getD 4 0 := wi _ (by have := hb.getD ((4 : Int)).toNat; omega)
  have q13 : IntKind.u64.wrap (xs.getD ((13 : Int)).toNat 0) = xs.getD 13 0 := by have := hb.getD ((13 : Int)).toNat; rw [w64]; show (xs.getD ((13 : Int)).toNat 0) % _ = xs.getD ((13 : Int)).toNat 0; omega
  unfold f19c
  show AWl _ _ _ _ _
  refine aN rfl rfl (by constructor) ?_
  refine aN rfl rfl (by constructor) ?_
  refine sE ?_
  show AWl _ _ _ _ _
  refine aMovV x rfl ?_
  refine aLen (st.slcX hx ha) rfl ?_
  refine aN rfl rfl (by constructor) ?_
  refine sE ?_
  show AWl _ _ _ _ _
  refine aN rfl rfl (by constructor) ?_
  refine aN rfl rfl (by constructor) ?_
  refine aN rfl rfl (by constructor) ?_
  refine aLd st 0 rfl rfl rfl (by constructor) ?_
  refine sE ?_
  show AWl _ _ _ _ _
  refine aBinV (.bool false) rfl rfl rfl ?_
  refine aN rfl rfl (by constructor) ?_
  refine sE ?_
  show AW _ (.cond _ _ _) _ _ _
  refine cF' rfl ?_
  show AWl _ _ _ _ _
  refine aBinV (.bool true) rfl rfl rfl ?_
  refine aN rfl rfl (by constructor) ?_
  refine sE ?_
  show AW _ (.cond _ _ _) _ _ _
  refine cT rfl ?_
  show AWp _ _ _ _ _
  refine aN rfl rfl (by constructor) ?_
  refine aN rfl rfl (by constructor) ?_
  refine aN rfl rfl (by constructor) ?_
  refine aMovV x rfl ?_
  refine aIxBK (st.slcX hx ha) rfl rfl (by first | decide | omega) fun b38 o38 g38 => ?_
  refine aLdG rfl (g38 _ (st.slcX hx ha)) ?_
  refine aN rfl rfl (by constructor) ?_
  refine aN rfl rfl (by constructor) ?_
  refine aMovV x rfl ?_
  refine aIxBK (st.slcX hx ha) rfl rfl (by first | decide | omega) fun b43 o43 g43 => ?_
  refine aLdG rfl (g43 _ (st.slcX hx ha)) ?_
  refine aMovV x rfl ?_
  refine ⟨?_, trivial⟩
  refine aC (number_call (by rw [hlen]; exact (st.slcX hx ha)) hb (by omega) (by decide)) fun v46 H1 ⟨hv, st1⟩ => ?_
  subst hv
  replace st := st.call st1 rfl
  clear st1
  refine ⟨⟨(h_LdG rfl (g43 _ (st.slcX hx ha))), (h_LdG rfl (g38 _ (st.slcX hx ha))), trivial⟩, ?_⟩
  refine aN rfl rfl (by constructor) ?_
  refine aN rfl rfl (by constructor) ?_
  refine aN rfl rfl (by constructor) ?_
  refine ⟨?_, trivial⟩
  refine aSt st 0 rfl rfl rfl rfl (by first | rfl | simp [cellsOf, *]) (by first | decide | simp [*]) (by repeat constructor) fun H2 st => ?_
  refine ⟨trivial, ?_⟩
  refine aN rfl rfl (by constructor) ?_
  refine aN rfl rfl (by constructor) ?_
  refine ⟨?_, trivial⟩
  refine aSt st 0 rfl rfl rfl rfl (by first | rfl | simp [cellsOf, *]) (by first | decide | simp [*]) (by repeat constructor) fun H3 st => ?_
  refine ⟨trivial, ?_⟩
  refine aN rfl rfl (by constructor) ?_
  refine aN rfl rfl (by constructor) ?_
  refine ⟨?_, trivial⟩
  refine aSt st 0 rfl rfl rfl rfl (by first | rfl | simp [cellsOf, *]) (by first | decide | simp [*]) (by repeat constructor) fun H4 st => ?_
  refine ⟨trivial, ?_⟩
  refine pE ?_
  show AWl _ _ _ _ _
  refine aN rfl rfl (by constructor) ?_
  refine aN rfl rfl (by constructor) ?_
  refine aN rfl rfl (by constructor) ?_
  refine aLd st 0 rfl rfl rfl (by constructor) ?_
  refine aN rfl rfl (by constructor) ?_
  refine aN rfl rfl (by constructor) ?_
  refine gCase 59 rfl (fun h5 => ?_) (fun h5 => ?_)
  · refine gT rfl ?_
    refine aN rfl rfl (by constructor) ?_
    refine gT rfl ?_
    refine aN rfl rfl (by constructor) ?_
    refine gT rfl ?_
    refine aN rfl rfl (by constructor) ?_
    refine gT rfl ?_
    refine aLd st 0 rfl rfl rfl (by constructor) ?_
    refine gT rfl ?_
    refine aN rfl rfl (by constructor) ?_
    refine aN rfl rfl (by constructor) ?_
    refine sE ?_
    show AW _ (.cond _ _ _) _ _ _
    refine cC' rfl (fun h6 => ?_) (fun h6 => ?_)
    · show AWl _ _ _ _ _
      refine aN rfl rfl (by constructor) ?_
      refine aN rfl rfl (by constructor) ?_
      refine sE ?_
      refine ⟨_, out2 (r_tmp rfl (by constructor)) (r_tmp rfl (by constructor)) ⟨rfl, rfl⟩, ?_⟩
      try simp only [b_and1 q1, b_and8 q1, b_and2 q1, b_and16 q1, b_shr5 q1, b_shr6 q2, b_and63 q2, b_and15 q2, q4, q13] at h5
      try simp only [b_and1 q1, b_and8 q1, b_and2 q1, b_and16 q1, b_shr5 q1, b_shr6 q2, b_and63 q2, b_and15 q2, q4, q13] at h6
      have st2 := st.pick 0 rfl
      try simp only [b_and1 q1, b_and8 q1, b_and2 q1, b_and16 q1, b_shr5 q1, b_shr6 q2, b_and63 q2, b_and15 q2, q4, q13] at st2
      have hF : fillF 3 6 xs = (2, 7) := by show (if (xs.getD 1 0 % 2 == 1) = false ∧ xs.getD 2 0 ≠ 0 then ((2 : Int), (7 : Int)) else (-1, 0)) = _; rw [if_pos ⟨by simpa using h5, by simpa using h6⟩]
      exact ⟨by rw [hF], st2⟩
    · show AWl _ _ _ _ _
      refine aN rfl rfl (by constructor) ?_
      refine aN rfl rfl (by constructor) ?_
      refine sE ?_
      refine ⟨_, out2 (r_tmp rfl (by constructor)) (r_tmp rfl (by constructor)) ⟨rfl, rfl⟩, ?_⟩
      try simp only [b_and1 q1, b_and8 q1, b_and2 q1, b_and16 q1, b_shr5 q1, b_shr6 q2, b_and63 q2, b_and15 q2, q4, q13] at h5
      try simp only [b_and1 q1, b_and8 q1, b_and2 q1, b_and16 q1, b_shr5 q1, b_shr6 q2, b_and63 q2, b_and15 q2, q4, q13] at h6
      have st2 := st.pick 0 rfl
      try simp only [b_and1 q1, b_and8 q1, b_and2 q1, b_and16 q1, b_shr5 q1, b_shr6 q2, b_and63 q2, b_and15 q2, q4, q13] at st2
      have hF : fillF 3 6 xs = (-1, 0) := by show (if (xs.getD 1 0 % 2 == 1) = false ∧ xs.getD 2 0 ≠ 0 then ((2 : Int), (7 : Int)) else (-1, 0)) = _; rw [if_neg (fun hc => hc.2 (by simpa using h6))]
      exact ⟨by rw [hF], st2⟩
  · refine gF rfl (by decide) ?_
    refine gF rfl (by decide) ?_
    refine gF rfl (by decide) ?_
    refine gF rfl (by decide) ?_
    refine gF rfl (by decide) ?_
    refine aN rfl rfl (by constructor) ?_
    refine sE ?_
    show AW _ (.cond _ _ _) _ _ _
    refine cF' rfl ?_
    show AWl _ _ _ _ _
    refine aN rfl rfl (by constructor) ?_
    refine aN rfl rfl (by constructor) ?_
    refine sE ?_
    refine ⟨_, out2 (r_tmp rfl (by constructor)) (r_tmp rfl (by constructor)) ⟨rfl, rfl⟩, ?_⟩
    try simp only [b_and1 q1, b_and8 q1, b_and2 q1, b_and16 q1, b_shr5 q1, b_shr6 q2, b_and63 q2, b_and15 q2, q4, q13] at h5
    have st2 := st.pick 0 rfl
    try simp only [b_and1 q1, b_and8 q1, b_and2 q1, b_and16 q1, b_shr5 q1, b_shr6 q2, b_and63 q2, b_and15 q2, q4, q13] at st2
    have hF : fillF 3 6 xs = (-1, 0) := by show (if (xs.getD 1 0 % 2 == 1) = false ∧ xs.getD 2 0 ≠ 0 then ((2 : Int), (7 : Int)) else (-1, 0)) = _; rw [if_neg (fun hc => by have h1 := h5; rw [show ((1 : Int)).toNat = 1 from rfl, hc.1] at h1; cases h1)]
    exact ⟨by rw [hF], st2⟩
theorem fill4_6 {H : Hp} {b : Nat} {xs : List Int} {x : Value} {sv : Int} (hk : H.m b = some ⟨true, 27, [.int .u8 4, .bool false, .int .u64 0, .int .u64 0, .int .i64 0, .bool false, .int .u8 0, .bool false, .bool false, .int .u8 0, .int .u8 0, .bool false, .int .u8 0, .int .u8 0, .bool false]⟩) (hx : Sl H 1 6 (xs.map (Value.int .u8)) x) (hb : ByteL xs) (hlen : xs.length = 6) (ha : Apart b x) (hw5 : True) :
    ACalls Try.prog 19 [.pointer (some ⟨b, 0, none⟩), x, .int .u8 sv] H (fun v H' => v = .tuple #[.int .i64 (fillF 4 6 xs).1, .int .i64 (fillF 4 6 xs).2] ∧ Stt [b] H H' [⟨some b, true, ⟨true, 27, (fillC 4 6 xs sv).cells⟩⟩]) := by
  refine acallsW Try.func19 f19_ok (Nat.le_of_ble_eq_true rfl) fun hw => ?_
  have st : Stt [b] H H [] := Stt.start hw
  replace st := st.mine hk rfl (by simp) (by simp)
  have q1 := hb.getD ((1 : Int)).toNat
  have q2 := hb.getD ((2 : Int)).toNat
  have q4 : IntKind.i64.wrap (xs.getD ((4 : Int)).toNat 0) = xs.getD 4 0 := wi _ (by have := hb.getD ((4 : Int)).toNat; omega)
  have q13 : IntKind.u64.wrap (xs.getD ((13 : Int)).toNat 0) = xs.getD 13 0 := by have := hb.getD ((13 : Int)).toNat; rw [w64]; show (xs.getD ((13 : Int)).toNat 0) % _ = xs.getD ((13 : Int)).toNat 0; omega
  unfold f19c
  show AWl _ _ _ _ _
  refine aN rfl rfl (by constructor) ?_
  refine aN rfl rfl (by constructor) ?_
  refine sE ?_
  show AWl _ _ _ _ _
  refine aMovV x rfl ?_
  refine aLen (st.slcX hx ha) rfl ?_
  refine aN rfl rfl (by constructor) ?_
  refine sE ?_
  show AWl _ _ _ _ _
  refine aN rfl rfl (by constructor) ?_
  refine aN rfl rfl (by constructor) ?_
  refine aN rfl rfl (by constructor) ?_
  refine aLd st 0 rfl rfl rfl (by constructor) ?_
  refine sE ?_
  show AWl _ _ _ _ _
  refine aBinV (.bool false) rfl rfl rfl ?_
  refine aN rfl rfl (by constructor) ?_
  refine sE ?_
  show AW _ (.cond _ _ _) _ _ _
  refine cF' rfl ?_
  show AWl _ _ _ _ _
  refine aBinV (.bool false) rfl rfl rfl ?_
  refine aN rfl rfl (by constructor) ?_
  refine sE ?_
  show AW _ (.cond _ _ _) _ _ _
  refine cF' rfl ?_
  show AWl _ _ _ _ _
  refine aBinV (.bool true) rfl rfl rfl ?_
  refine aN rfl rfl (by constructor) ?_
  refine sE ?_
  show AW _ (.cond _ _ _) _ _ _
  refine cT rfl ?_
  show AW _ (.cond _ _ _) _ _ _
  refine cT rfl ?_
  show AWl _ _ _ _ _
  refine aN rfl rfl (by constructor) ?_
  refine aN rfl rfl (by constructor) ?_
  refine aBinV (.bool false) rfl rfl rfl ?_
  refine aN rfl rfl (by constructor) ?_
  refine aN rfl rfl (by constructor) ?_
  refine aSt st 0 rfl rfl rfl rfl (by first | rfl | simp [cellsOf, *]) (by first | decide | simp [*]) (by repeat constructor) fun H1 st => ?_
  refine sE ?_
  show AWl _ _ _ _ _
  refine aN rfl rfl (by constructor) ?_
  refine aMovV x rfl ?_
  refine aIxBK (st.slcX hx ha) rfl rfl (by first | decide | omega) fun b76 o76 g76 => ?_
  refine aLdG rfl (g76 _ (st.slcX hx ha)) ?_
  refine aN rfl rfl (by constructor) ?_
  refine aN rfl rfl (by constructor) ?_
  refine aN rfl rfl (by constructor) ?_
  refine aSt st 0 rfl rfl rfl rfl (by first | rfl | simp [cellsOf, *]) (by first | decide | simp [*]) (by repeat constructor) fun H2 st => ?_
  refine sE ?_
  show AWl _ _ _ _ _
  refine aN rfl rfl (by constructor) ?_
  refine aN rfl rfl (by constructor) ?_
  refine aN rfl rfl (by constructor) ?_
  refine aLd st 0 rfl rfl rfl (by constructor) ?_
  refine sE ?_
  show AW _ (.cond _ _ _) _ _ _
  refine cF' rfl ?_
  show AWl _ _ _ _ _
  refine aN rfl rfl (by constructor) ?_
  refine aN rfl rfl (by constructor) ?_
  refine aN rfl rfl (by constructor) ?_
  refine aLd st 0 rfl rfl rfl (by constructor) ?_
  refine aBinV (.bool false) rfl rfl rfl ?_
  refine sE ?_
  show AW _ (.cond _ _ _) _ _ _
  refine cF' rfl ?_
  show AWl _ _ _ _ _
  refine aN rfl rfl (by constructor) ?_
  refine aMovV x rfl ?_
  refine aIxBK (st.slcX hx ha) rfl rfl (by first | decide | omega) fun b112 o112 g112 => ?_
  refine aLdG rfl (g112 _ (st.slcX hx ha)) ?_
  refine aN rfl rfl (by constructor) ?_
  refine aN rfl rfl (by constructor) ?_
  refine aN rfl rfl (by constructor) ?_
  refine aN rfl rfl (by constructor) ?_
  refine aSt st 0 rfl rfl rfl rfl (by first | rfl | simp [cellsOf, *]) (by first | decide | simp [*]) (by repeat constructor) fun H3 st => ?_
  refine sE ?_
  show AWl _ _ _ _ _
  refine aMovV x rfl ?_
  refine aIxBK (st.slcX hx ha) rfl rfl (by first | decide | omega) fun b119 o119 g119 => ?_
  refine aLdG rfl (g119 _ (st.slcX hx ha)) ?_
  refine aN rfl rfl (by constructor) ?_
  refine aN rfl rfl (by constructor) ?_
  refine sE ?_
  show AW _ (.cond _ _ _) _ _ _
  refine cC' rfl (fun h4 => ?_) (fun h4 => ?_)
  · show AWl _ _ _ _ _
    refine aN rfl rfl (by constructor) ?_
    refine aN rfl rfl (by constructor) ?_
    refine sE ?_
    refine ⟨_, out2 (r_tmp rfl (by constructor)) (r_tmp rfl (by constructor)) ⟨rfl, rfl⟩, ?_⟩
    try simp only [b_and1 q1, b_and8 q1, b_and2 q1, b_and16 q1, b_shr5 q1, b_shr6 q2, b_and63 q2, b_and15 q2, q4, q13] at h4
    have st2 := st.pick 0 rfl
    try simp only [b_and1 q1, b_and8 q1, b_and2 q1, b_and16 q1, b_shr5 q1, b_shr6 q2, b_and63 q2, b_and15 q2, q4, q13] at st2
    have hF : fillF 4 6 xs = (1, 4) := by show (if xs.getD 1 0 / 16 % 2 = 0 then ((1 : Int), (4 : Int)) else (-1, 0)) = _; rw [if_pos (by simpa using h4)]
    exact ⟨by rw [hF], st2⟩
  · show AWl _ _ _ _ _
    refine aN rfl rfl (by constructor) ?_
    refine aN rfl rfl (by constructor) ?_
    refine sE ?_
    refine ⟨_, out2 (r_tmp rfl (by constructor)) (r_tmp rfl (by constructor)) ⟨rfl, rfl⟩, ?_⟩
    try simp only [b_and1 q1, b_and8 q1, b_and2 q1, b_and16 q1, b_shr5 q1, b_shr6 q2, b_and63 q2, b_and15 q2, q4, q13] at h4
    have st2 := st.pick 0 rfl
    try simp only [b_and1 q1, b_and8 q1, b_and2 q1, b_and16 q1, b_shr5 q1, b_shr6 q2, b_and63 q2, b_and15 q2, q4, q13] at st2
    have hF : fillF 4 6 xs = (-1, 0) := by show (if xs.getD 1 0 / 16 % 2 = 0 then ((1 : Int), (4 : Int)) else (-1, 0)) = _; rw [if_neg (by simpa using h4)]
    exact ⟨by rw [hF], st2⟩
theorem fill4_10 {H : Hp} {b : Nat} {xs : List Int} {x : Value} {sv : Int} (hk : H.m b = some ⟨true, 27, [.int .u8 4, .bool false, .int .u64 0, .int .u64 0, .int .i64 0, .bool false, .int .u8 0, .bool false, .bool false, .int .u8 0, .int .u8 0, .bool false, .int .u8 0, .int .u8 0, .bool false]⟩) (hx : Sl H 1 10 (xs.map (Value.int .u8)) x) (hb : ByteL xs) (hlen : xs.length = 10) (ha : Apart b x) (hw5 : True) :
    ACalls Try.prog 19 [.pointer (some ⟨b, 0, none⟩), x, .int .u8 sv] H (fun v H' => v = .tuple #[.int .i64 (fillF 4 10 xs).1, .int .i64 (fillF 4 10 xs).2] ∧ Stt [b] H H' [⟨some b, true, ⟨true, 27, (fillC 4 10 xs sv).cells⟩⟩]) := by
  refine acallsW Try.func19 f19_ok (Nat.le_of_ble_eq_true rfl) fun hw => ?_
  have st : Stt [b] H H [] := Stt.start hw
  replace st := st.mine hk rfl (by simp) (by simp)
  have q1 := hb.getD ((1 : Int)).toNat
  have q2 := hb.getD ((2 : Int)).toNat
  have q4 : IntKind.i64.wrap (xs.getD ((4 : Int)).toNat 0) = xs.getD 4 0 := wi _ (by have := hb.getD ((4 : Int)).toNat; omega)
  have q13 : IntKind.u64.wrap (xs.getD ((13 : Int)).toNat 0) = xs.getD 13 0 := by have := hb.getD ((13 : Int)).toNat; rw [w64]; show (xs.getD ((13 : Int)).toNat 0) % _ = xs.getD ((13 : Int)).toNat 0; omega
  unfold f19c
  show AWl _ _ _ _ _
  refine aN rfl rfl (by constructor) ?_
  refine aN rfl rfl (by constructor) ?_
  refine sE ?_
  show AWl _ _ _ _ _
  refine aMovV x rfl ?_
  refine aLen (st.slcX hx ha) rfl ?_
  refine aN rfl rfl (by constructor) ?_
  refine sE ?_
  show AWl _ _ _ _ _
  refine aN rfl rfl (by constructor) ?_
  refine aN rfl rfl (by constructor) ?_
  refine aN rfl rfl (by constructor) ?_
  refine aLd st 0 rfl rfl rfl (by constructor) ?_
  refine sE ?_
  show AWl _ _ _ _ _
  refine aBinV (.bool false) rfl rfl rfl ?_
  refine aN rfl rfl (by constructor) ?_
  refine sE ?_
  show AW _ (.cond _ _ _) _ _ _
  refine cF' rfl ?_
  show AWl _ _ _ _ _
  refine aBinV (.bool false) rfl rfl rfl ?_
  refine aN rfl rfl (by constructor) ?_
  refine sE ?_
  show AW _ (.cond _ _ _) _ _ _
  refine cF' rfl ?_
  show AWl _ _ _ _ _
  refine aBinV (.bool true) rfl rfl rfl ?_
  refine aN rfl rfl (by constructor) ?_
  refine sE ?_
  show AW _ (.cond _ _ _) _ _ _
  refine cT rfl ?_
  show AW _ (.cond _ _ _) _ _ _
  refine cT rfl ?_
  show AWl _ _ _ _ _
  refine aN rfl rfl (by constructor) ?_
  refine aN rfl rfl (by constructor) ?_
  refine aBinV (.bool true) rfl rfl rfl ?_
  refine aN rfl rfl (by constructor) ?_
  refine aN rfl rfl (by constructor) ?_
  refine aSt st 0 rfl rfl rfl rfl (by first | rfl | simp [cellsOf, *]) (by first | decide | simp [*]) (by repeat constructor) fun H1 st => ?_
  refine sE ?_
  show AWl _ _ _ _ _
  refine aN rfl rfl (by constructor) ?_
  refine aMovV x rfl ?_
  refine aIxBK (st.slcX hx ha) rfl rfl (by first | decide | omega) fun b76 o76 g76 => ?_
  refine aLdG rfl (g76 _ (st.slcX hx ha)) ?_
  refine aN rfl rfl (by constructor) ?_
  refine aN rfl rfl (by constructor) ?_
  refine aN rfl rfl (by constructor) ?_
  refine aSt st 0 rfl rfl rfl rfl (by first | rfl | simp [cellsOf, *]) (by first | decide | simp [*]) (by repeat constructor) fun H2 st => ?_
  refine sE ?_
  show AWl _ _ _ _ _
  refine aN rfl rfl (by constructor) ?_
  refine aN rfl rfl (by constructor) ?_
  refine aN rfl rfl (by constructor) ?_
  refine aLd st 0 rfl rfl rfl (by constructor) ?_
  refine sE ?_
  show AW _ (.cond _ _ _) _ _ _
  refine cT rfl ?_
  show AWl _ _ _ _ _
  refine aN rfl rfl (by constructor) ?_
  refine aMovV x rfl ?_
  refine aC (number_call (by rw [hlen]; exact (st.slcX hx ha)) hb (by omega) (by decide)) fun v87 H3 ⟨hv, st1⟩ => ?_
  subst hv
  replace st := st.call st1 rfl
  clear st1
  refine aN rfl rfl (by constructor) ?_
  refine aN rfl rfl (by constructor) ?_
  refine aN rfl rfl (by constructor) ?_
  refine aSt st 0 rfl rfl rfl rfl (by first | rfl | simp [cellsOf, *]) (by first | decide | simp [*]) (by repeat constructor) fun H4 st => ?_
  refine sE ?_
  show AWl _ _ _ _ _
  refine aN rfl rfl (by constructor) ?_
  refine aN rfl rfl (by constructor) ?_
  refine aN rfl rfl (by constructor) ?_
  refine aLd st 0 rfl rfl rfl (by constructor) ?_
  refine aBinV (.bool false) rfl rfl rfl ?_
  refine sE ?_
  show AW _ (.cond _ _ _) _ _ _
  refine cF' rfl ?_
  show AWl _ _ _ _ _
  refine aN rfl rfl (by constructor) ?_
  refine aMovV x rfl ?_
  refine aIxBK (st.slcX hx ha) rfl rfl (by first | decide | omega) fun b112 o112 g112 => ?_
  refine aLdG rfl (g112 _ (st.slcX hx ha)) ?_
  refine aN rfl rfl (by constructor) ?_
  refine aN rfl rfl (by constructor) ?_
  refine aN rfl rfl (by constructor) ?_
  refine aN rfl rfl (by constructor) ?_
  refine aSt st 0 rfl rfl rfl rfl (by first | rfl | simp [cellsOf, *]) (by first | decide | simp [*]) (by repeat constructor) fun H5 st => ?_
  refine sE ?_
  show AWl _ _ _ _ _
  refine aMovV x rfl ?_
  refine aIxBK (st.slcX hx ha) rfl rfl (by first | decide | omega) fun b119 o119 g119 => ?_
  refine aLdG rfl (g119 _ (st.slcX hx ha)) ?_
  refine aN rfl rfl (by constructor) ?_
  refine aN rfl rfl (by constructor) ?_
  refine sE ?_
  show AW _ (.cond _ _ _) _ _ _
  refine cC' rfl (fun h6 => ?_) (fun h6 => ?_)
  · show AWl _ _ _ _ _
    refine aN rfl rfl (by constructor) ?_
    refine aN rfl rfl (by constructor) ?_
    refine sE ?_
    refine ⟨_, out2 (r_tmp rfl (by constructor)) (r_tmp rfl (by constructor)) ⟨rfl, rfl⟩, ?_⟩
    try simp only [b_and1 q1, b_and8 q1, b_and2 q1, b_and16 q1, b_shr5 q1, b_shr6 q2, b_and63 q2, b_and15 q2, q4, q13] at h6
    have st2 := st.pick 0 rfl
    try simp only [b_and1 q1, b_and8 q1, b_and2 q1, b_and16 q1, b_shr5 q1, b_shr6 q2, b_and63 q2, b_and15 q2, q4, q13] at st2
    have hF : fillF 4 10 xs = (1, 4) := by show (if xs.getD 1 0 / 16 % 2 = 0 then ((1 : Int), (4 : Int)) else (-1, 0)) = _; rw [if_pos (by simpa using h6)]
    exact ⟨by rw [hF], st2⟩
  · show AWl _ _ _ _ _
    refine aN rfl rfl (by constructor) ?_
    refine aN rfl rfl (by constructor) ?_
    refine sE ?_
    refine ⟨_, out2 (r_tmp rfl (by constructor)) (r_tmp rfl (by constructor)) ⟨rfl, rfl⟩, ?_⟩
    try simp only [b_and1 q1, b_and8 q1, b_and2 q1, b_and16 q1, b_shr5 q1, b_shr6 q2, b_and63 q2, b_and15 q2, q4, q13] at h6
    have st2 := st.pick 0 rfl
    try simp only [b_and1 q1, b_and8 q1, b_and2 q1, b_and16 q1, b_shr5 q1, b_shr6 q2, b_and63 q2, b_and15 q2, q4, q13] at st2
    have hF : fillF 4 10 xs = (-1, 0) := by show (if xs.getD 1 0 / 16 % 2 = 0 then ((1 : Int), (4 : Int)) else (-1, 0)) = _; rw [if_neg (by simpa using h6)]
    exact ⟨by rw [hF], st2⟩
theorem fill5_6 {H : Hp} {b : Nat} {xs : List Int} {x : Value} {sv : Int} (hk : H.m b = some ⟨true, 27, [.int .u8 5, .bool false, .int .u64 0, .int .u64 0, .int .i64 0, .bool false, .int .u8 0, .bool false, .bool false, .int .u8 0, .int .u8 0, .bool false, .int .u8 0, .int .u8 0, .bool false]⟩) (hx : Sl H 1 6 (xs.map (Value.int .u8)) x) (hb : ByteL xs) (hlen : xs.length = 6) (ha : Apart b x) (hw5 : True) :
    ACalls Try.prog 19 [.pointer (some ⟨b, 0, none⟩), x, .int .u8 sv] H (fun v H' => v = .tuple #[.int .i64 (fillF 5 6 xs).1, .int .i64 (fillF 5 6 xs).2] ∧ Stt [b] H H' [⟨some b, true, ⟨true, 27, (fillC 5 6 xs sv).cells⟩⟩]) := by
  refine acallsW Try.func19 f19_ok (Nat.le_of_ble_eq_true rfl) fun hw => ?_
  have st : Stt [b] H H [] := Stt.start hw
  replace st := st.mine hk rfl (by simp) (by simp)
  have q1 := hb.getD ((1 : Int)).toNat
  have q2 := hb.getD ((2 : Int)).toNat
  have q4 : IntKind.i64.wrap (xs.getD ((4 : Int)).toNat 0) = xs.getD 4 0 := wi _ (by have := hb.getD ((4 : Int)).toNat; omega)
  have q13 : IntKind.u64.wrap (xs.getD ((13 : Int)).toNat 0) = xs.getD 13 0 := by have := hb.getD ((13 : Int)).toNat; rw [w64]; show (xs.getD ((13 : Int)).toNat 0) % _ = xs.getD ((13 : Int)).toNat 0; omega
  unfold f19c
  show AWl _ _ _ _ _
  refine aN rfl rfl (by constructor) ?_
  refine aN rfl rfl (by constructor) ?_
  refine sE ?_
  show AWl _ _ _ _ _
  refine aMovV x rfl ?_
  refine aLen (st.slcX hx ha) rfl ?_
  refine aN rfl rfl (by constructor) ?_
  refine sE ?_
  show AWl _ _ _ _ _
  refine aN rfl rfl (by constructor) ?_
  refine aN rfl rfl (by constructor) ?_
  refine aN rfl rfl (by constructor) ?_
  refine aLd st 0 rfl rfl rfl (by constructor) ?_
  refine sE ?_
  show AWl _ _ _ _ _
  refine aBinV (.bool false) rfl rfl rfl ?_
  refine aN rfl rfl (by constructor) ?_
  refine sE ?_
  show AW _ (.cond _ _ _) _ _ _
  refine cF' rfl ?_
  show AWl _ _ _ _ _
  refine aBinV (.bool false) rfl rfl rfl ?_
  refine aN rfl rfl (by constructor) ?_
  refine sE ?_
  show AW _ (.cond _ _ _) _ _ _
  refine cF' rfl ?_
  show AWl _ _ _ _ _
  refine aBinV (.bool false) rfl rfl rfl ?_
  refine aN rfl rfl (by constructor) ?_
  refine sE ?_
  show AW _ (.cond _ _ _) _ _ _
  refine cF' rfl ?_
  show AWl _ _ _ _ _
  refine aBinV (.bool true) rfl rfl rfl ?_
  refine aN rfl rfl (by constructor) ?_
  refine sE ?_
  show AW _ (.cond _ _ _) _ _ _
  refine cT rfl ?_
  show AWl _ _ _ _ _
  refine aN rfl rfl (by constructor) ?_
  refine aN rfl rfl (by constructor) ?_
  refine aBinV (.bool false) rfl rfl rfl ?_
  refine aN rfl rfl (by constructor) ?_
  refine aN rfl rfl (by constructor) ?_
  refine aSt st 0 rfl rfl rfl rfl (by first | rfl | simp [cellsOf, *]) (by first | decide | simp [*]) (by repeat constructor) fun H1 st => ?_
  refine sE ?_
  show AWl _ _ _ _ _
  refine aN rfl rfl (by constructor) ?_
  refine aMovV x rfl ?_
  refine aIxBK (st.slcX hx ha) rfl rfl (by first | decide | omega) fun b76 o76 g76 => ?_
  refine aLdG rfl (g76 _ (st.slcX hx ha)) ?_
  refine aN rfl rfl (by constructor) ?_
  refine aN rfl rfl (by constructor) ?_
  refine aN rfl rfl (by constructor) ?_
  refine aSt st 0 rfl rfl rfl rfl (by first | rfl | simp [cellsOf, *]) (by first | decide | simp [*]) (by repeat constructor) fun H2 st => ?_
  refine sE ?_
  show AWl _ _ _ _ _
  refine aN rfl rfl (by constructor) ?_
  refine aN rfl rfl (by constructor) ?_
  refine aN rfl rfl (by constructor) ?_
  refine aLd st 0 rfl rfl rfl (by constructor) ?_
  refine sE ?_
  show AW _ (.cond _ _ _) _ _ _
  refine cF' rfl ?_
  show AWl _ _ _ _ _
  refine aN rfl rfl (by constructor) ?_
  refine aN rfl rfl (by constructor) ?_
  refine aN rfl rfl (by constructor) ?_
  refine aLd st 0 rfl rfl rfl (by constructor) ?_
  refine aBinV (.bool true) rfl rfl rfl ?_
  refine sE ?_
  show AW _ (.cond _ _ _) _ _ _
  refine cT rfl ?_
  show AWp _ _ _ _ _
  refine aN rfl rfl (by constructor) ?_
  refine aN rfl rfl (by constructor) ?_
  refine aMovV x rfl ?_
  refine aIxBK (st.slcX hx ha) rfl rfl (by first | decide | omega) fun b99 o99 g99 => ?_
  refine aLdG rfl (g99 _ (st.slcX hx ha)) ?_
  refine aN rfl rfl (by constructor) ?_
  refine aMovV x rfl ?_
  refine aIxBK (st.slcX hx ha) rfl rfl (by first | decide | omega) fun b103 o103 g103 => ?_
  refine aLdG rfl (g103 _ (st.slcX hx ha)) ?_
  refine aN rfl rfl (by constructor) ?_
  refine aN rfl rfl (by constructor) ?_
  refine aN rfl rfl (by constructor) ?_
  refine ⟨?_, trivial⟩
  refine aSt st 0 rfl rfl rfl rfl (by first | rfl | simp [cellsOf, *]) (by first | decide | simp [*]) (by repeat constructor) fun H3 st => ?_
  refine ⟨trivial, ?_⟩
  refine aN rfl rfl (by constructor) ?_
  refine aN rfl rfl (by constructor) ?_
  refine ⟨?_, trivial⟩
  refine aSt st 0 rfl rfl rfl rfl (by first | rfl | simp [cellsOf, *]) (by first | decide | simp [*]) (by repeat constructor) fun H4 st => ?_
  refine ⟨trivial, ?_⟩
  refine pE ?_
  show AWl _ _ _ _ _
  refine aN rfl rfl (by constructor) ?_
  refine aN rfl rfl (by constructor) ?_
  refine sE ?_
  refine ⟨_, out2 (r_tmp rfl (by constructor)) (r_tmp rfl (by constructor)) ⟨rfl, rfl⟩, ?_⟩
  have st2 := st.pick 0 rfl
  try simp only [b_and1 q1, b_and8 q1, b_and2 q1, b_and16 q1, b_shr5 q1, b_shr6 q2, b_and63 q2, b_and15 q2, q4, q13] at st2
  have hF : fillF 5 6 xs = (-1, 0) := rfl
  exact ⟨by rw [hF], st2⟩
theorem fill5_10 {H : Hp} {b : Nat} {xs : List Int} {x : Value} {sv : Int} (hk : H.m b = some ⟨true, 27, [.int .u8 5, .bool false, .int .u64 0, .int .u64 0, .int .i64 0, .bool false, .int .u8 0, .bool false, .bool false, .int .u8 0, .int .u8 0, .bool false, .int .u8 0, .int .u8 0, .bool false]⟩) (hx : Sl H 1 10 (xs.map (Value.int .u8)) x) (hb : ByteL xs) (hlen : xs.length = 10) (ha : Apart b x) (hw5 : True) :
    ACalls Try.prog 19 [.pointer (some ⟨b, 0, none⟩), x, .int .u8 sv] H (fun v H' => v = .tuple #[.int .i64 (fillF 5 10 xs).1, .int .i64 (fillF 5 10 xs).2] ∧ Stt [b] H H' [⟨some b, true, ⟨true, 27, (fillC 5 10 xs sv).cells⟩⟩]) := by
  refine acallsW Try.func19 f19_ok (Nat.le_of_ble_eq_true rfl) fun hw => ?_
  have st : Stt [b] H H [] := Stt.start hw
  replace st := st.mine hk rfl (by simp) (by simp)
  have q1 := hb.getD ((1 : Int)).toNat
  have q2 := hb.getD ((2 : Int)).toNat
  have q4 : IntKind.i64.wrap (xs.getD ((4 : Int)).toNat 0) = xs.getD 4 0 := wi _ (by have := hb.getD ((4 : Int)).toNat; omega)
  have q13 : IntKind.u64.wrap (xs.getD ((13 : Int)).toNat 0) = xs.getD 13 0 := by have := hb.getD ((13 : Int)).toNat; rw [w64]; show (xs.getD ((13 : Int)).toNat 0) % _ = xs.getD ((13 : Int)).toNat 0; omega
  unfold f19c
  show AWl _ _ _ _ _
  refine aN rfl rfl (by constructor) ?_
  refine aN rfl rfl (by constructor) ?_
  refine sE ?_
  show AWl _ _ _ _ _
  refine aMovV x rfl ?_
  refine aLen (st.slcX hx ha) rfl ?_
  refine aN rfl rfl (by constructor) ?_
  refine sE ?_
  show AWl _ _ _ _ _
  refine aN rfl rfl (by constructor) ?_
  refine aN rfl rfl (by constructor) ?_
  refine aN rfl rfl (by constructor) ?_
  refine aLd st 0 rfl rfl rfl (by constructor) ?_
  refine sE ?_
  show AWl _ _ _ _ _
  refine aBinV (.bool false) rfl rfl rfl ?_
  refine aN rfl rfl (by constructor) ?_
  refine sE ?_
  show AW _ (.cond _ _ _) _ _ _
  refine cF' rfl ?_
  show AWl _ _ _ _ _
  refine aBinV (.bool false) rfl rfl rfl ?_
  refine aN rfl rfl (by constructor) ?_
  refine sE ?_
  show AW _ (.cond _ _ _) _ _ _
  refine cF' rfl ?_
  show AWl _ _ _ _ _
  refine aBinV (.bool false) rfl rfl rfl ?_
  refine aN rfl rfl (by constructor) ?_
  refine sE ?_
  show AW _ (.cond _ _ _) _ _ _
  refine cF' rfl ?_
  show AWl _ _ _ _ _
  refine aBinV (.bool true) rfl rfl rfl ?_
  refine aN rfl rfl (by constructor) ?_
  refine sE ?_
  show AW _ (.cond _ _ _) _ _ _
  refine cT rfl ?_
  show AWl _ _ _ _ _
  refine aN rfl rfl (by constructor) ?_
  refine aN rfl rfl (by constructor) ?_
  refine aBinV (.bool true) rfl rfl rfl ?_
  refine aN rfl rfl (by constructor) ?_
  refine aN rfl rfl (by constructor) ?_
  refine aSt st 0 rfl rfl rfl rfl (by first | rfl | simp [cellsOf, *]) (by first | decide | simp [*]) (by repeat constructor) fun H1 st => ?_
  refine sE ?_
  show AWl _ _ _ _ _
  refine aN rfl rfl (by constructor) ?_
  refine aMovV x rfl ?_
  refine aIxBK (st.slcX hx ha) rfl rfl (by first | decide | omega) fun b76 o76 g76 => ?_
  refine aLdG rfl (g76 _ (st.slcX hx ha)) ?_
  refine aN rfl rfl (by constructor) ?_
  refine aN rfl rfl (by constructor) ?_
  refine aN rfl rfl (by constructor) ?_
  refine aSt st 0 rfl rfl rfl rfl (by first | rfl | simp [cellsOf, *]) (by first | decide | simp [*]) (by repeat constructor) fun H2 st => ?_
  refine sE ?_
  show AWl _ _ _ _ _
  refine aN rfl rfl (by constructor) ?_
  refine aN rfl rfl (by constructor) ?_
  refine aN rfl rfl (by constructor) ?_
  refine aLd st 0 rfl rfl rfl (by constructor) ?_
  refine sE ?_
  show AW _ (.cond _ _ _) _ _ _
  refine cT rfl ?_
  show AWl _ _ _ _ _
  refine aN rfl rfl (by constructor) ?_
  refine aMovV x rfl ?_
  refine aC (number_call (by rw [hlen]; exact (st.slcX hx ha)) hb (by omega) (by decide)) fun v87 H3 ⟨hv, st1⟩ => ?_
  subst hv
  replace st := st.call st1 rfl
  clear st1
  refine aN rfl rfl (by constructor) ?_
  refine aN rfl rfl (by constructor) ?_
  refine aN rfl rfl (by constructor) ?_
  refine aSt st 0 rfl rfl rfl rfl (by first | rfl | simp [cellsOf, *]) (by first | decide | simp [*]) (by repeat constructor) fun H4 st => ?_
  refine sE ?_
  show AWl _ _ _ _ _
  refine aN rfl rfl (by constructor) ?_
  refine aN rfl rfl (by constructor) ?_
  refine aN rfl rfl (by constructor) ?_
  refine aLd st 0 rfl rfl rfl (by constructor) ?_
  refine aBinV (.bool true) rfl rfl rfl ?_
  refine sE ?_
  show AW _ (.cond _ _ _) _ _ _
  refine cT rfl ?_
  show AWp _ _ _ _ _
  refine aN rfl rfl (by constructor) ?_
  refine aN rfl rfl (by constructor) ?_
  refine aMovV x rfl ?_
  refine aIxBK (st.slcX hx ha) rfl rfl (by first | decide | omega) fun b99 o99 g99 => ?_
  refine aLdG rfl (g99 _ (st.slcX hx ha)) ?_
  refine aN rfl rfl (by constructor) ?_
  refine aMovV x rfl ?_
  refine aIxBK (st.slcX hx ha) rfl rfl (by first | decide | omega) fun b103 o103 g103 => ?_
  refine aLdG rfl (g103 _ (st.slcX hx ha)) ?_
  refine aN rfl rfl (by constructor) ?_
  refine aN rfl rfl (by constructor) ?_
  refine aN rfl rfl (by constructor) ?_
  refine ⟨?_, trivial⟩
  refine aSt st 0 rfl rfl rfl rfl (by first | rfl | simp [cellsOf, *]) (by first | decide | simp [*]) (by repeat constructor) fun H5 st => ?_
  refine ⟨trivial, ?_⟩
  refine aN rfl rfl (by constructor) ?_
  refine aN rfl rfl (by constructor) ?_
  refine ⟨?_, trivial⟩
  refine aSt st 0 rfl rfl rfl rfl (by first | rfl | simp [cellsOf, *]) (by first | decide | simp [*]) (by repeat constructor) fun H6 st => ?_
  refine ⟨trivial, ?_⟩
  refine pE ?_
  show AWl _ _ _ _ _
  refine aN rfl rfl (by constructor) ?_
  refine aN rfl rfl (by constructor) ?_
  refine sE ?_
  refine ⟨_, out2 (r_tmp rfl (by constructor)) (r_tmp rfl (by constructor)) ⟨rfl, rfl⟩, ?_⟩
  have st2 := st.pick 0 rfl
  try simp only [b_and1 q1, b_and8 q1, b_and2 q1, b_and16 q1, b_shr5 q1, b_shr6 q2, b_and63 q2, b_and15 q2, q4, q13] at st2
  have hF : fillF 5 10 xs = (-1, 0) := rfl
  exact ⟨by rw [hF], st2⟩
theorem fill6_10 {H : Hp} {b : Nat} {xs : List Int} {x : Value} {sv : Int} (hk : H.m b = some ⟨true, 27, [.int .u8 6, .bool false, .int .u64 0, .int .u64 0, .int .i64 0, .bool false, .int .u8 0, .bool false, .bool false, .int .u8 0, .int .u8 0, .bool false, .int .u8 0, .int .u8 0, .bool false]⟩) (hx : Sl H 1 10 (xs.map (Value.int .u8)) x) (hb : ByteL xs) (hlen : xs.length = 10) (ha : Apart b x) (hw5 : True) :
    ACalls Try.prog 19 [.pointer (some ⟨b, 0, none⟩), x, .int .u8 sv] H (fun v H' => v = .tuple #[.int .i64 (fillF 6 10 xs).1, .int .i64 (fillF 6 10 xs).2] ∧ Stt [b] H H' [⟨some b, true, ⟨true, 27, (fillC 6 10 xs sv).cells⟩⟩]) := by
  refine acallsW Try.func19 f19_ok (Nat.le_of_ble_eq_true rfl) fun hw => ?_
  have st : Stt [b] H H [] := Stt.start hw
  replace st := st.mine hk rfl (by simp) (by simp)
  have q1 := hb.getD ((1 : Int)).toNat
  have q2 := hb.getD ((2 : Int)).toNat
  have q4 : IntKind.i64.wrap (xs.getD ((4 : Int)).toNat 0) = xs.getD 4 0 := wi _ (by have := hb.getD ((4 : Int)).toNat; omega)
  have q13 : IntKind.u64.wrap (xs.getD ((13 : Int)).toNat 0) = xs.getD 13 0 := by have := hb.getD ((13 : Int)).toNat; rw [w64]; show (xs.getD ((13 : Int)).toNat 0) % _ = xs.getD ((13 : Int)).toNat 0; omega
  unfold f19c
  show AWl _ _ _ _ _
  refine aN rfl rfl (by constructor) ?_
  refine aN rfl rfl (by constructor) ?_
  refine sE ?_
  show AWl _ _ _ _ _
  refine aMovV x rfl ?_
  refine aLen (st.slcX hx ha) rfl ?_
  refine aN rfl rfl (by constructor) ?_
  refine sE ?_
  show AWl _ _ _ _ _
  refine aN rfl rfl (by constructor) ?_
  refine aN rfl rfl (by constructor) ?_
  refine aN rfl rfl (by constructor) ?_
  refine aLd st 0 rfl rfl rfl (by constructor) ?_
  refine sE ?_
  show AWl _ _ _ _ _
  refine aBinV (.bool false) rfl rfl rfl ?_
  refine aN rfl rfl (by constructor) ?_
  refine sE ?_
  show AW _ (.cond _ _ _) _ _ _
  refine cF' rfl ?_
  show AWl _ _ _ _ _
  refine aBinV (.bool false) rfl rfl rfl ?_
  refine aN rfl rfl (by constructor) ?_
  refine sE ?_
  show AW _ (.cond _ _ _) _ _ _
  refine cF' rfl ?_
  show AWl _ _ _ _ _
  refine aBinV (.bool false) rfl rfl rfl ?_
  refine aN rfl rfl (by constructor) ?_
  refine sE ?_
  show AW _ (.cond _ _ _) _ _ _
  refine cF' rfl ?_
  show AWl _ _ _ _ _
  refine aBinV (.bool false) rfl rfl rfl ?_
  refine aN rfl rfl (by constructor) ?_
  refine sE ?_
  show AW _ (.cond _ _ _) _ _ _
  refine cF' rfl ?_
  show AWl _ _ _ _ _
  refine aBinV (.bool true) rfl rfl rfl ?_
  refine aN rfl rfl (by constructor) ?_
  refine sE ?_
  show AW _ (.cond _ _ _) _ _ _
  refine cT rfl ?_
  show AWl _ _ _ _ _
  refine aN rfl rfl (by constructor) ?_
  refine aN rfl rfl (by constructor) ?_
  refine aBinV (.bool false) rfl rfl rfl ?_
  refine aN rfl rfl (by constructor) ?_
  refine aN rfl rfl (by constructor) ?_
  refine aSt st 0 rfl rfl rfl rfl (by first | rfl | simp [cellsOf, *]) (by first | decide | simp [*]) (by repeat constructor) fun H1 st => ?_
  refine sE ?_
  show AWl _ _ _ _ _
  refine aN rfl rfl (by constructor) ?_
  refine aN rfl rfl (by constructor) ?_
  refine aN rfl rfl (by constructor) ?_
  refine aLd st 0 rfl rfl rfl (by constructor) ?_
  refine sE ?_
  show AW _ (.cond _ _ _) _ _ _
  refine cF' rfl ?_
  show AWl _ _ _ _ _
  refine aN rfl rfl (by constructor) ?_
  refine aN rfl rfl (by constructor) ?_
  refine sE ?_
  refine ⟨_, out2 (r_tmp rfl (by constructor)) (r_tmp rfl (by constructor)) ⟨rfl, rfl⟩, ?_⟩
  have st2 := st.pick 0 rfl
  try simp only [b_and1 q1, b_and8 q1, b_and2 q1, b_and16 q1, b_shr5 q1, b_shr6 q2, b_and63 q2, b_and15 q2, q4, q13] at st2
  have hF : fillF 6 10 xs = (-1, 0) := rfl
  exact ⟨by rw [hF], st2⟩
theorem fill6_16 {H : Hp} {b : Nat} {xs : List Int} {x : Value} {sv : Int} (hk : H.m b = some ⟨true, 27, [.int .u8 6, .bool false, .int .u64 0, .int .u64 0, .int .i64 0, .bool false, .int .u8 0, .bool false, .bool false, .int .u8 0, .int .u8 0, .bool false, .int .u8 0, .int .u8 0, .bool false]⟩) (hx : Sl H 1 16 (xs.map (Value.int .u8)) x) (hb : ByteL xs) (hlen : xs.length = 16) (ha : Apart b x) (hw5 : True) :
    ACalls Try.prog 19 [.pointer (some ⟨b, 0, none⟩), x, .int .u8 sv] H (fun v H' => v = .tuple #[.int .i64 (fillF 6 16 xs).1, .int .i64 (fillF 6 16 xs).2] ∧ Stt [b] H H' [⟨some b, true, ⟨true, 27, (fillC 6 16 xs sv).cells⟩⟩]) := by
  refine acallsW Try.func19 f19_ok (Nat.le_of_ble_eq_true rfl) fun hw => ?_
  have st : Stt [b] H H [] := Stt.start hw
  replace st := st.mine hk rfl (by simp) (by simp)
  have q1 := hb.getD ((1 : Int)).toNat
  have q2 := hb.getD ((2 : Int)).toNat
  have q4 : IntKind.i64.wrap (xs.getD ((4 : Int)).toNat 0) = xs.getD 4 0 := wi _ (by have := hb.getD ((4 : Int)).toNat; omega)
  have q13 : IntKind.u64.wrap (xs.getD ((13 : Int)).toNat 0) = xs.getD 13 0 := by have := hb.getD ((13 : Int)).toNat; rw [w64]; show (xs.getD ((13 : Int)).toNat 0) % _ = xs.getD ((13 : Int)).toNat 0; omega
  unfold f19c
  show AWl _ _ _ _ _
  refine aN rfl rfl (by constructor) ?_
  refine aN rfl rfl (by constructor) ?_
  refine sE ?_
  show AWl _ _ _ _ _
  refine aMovV x rfl ?_
  refine aLen (st.slcX hx ha) rfl ?_
  refine aN rfl rfl (by constructor) ?_
  refine sE ?_
  show AWl _ _ _ _ _
  refine aN rfl rfl (by constructor) ?_
  refine aN rfl rfl (by constructor) ?_
  refine aN rfl rfl (by constructor) ?_
  refine aLd st 0 rfl rfl rfl (by constructor) ?_
  refine sE ?_
  show AWl _ _ _ _ _
  refine aBinV (.bool false) rfl rfl rfl ?_
  refine aN rfl rfl (by constructor) ?_
  refine sE ?_
  show AW _ (.cond _ _ _) _ _ _
  refine cF' rfl ?_
  show AWl _ _ _ _ _
  refine aBinV (.bool false) rfl rfl rfl ?_
  refine aN rfl rfl (by constructor) ?_
  refine sE ?_
  show AW _ (.cond _ _ _) _ _ _
  refine cF' rfl ?_
  show AWl _ _ _ _ _
  refine aBinV (.bool false) rfl rfl rfl ?_
  refine aN rfl rfl (by constructor) ?_
  refine sE ?_
  show AW _ (.cond _ _ _) _ _ _
  refine cF' rfl ?_
  show AWl _ _ _ _ _
  refine aBinV (.bool false) rfl rfl rfl ?_
  refine aN rfl rfl (by constructor) ?_
  refine sE ?_
  show AW _ (.cond _ _ _) _ _ _
  refine cF' rfl ?_
  show AWl _ _ _ _ _
  refine aBinV (.bool true) rfl rfl rfl ?_
  refine aN rfl rfl (by constructor) ?_
  refine sE ?_
  show AW _ (.cond _ _ _) _ _ _
  refine cT rfl ?_
  show AWl _ _ _ _ _
  refine aN rfl rfl (by constructor) ?_
  refine aN rfl rfl (by constructor) ?_
  refine aBinV (.bool true) rfl rfl rfl ?_
  refine aN rfl rfl (by constructor) ?_
  refine aN rfl rfl (by constructor) ?_
  refine aSt st 0 rfl rfl rfl rfl (by first | rfl | simp [cellsOf, *]) (by first | decide | simp [*]) (by repeat constructor) fun H1 st => ?_
  refine sE ?_
  show AWl _ _ _ _ _
  refine aN rfl rfl (by constructor) ?_
  refine aN rfl rfl (by constructor) ?_
  refine aN rfl rfl (by constructor) ?_
  refine aLd st 0 rfl rfl rfl (by constructor) ?_
  refine sE ?_
  show AW _ (.cond _ _ _) _ _ _
  refine cT rfl ?_
  show AWl _ _ _ _ _
  refine aN rfl rfl (by constructor) ?_
  refine aMovV x rfl ?_
  refine aC (number_call (by rw [hlen]; exact (st.slcX hx ha)) hb (by omega) (by decide)) fun v136 H2 ⟨hv, st1⟩ => ?_
  subst hv
  replace st := st.call st1 rfl
  clear st1
  refine aN rfl rfl (by constructor) ?_
  refine aN rfl rfl (by constructor) ?_
  refine aN rfl rfl (by constructor) ?_
  refine aSt st 0 rfl rfl rfl rfl (by first | rfl | simp [cellsOf, *]) (by first | decide | simp [*]) (by repeat constructor) fun H3 st => ?_
  refine sE ?_
  show AWl _ _ _ _ _
  refine aN rfl rfl (by constructor) ?_
  refine aN rfl rfl (by constructor) ?_
  refine sE ?_
  refine ⟨_, out2 (r_tmp rfl (by constructor)) (r_tmp rfl (by constructor)) ⟨rfl, rfl⟩, ?_⟩
  have st2 := st.pick 0 rfl
  try simp only [b_and1 q1, b_and8 q1, b_and2 q1, b_and16 q1, b_shr5 q1, b_shr6 q2, b_and63 q2, b_and15 q2, q4, q13] at st2
  have hF : fillF 6 16 xs = (-1, 0) := rfl
  exact ⟨by rw [hF], st2⟩
theorem fill13_10 {H : Hp} {b : Nat} {xs : List Int} {x : Value} {sv : Int} (hk : H.m b = some ⟨true, 27, [.int .u8 13, .bool false, .int .u64 0, .int .u64 0, .int .i64 0, .bool false, .int .u8 0, .bool false, .bool false, .int .u8 0, .int .u8 0, .bool false, .int .u8 0, .int .u8 0, .bool false]⟩) (hx : Sl H 1 10 (xs.map (Value.int .u8)) x) (hb : ByteL xs) (hlen : xs.length = 10) (ha : Apart b x) (hw5 : True) :
    ACalls Try.prog 19 [.pointer (some ⟨b, 0, none⟩), x, .int .u8 sv] H (fun v H' => v = .tuple #[.int .i64 (fillF 13 10 xs).1, .int .i64 (fillF 13 10 xs).2] ∧ Stt [b] H H' [⟨some b, true, ⟨true, 27, (fillC 13 10 xs sv).cells⟩⟩]) := by
  refine acallsW Try.func19 f19_ok (Nat.le_of_ble_eq_true rfl) fun hw => ?_
  have st : Stt [b] H H [] := Stt.start hw
  replace st := st.mine hk rfl (by simp) (by simp)
  have q1 := hb.getD ((1 : Int)).toNat
  have q2 := hb.getD ((2 : Int)).toNat
  have q4 : IntKind.i64.wrap (xs.getD ((4 : Int)).toNat 0) = xs.getD 4 0 := wi _ (by have := hb.getD ((4 : Int)).toNat; omega)
  have q13 : IntKind.u64.wrap (xs.getD ((13 : Int)).toNat 0) = xs.getD 13 0 := by have := hb.getD ((13 : Int)).toNat; rw [w64]; show (xs.getD ((13 : Int)).toNat 0) % _ = xs.getD ((13 : Int)).toNat 0; omega
  unfold f19c
  show AWl _ _ _ _ _
  refine aN rfl rfl (by constructor) ?_
  refine aN rfl rfl (by constructor) ?_
  refine sE ?_
  show AWl _ _ _ _ _
  refine aMovV x rfl ?_
  refine aLen (st.slcX hx ha) rfl ?_
  refine aN rfl rfl (by constructor) ?_
  refine sE ?_
  show AWl _ _ _ _ _
  refine aN rfl rfl (by constructor) ?_
  refine aN rfl rfl (by constructor) ?_
  refine aN rfl rfl (by constructor) ?_
  refine aLd st 0 rfl rfl rfl (by constructor) ?_
  refine sE ?_
  show AWl _ _ _ _ _
  refine aBinV (.bool false) rfl rfl rfl ?_
  refine aN rfl rfl (by constructor) ?_
  refine sE ?_
  show AW _ (.cond _ _ _) _ _ _
  refine cF' rfl ?_
  show AWl _ _ _ _ _
  refine aBinV (.bool false) rfl rfl rfl ?_
  refine aN rfl rfl (by constructor) ?_
  refine sE ?_
  show AW _ (.cond _ _ _) _ _ _
  refine cF' rfl ?_
  show AWl _ _ _ _ _
  refine aBinV (.bool false) rfl rfl rfl ?_
  refine aN rfl rfl (by constructor) ?_
  refine sE ?_
  show AW _ (.cond _ _ _) _ _ _
  refine cF' rfl ?_
  show AWl _ _ _ _ _
  refine aBinV (.bool false) rfl rfl rfl ?_
  refine aN rfl rfl (by constructor) ?_
  refine sE ?_
  show AW _ (.cond _ _ _) _ _ _
  refine cF' rfl ?_
  show AWl _ _ _ _ _
  refine aBinV (.bool false) rfl rfl rfl ?_
  refine aN rfl rfl (by constructor) ?_
  refine sE ?_
  show AW _ (.cond _ _ _) _ _ _
  refine cF' rfl ?_
  show AWl _ _ _ _ _
  refine aBinV (.bool false) rfl rfl rfl ?_
  refine aN rfl rfl (by constructor) ?_
  refine sE ?_
  show AW _ (.cond _ _ _) _ _ _
  refine cF' rfl ?_
  show AWl _ _ _ _ _
  refine aBinV (.bool false) rfl rfl rfl ?_
  refine aN rfl rfl (by constructor) ?_
  refine sE ?_
  show AW _ (.cond _ _ _) _ _ _
  refine cF' rfl ?_
  show AWl _ _ _ _ _
  refine aBinV (.bool false) rfl rfl rfl ?_
  refine aN rfl rfl (by constructor) ?_
  refine sE ?_
  show AW _ (.cond _ _ _) _ _ _
  refine cF' rfl ?_
  show AWl _ _ _ _ _
  refine aBinV (.bool false) rfl rfl rfl ?_
  refine aN rfl rfl (by constructor) ?_
  refine sE ?_
  show AW _ (.cond _ _ _) _ _ _
  refine cF' rfl ?_
  show AWl _ _ _ _ _
  refine aBinV (.bool false) rfl rfl rfl ?_
  refine aN rfl rfl (by constructor) ?_
  refine sE ?_
  show AW _ (.cond _ _ _) _ _ _
  refine cF' rfl ?_
  show AWl _ _ _ _ _
  refine aBinV (.bool false) rfl rfl rfl ?_
  refine aN rfl rfl (by constructor) ?_
  refine sE ?_
  show AW _ (.cond _ _ _) _ _ _
  refine cF' rfl ?_
  show AWl _ _ _ _ _
  refine aBinV (.bool true) rfl rfl rfl ?_
  refine aN rfl rfl (by constructor) ?_
  refine sE ?_
  show AW _ (.cond _ _ _) _ _ _
  refine cT rfl ?_
  show AWl _ _ _ _ _
  refine aN rfl rfl (by constructor) ?_
  refine aMovV x rfl ?_
  refine aC (number_call (by rw [hlen]; exact (st.slcX hx ha)) hb (by omega) (by decide)) fun v156 H1 ⟨hv, st1⟩ => ?_
  subst hv
  replace st := st.call st1 rfl
  clear st1
  refine aN rfl rfl (by constructor) ?_
  refine aN rfl rfl (by constructor) ?_
  refine aN rfl rfl (by constructor) ?_
  refine aSt st 0 rfl rfl rfl rfl (by first | rfl | simp [cellsOf, *]) (by first | decide | simp [*]) (by repeat constructor) fun H2 st => ?_
  refine sE ?_
  show AWl _ _ _ _ _
  refine aN rfl rfl (by constructor) ?_
  refine aN rfl rfl (by constructor) ?_
  refine sE ?_
  refine ⟨_, out2 (r_tmp rfl (by constructor)) (r_tmp rfl (by constructor)) ⟨rfl, rfl⟩, ?_⟩
  have st2 := st.pick 0 rfl
  try simp only [b_and1 q1, b_and8 q1, b_and2 q1, b_and16 q1, b_shr5 q1, b_shr6 q2, b_and63 q2, b_and15 q2, q4, q13] at st2
  have hF : fillF 13 10 xs = (-1, 0) := rfl
  exact ⟨by rw [hF], st2⟩
theorem fill14_16 {H : Hp} {b : Nat} {xs : List Int} {x : Value} {sv : Int} (hk : H.m b = some ⟨true, 27, [.int .u8 14, .bool false, .int .u64 0, .int .u64 0, .int .i64 0, .bool false, .int .u8 0, .bool false, .bool false, .int .u8 0, .int .u8 0, .bool false, .int .u8 0, .int .u8 0, .bool false]⟩) (hx : Sl H 1 16 (xs.map (Value.int .u8)) x) (hb : ByteL xs) (hlen : xs.length = 16) (ha : Apart b x) (hw5 : True) :
    ACalls Try.prog 19 [.pointer (some ⟨b, 0, none⟩), x, .int .u8 sv] H (fun v H' => v = .tuple #[.int .i64 (fillF 14 16 xs).1, .int .i64 (fillF 14 16 xs).2] ∧ Stt [b] H H' [⟨some b, true, ⟨true, 27, (fillC 14 16 xs sv).cells⟩⟩]) := by
  refine acallsW Try.func19 f19_ok (Nat.le_of_ble_eq_true rfl) fun hw => ?_
  have st : Stt [b] H H [] := Stt.start hw
  replace st := st.mine hk rfl (by simp) (by simp)
  have q1 := hb.getD ((1 : Int)).toNat
  have q2 := hb.getD ((2 : Int)).toNat
  have q4 : IntKind.i64.wrap (xs.getD ((4 : Int)).toNat 0) = xs.getD 4 0 := wi _ (by have := hb.getD ((4 : Int)).toNat; omega)
  have q13 : IntKind.u64.wrap (xs.getD ((13 : Int)).toNat 0) = xs.getD 13 0 := by have := hb.getD ((13 : Int)).toNat; rw [w64]; show (xs.getD ((13 : Int)).toNat 0) % _ = xs.getD ((13 : Int)).toNat 0; omega
  unfold f19c
  show AWl _ _ _ _ _
  refine aN rfl rfl (by constructor) ?_
  refine aN rfl rfl (by constructor) ?_
  refine sE ?_
  show AWl _ _ _ _ _
  refine aMovV x rfl ?_
  refine aLen (st.slcX hx ha) rfl ?_
  refine aN rfl rfl (by constructor) ?_
  refine sE ?_
  show AWl _ _ _ _ _
  refine aN rfl rfl (by constructor) ?_
  refine aN rfl rfl (by constructor) ?_
  refine aN rfl rfl (by constructor) ?_
  refine aLd st 0 rfl rfl rfl (by constructor) ?_
  refine sE ?_
  show AWl _ _ _ _ _
  refine aBinV (.bool false) rfl rfl rfl ?_
  refine aN rfl rfl (by constructor) ?_
  refine sE ?_
  show AW _ (.cond _ _ _) _ _ _
  refine cF' rfl ?_
  show AWl _ _ _ _ _
  refine aBinV (.bool false) rfl rfl rfl ?_
  refine aN rfl rfl (by constructor) ?_
  refine sE ?_
  show AW _ (.cond _ _ _) _ _ _
  refine cF' rfl ?_
  show AWl _ _ _ _ _
  refine aBinV (.bool false) rfl rfl rfl ?_
  refine aN rfl rfl (by constructor) ?_
  refine sE ?_
  show AW _ (.cond _ _ _) _ _ _
  refine cF' rfl ?_
  show AWl _ _ _ _ _
  refine aBinV (.bool false) rfl rfl rfl ?_
  refine aN rfl rfl (by constructor) ?_
  refine sE ?_
  show AW _ (.cond _ _ _) _ _ _
  refine cF' rfl ?_
  show AWl _ _ _ _ _
  refine aBinV (.bool false) rfl rfl rfl ?_
  refine aN rfl rfl (by constructor) ?_
  refine sE ?_
  show AW _ (.cond _ _ _) _ _ _
  refine cF' rfl ?_
  show AWl _ _ _ _ _
  refine aBinV (.bool false) rfl rfl rfl ?_
  refine aN rfl rfl (by constructor) ?_
  refine sE ?_
  show AW _ (.cond _ _ _) _ _ _
  refine cF' rfl ?_
  show AWl _ _ _ _ _
  refine aBinV (.bool false) rfl rfl rfl ?_
  refine aN rfl rfl (by constructor) ?_
  refine sE ?_
  show AW _ (.cond _ _ _) _ _ _
  refine cF' rfl ?_
  show AWl _ _ _ _ _
  refine aBinV (.bool false) rfl rfl rfl ?_
  refine aN rfl rfl (by constructor) ?_
  refine sE ?_
  show AW _ (.cond _ _ _) _ _ _
  refine cF' rfl ?_
  show AWl _ _ _ _ _
  refine aBinV (.bool false) rfl rfl rfl ?_
  refine aN rfl rfl (by constructor) ?_
  refine sE ?_
  show AW _ (.cond _ _ _) _ _ _
  refine cF' rfl ?_
  show AWl _ _ _ _ _
  refine aBinV (.bool false) rfl rfl rfl ?_
  refine aN rfl rfl (by constructor) ?_
  refine sE ?_
  show AW _ (.cond _ _ _) _ _ _
  refine cF' rfl ?_
  show AWl _ _ _ _ _
  refine aBinV (.bool false) rfl rfl rfl ?_
  refine aN rfl rfl (by constructor) ?_
  refine sE ?_
  show AW _ (.cond _ _ _) _ _ _
  refine cF' rfl ?_
  show AWl _ _ _ _ _
  refine aBinV (.bool false) rfl rfl rfl ?_
  refine aN rfl rfl (by constructor) ?_
  refine sE ?_
  show AW _ (.cond _ _ _) _ _ _
  refine cF' rfl ?_
  show AWl _ _ _ _ _
  refine aBinV (.bool true) rfl rfl rfl ?_
  refine aN rfl rfl (by constructor) ?_
  refine sE ?_
  show AW _ (.cond _ _ _) _ _ _
  refine cT rfl ?_
  show AWp _ _ _ _ _
  refine aN rfl rfl (by constructor) ?_
  refine aN rfl rfl (by constructor) ?_
  refine aMovV x rfl ?_
  refine aMovV x rfl ?_
  refine aIxBK (st.slcX hx ha) rfl rfl (by first | decide | omega) fun b167 o167 g167 => ?_
  refine aLdG rfl (g167 _ (st.slcX hx ha)) ?_
  refine aN rfl rfl (by constructor) ?_
  refine ⟨?_, trivial⟩
  refine aC (number_call (by rw [hlen]; exact (st.slcX hx ha)) hb (by omega) (by decide)) fun v165 H1 ⟨hv, st1⟩ => ?_
  subst hv
  replace st := st.call st1 rfl
  clear st1
  refine ⟨⟨(h_LdG rfl (g167 _ (st.slcX hx ha))), trivial⟩, ?_⟩
  refine aN rfl rfl (by constructor) ?_
  refine aN rfl rfl (by constructor) ?_
  refine ⟨?_, trivial⟩
  refine aSt st 0 rfl rfl rfl rfl (by first | rfl | simp [cellsOf, *]) (by first | decide | simp [*]) (by repeat constructor) fun H2 st => ?_
  refine ⟨trivial, ?_⟩
  refine aN rfl rfl (by constructor) ?_
  refine aN rfl rfl (by constructor) ?_
  refine ⟨?_, trivial⟩
  refine aSt st 0 rfl rfl rfl rfl (by first | rfl | simp [cellsOf, *]) (by first | decide | simp [*]) (by repeat constructor) fun H3 st => ?_
  refine ⟨trivial, ?_⟩
  refine pE ?_
  show AWp _ _ _ _ _
  refine aN rfl rfl (by constructor) ?_
  refine aN rfl rfl (by constructor) ?_
  refine aMovV x rfl ?_
  refine aIxBK (st.slcX hx ha) rfl rfl (by first | decide | omega) fun b177 o177 g177 => ?_
  refine aLdG rfl (g177 _ (st.slcX hx ha)) ?_
  refine aN rfl rfl (by constructor) ?_
  refine aMovV x rfl ?_
  refine aIxBK (st.slcX hx ha) rfl rfl (by first | decide | omega) fun b181 o181 g181 => ?_
  refine aLdG rfl (g181 _ (st.slcX hx ha)) ?_
  refine aN rfl rfl (by constructor) ?_
  refine aN rfl rfl (by constructor) ?_
  refine aN rfl rfl (by constructor) ?_
  refine aN rfl rfl (by constructor) ?_
  refine ⟨?_, trivial⟩
  refine aSt st 0 rfl rfl rfl rfl (by first | rfl | simp [cellsOf, *]) (by first | decide | simp [*]) (by repeat constructor) fun H4 st => ?_
  refine ⟨trivial, ?_⟩
  refine aN rfl rfl (by constructor) ?_
  refine aN rfl rfl (by constructor) ?_
  refine ⟨?_, trivial⟩
  refine aSt st 0 rfl rfl rfl rfl (by first | rfl | simp [cellsOf, *]) (by first | decide | simp [*]) (by repeat constructor) fun H5 st => ?_
  refine ⟨trivial, ?_⟩
  refine pE ?_
  show AWl _ _ _ _ _
  refine aN rfl rfl (by constructor) ?_
  refine aN rfl rfl (by constructor) ?_
  refine sE ?_
  refine ⟨_, out2 (r_tmp rfl (by constructor)) (r_tmp rfl (by constructor)) ⟨rfl, rfl⟩, ?_⟩
  have st2 := st.pick 0 rfl
  try simp only [b_and1 q1, b_and8 q1, b_and2 q1, b_and16 q1, b_shr5 q1, b_shr6 q2, b_and63 q2, b_and15 q2, q4, q13] at st2
  have hF : fillF 14 16 xs = (-1, 0) := rfl
  exact ⟨by rw [hF], st2⟩
theorem fill15_10 {H : Hp} {b : Nat} {xs : List Int} {x : Value} {sv : Int} (hk : H.m b = some ⟨true, 27, [.int .u8 15, .bool false, .int .u64 0, .int .u64 0, .int .i64 0, .bool false, .int .u8 0, .bool false, .bool false, .int .u8 0, .int .u8 0, .bool false, .int .u8 0, .int .u8 0, .bool false]⟩) (hx : Sl H 1 10 (xs.map (Value.int .u8)) x) (hb : ByteL xs) (hlen : xs.length = 10) (ha : Apart b x) (hw5 : True) :
    ACalls Try.prog 19 [.pointer (some ⟨b, 0, none⟩), x, .int .u8 sv] H (fun v H' => v = .tuple #[.int .i64 (fillF 15 10 xs).1, .int .i64 (fillF 15 10 xs).2] ∧ Stt [b] H H' [⟨some b, true, ⟨true, 27, (fillC 15 10 xs sv).cells⟩⟩]) := by
  refine acallsW Try.func19 f19_ok (Nat.le_of_ble_eq_true rfl) fun hw => ?_
  have st : Stt [b] H H [] := Stt.start hw
  replace st := st.mine hk rfl (by simp) (by simp)
  have q1 := hb.getD ((1 : Int)).toNat
  have q2 := hb.getD ((2 : Int)).toNat
  have q4 : IntKind.i64.wrap (xs.getD ((4 : Int)).toNat 0) = xs.getD 4 0 := wi _ (by have := hb.getD ((4 : Int)).toNat; omega)
  have q13 : IntKind.u64.wrap (xs.getD ((13 : Int)).toNat 0) = xs.getD 13 0 := by have := hb.getD ((13 : Int)).toNat; rw [w64]; show (xs.getD ((13 : Int)).toNat 0) % _ = xs.getD ((13 : Int)).toNat 0; omega
  unfold f19c
  show AWl _ _ _ _ _
  refine aN rfl rfl (by constructor) ?_
  refine aN rfl rfl (by constructor) ?_
  refine sE ?_
  show AWl _ _ _ _ _
  refine aMovV x rfl ?_
  refine aLen (st.slcX hx ha) rfl ?_
  refine aN rfl rfl (by constructor) ?_
  refine sE ?_
  show AWl _ _ _ _ _
  refine aN rfl rfl (by constructor) ?_
  refine aN rfl rfl (by constructor) ?_
  refine aN rfl rfl (by constructor) ?_
  refine aLd st 0 rfl rfl rfl (by constructor) ?_
  refine sE ?_
  show AWl _ _ _ _ _
  refine aBinV (.bool false) rfl rfl rfl ?_
  refine aN rfl rfl (by constructor) ?_
  refine sE ?_
  show AW _ (.cond _ _ _) _ _ _
  refine cF' rfl ?_
  show AWl _ _ _ _ _
  refine aBinV (.bool false) rfl rfl rfl ?_
  refine aN rfl rfl (by constructor) ?_
  refine sE ?_
  show AW _ (.cond _ _ _) _ _ _
  refine cF' rfl ?_
  show AWl _ _ _ _ _
  refine aBinV (.bool false) rfl rfl rfl ?_
  refine aN rfl rfl (by constructor) ?_
  refine sE ?_
  show AW _ (.cond _ _ _) _ _ _
  refine cF' rfl ?_
  show AWl _ _ _ _ _
  refine aBinV (.bool false) rfl rfl rfl ?_
  refine aN rfl rfl (by constructor) ?_
  refine sE ?_
  show AW _ (.cond _ _ _) _ _ _
  refine cF' rfl ?_
  show AWl _ _ _ _ _
  refine aBinV (.bool false) rfl rfl rfl ?_
  refine aN rfl rfl (by constructor) ?_
  refine sE ?_
  show AW _ (.cond _ _ _) _ _ _
  refine cF' rfl ?_
  show AWl _ _ _ _ _
  refine aBinV (.bool false) rfl rfl rfl ?_
  refine aN rfl rfl (by constructor) ?_
  refine sE ?_
  show AW _ (.cond _ _ _) _ _ _
  refine cF' rfl ?_
  show AWl _ _ _ _ _
  refine aBinV (.bool false) rfl rfl rfl ?_
  refine aN rfl rfl (by constructor) ?_
  refine sE ?_
  show AW _ (.cond _ _ _) _ _ _
  refine cF' rfl ?_
  show AWl _ _ _ _ _
  refine aBinV (.bool false) rfl rfl rfl ?_
  refine aN rfl rfl (by constructor) ?_
  refine sE ?_
  show AW _ (.cond _ _ _) _ _ _
  refine cF' rfl ?_
  show AWl _ _ _ _ _
  refine aBinV (.bool false) rfl rfl rfl ?_
  refine aN rfl rfl (by constructor) ?_
  refine sE ?_
  show AW _ (.cond _ _ _) _ _ _
  refine cF' rfl ?_
  show AWl _ _ _ _ _
  refine aBinV (.bool false) rfl rfl rfl ?_
  refine aN rfl rfl (by constructor) ?_
  refine sE ?_
  show AW _ (.cond _ _ _) _ _ _
  refine cF' rfl ?_
  show AWl _ _ _ _ _
  refine aBinV (.bool false) rfl rfl rfl ?_
  refine aN rfl rfl (by constructor) ?_
  refine sE ?_
  show AW _ (.cond _ _ _) _ _ _
  refine cF' rfl ?_
  show AWl _ _ _ _ _
  refine aBinV (.bool false) rfl rfl rfl ?_
  refine aN rfl rfl (by constructor) ?_
  refine sE ?_
  show AW _ (.cond _ _ _) _ _ _
  refine cF' rfl ?_
  show AWl _ _ _ _ _
  refine aBinV (.bool false) rfl rfl rfl ?_
  refine aN rfl rfl (by constructor) ?_
  refine sE ?_
  show AW _ (.cond _ _ _) _ _ _
  refine cF' rfl ?_
  show AWl _ _ _ _ _
  refine aBinV (.bool true) rfl rfl rfl ?_
  refine aN rfl rfl (by constructor) ?_
  refine sE ?_
  show AW _ (.cond _ _ _) _ _ _
  refine cT rfl ?_
  show AWl _ _ _ _ _
  refine aN rfl rfl (by constructor) ?_
  refine aN rfl rfl (by constructor) ?_
  refine aN rfl rfl (by constructor) ?_
  refine aMovV x rfl ?_
  refine aC (number_call (by rw [hlen]; exact (st.slcX hx ha)) hb (by omega) (by decide)) fun v195 H1 ⟨hv, st1⟩ => ?_
  subst hv
  replace st := st.call st1 rfl
  clear st1
  refine aN rfl rfl (by constructor) ?_
  refine aN rfl rfl (by constructor) ?_
  refine aN rfl rfl (by constructor) ?_
  refine aSt st 0 rfl rfl rfl rfl (by first | rfl | simp [cellsOf, *]) (by first | decide | simp [*]) (by repeat constructor) fun H2 st => ?_
  refine aN rfl rfl (by constructor) ?_
  refine aN rfl rfl (by constructor) ?_
  refine aSt st 0 rfl rfl rfl rfl (by first | rfl | simp [cellsOf, *]) (by first | decide | simp [*]) (by repeat constructor) fun H3 st => ?_
  refine sE ?_
  show AWl _ _ _ _ _
  refine aN rfl rfl (by constructor) ?_
  refine aN rfl rfl (by constructor) ?_
  refine sE ?_
  refine ⟨_, out2 (r_tmp rfl (by constructor)) (r_tmp rfl (by constructor)) ⟨rfl, rfl⟩, ?_⟩
  have st2 := st.pick 0 rfl
  try simp only [b_and1 q1, b_and8 q1, b_and2 q1, b_and16 q1, b_shr5 q1, b_shr6 q2, b_and63 q2, b_and15 q2, q4, q13] at st2
  have hF : fillF 15 10 xs = (-1, 0) := rfl
  exact ⟨by rw [hF], st2⟩
theorem fill16_10 {H : Hp} {b : Nat} {xs : List Int} {x : Value} {sv : Int} (hk : H.m b = some ⟨true, 27, [.int .u8 16, .bool false, .int .u64 0, .int .u64 0, .int .i64 0, .bool false, .int .u8 0, .bool false, .bool false, .int .u8 0, .int .u8 0, .bool false, .int .u8 0, .int .u8 0, .bool false]⟩) (hx : Sl H 1 10 (xs.map (Value.int .u8)) x) (hb : ByteL xs) (hlen : xs.length = 10) (ha : Apart b x) (hw5 : True) :
    ACalls Try.prog 19 [.pointer (some ⟨b, 0, none⟩), x, .int .u8 sv] H (fun v H' => v = .tuple #[.int .i64 (fillF 16 10 xs).1, .int .i64 (fillF 16 10 xs).2] ∧ Stt [b] H H' [⟨some b, true, ⟨true, 27, (fillC 16 10 xs sv).cells⟩⟩]) := by
  refine acallsW Try.func19 f19_ok (Nat.le_of_ble_eq_true rfl) fun hw => ?_
  have st : Stt [b] H H [] := Stt.start hw
  replace st := st.mine hk rfl (by simp) (by simp)
  have q1 := hb.getD ((1 : Int)).toNat
  have q2 := hb.getD ((2 : Int)).toNat
  have q4 : IntKind.i64.wrap (xs.getD ((4 : Int)).toNat 0) = xs.getD 4 0 := wi _ (by have := hb.getD ((4 : Int)).toNat; omega)
  have q13 : IntKind.u64.wrap (xs.getD ((13 : Int)).toNat 0) = xs.getD 13 0 := by have := hb.getD ((13 : Int)).toNat; rw [w64]; show (xs.getD ((13 : Int)).toNat 0) % _ = xs.getD ((13 : Int)).toNat 0; omega
  unfold f19c
  show AWl _ _ _ _ _
  refine aN rfl rfl (by constructor) ?_
  refine aN rfl rfl (by constructor) ?_
  refine sE ?_
  show AWl _ _ _ _ _
  refine aMovV x rfl ?_
  refine aLen (st.slcX hx ha) rfl ?_
  refine aN rfl rfl (by constructor) ?_
  refine sE ?_
  show AWl _ _ _ _ _
  refine aN rfl rfl (by constructor) ?_
  refine aN rfl rfl (by constructor) ?_
  refine aN rfl rfl (by constructor) ?_
  refine aLd st 0 rfl rfl rfl (by constructor) ?_
  refine sE ?_
  show AWl _ _ _ _ _
  refine aBinV (.bool false) rfl rfl rfl ?_
  refine aN rfl rfl (by constructor) ?_
  refine sE ?_
  show AW _ (.cond _ _ _) _ _ _
  refine cF' rfl ?_
  show AWl _ _ _ _ _
  refine aBinV (.bool false) rfl rfl rfl ?_
  refine aN rfl rfl (by constructor) ?_
  refine sE ?_
  show AW _ (.cond _ _ _) _ _ _
  refine cF' rfl ?_
  show AWl _ _ _ _ _
  refine aBinV (.bool false) rfl rfl rfl ?_
  refine aN rfl rfl (by constructor) ?_
  refine sE ?_
  show AW _ (.cond _ _ _) _ _ _
  refine cF' rfl ?_
  show AWl _ _ _ _ _
  refine aBinV (.bool false) rfl rfl rfl ?_
  refine aN rfl rfl (by constructor) ?_
  refine sE ?_
  show AW _ (.cond _ _ _) _ _ _
  refine cF' rfl ?_
  show AWl _ _ _ _ _
  refine aBinV (.bool false) rfl rfl rfl ?_
  refine aN rfl rfl (by constructor) ?_
  refine sE ?_
  show AW _ (.cond _ _ _) _ _ _
  refine cF' rfl ?_
  show AWl _ _ _ _ _
  refine aBinV (.bool false) rfl rfl rfl ?_
  refine aN rfl rfl (by constructor) ?_
  refine sE ?_
  show AW _ (.cond _ _ _) _ _ _
  refine cF' rfl ?_
  show AWl _ _ _ _ _
  refine aBinV (.bool false) rfl rfl rfl ?_
  refine aN rfl rfl (by constructor) ?_
  refine sE ?_
  show AW _ (.cond _ _ _) _ _ _
  refine cF' rfl ?_
  show AWl _ _ _ _ _
  refine aBinV (.bool false) rfl rfl rfl ?_
  refine aN rfl rfl (by constructor) ?_
  refine sE ?_
  show AW _ (.cond _ _ _) _ _ _
  refine cF' rfl ?_
  show AWl _ _ _ _ _
  refine aBinV (.bool false) rfl rfl rfl ?_
  refine aN rfl rfl (by constructor) ?_
  refine sE ?_
  show AW _ (.cond _ _ _) _ _ _
  refine cF' rfl ?_
  show AWl _ _ _ _ _
  refine aBinV (.bool false) rfl rfl rfl ?_
  refine aN rfl rfl (by constructor) ?_
  refine sE ?_
  show AW _ (.cond _ _ _) _ _ _
  refine cF' rfl ?_
  show AWl _ _ _ _ _
  refine aBinV (.bool false) rfl rfl rfl ?_
  refine aN rfl rfl (by constructor) ?_
  refine sE ?_
  show AW _ (.cond _ _ _) _ _ _
  refine cF' rfl ?_
  show AWl _ _ _ _ _
  refine aBinV (.bool false) rfl rfl rfl ?_
  refine aN rfl rfl (by constructor) ?_
  refine sE ?_
  show AW _ (.cond _ _ _) _ _ _
  refine cF' rfl ?_
  show AWl _ _ _ _ _
  refine aBinV (.bool false) rfl rfl rfl ?_
  refine aN rfl rfl (by constructor) ?_
  refine sE ?_
  show AW _ (.cond _ _ _) _ _ _
  refine cF' rfl ?_
  show AWl _ _ _ _ _
  refine aBinV (.bool false) rfl rfl rfl ?_
  refine aN rfl rfl (by constructor) ?_
  refine sE ?_
  show AW _ (.cond _ _ _) _ _ _
  refine cF' rfl ?_
  show AWl _ _ _ _ _
  refine aBinV (.bool true) rfl rfl rfl ?_
  refine aN rfl rfl (by constructor) ?_
  refine sE ?_
  show AW _ (.cond _ _ _) _ _ _
  refine cT rfl ?_
  show AWp _ _ _ _ _
  refine aN rfl rfl (by constructor) ?_
  refine aN rfl rfl (by constructor) ?_
  refine aN rfl rfl (by constructor) ?_
  refine aN rfl rfl (by constructor) ?_
  refine aMovV x rfl ?_
  refine aIxBK (st.slcX hx ha) rfl rfl (by first | decide | omega) fun b208 o208 g208 => ?_
  refine aLdG rfl (g208 _ (st.slcX hx ha)) ?_
  refine aN rfl rfl (by constructor) ?_
  refine aMovV x rfl ?_
  refine ⟨?_, trivial⟩
  refine aC (number_call (by rw [hlen]; exact (st.slcX hx ha)) hb (by omega) (by decide)) fun v212 H1 ⟨hv, st1⟩ => ?_
  subst hv
  replace st := st.call st1 rfl
  clear st1
  refine ⟨⟨(h_LdG rfl (g208 _ (st.slcX hx ha))), trivial⟩, ?_⟩
  refine aN rfl rfl (by constructor) ?_
  refine aN rfl rfl (by constructor) ?_
  refine aN rfl rfl (by constructor) ?_
  refine ⟨?_, trivial⟩
  refine aSt st 0 rfl rfl rfl rfl (by first | rfl | simp [cellsOf, *]) (by first | decide | simp [*]) (by repeat constructor) fun H2 st => ?_
  refine ⟨trivial, ?_⟩
  refine aN rfl rfl (by constructor) ?_
  refine aN rfl rfl (by constructor) ?_
  refine ⟨?_, trivial⟩
  refine aSt st 0 rfl rfl rfl rfl (by first | rfl | simp [cellsOf, *]) (by first | decide | simp [*]) (by repeat constructor) fun H3 st => ?_
  refine ⟨trivial, ?_⟩
  refine aN rfl rfl (by constructor) ?_
  refine aN rfl rfl (by constructor) ?_
  refine ⟨?_, trivial⟩
  refine aSt st 0 rfl rfl rfl rfl (by first | rfl | simp [cellsOf, *]) (by first | decide | simp [*]) (by repeat constructor) fun H4 st => ?_
  refine ⟨trivial, ?_⟩
  refine pE ?_
  show AWl _ _ _ _ _
  refine aN rfl rfl (by constructor) ?_
  refine aN rfl rfl (by constructor) ?_
  refine sE ?_
  refine ⟨_, out2 (r_tmp rfl (by constructor)) (r_tmp rfl (by constructor)) ⟨rfl, rfl⟩, ?_⟩
  have st2 := st.pick 0 rfl
  try simp only [b_and1 q1, b_and8 q1, b_and2 q1, b_and16 q1, b_shr5 q1, b_shr6 q2, b_and63 q2, b_and15 q2, q4, q13] at st2
  have hF : fillF 16 10 xs = (-1, 0) := rfl
  exact ⟨by rw [hF], st2⟩
theorem fill17_12 {H : Hp} {b : Nat} {xs : List Int} {x : Value} {sv : Int} (hk : H.m b = some ⟨true, 27, [.int .u8 17, .bool false, .int .u64 0, .int .u64 0, .int .i64 0, .bool false, .int .u8 0, .bool false, .bool false, .int .u8 0, .int .u8 0, .bool false, .int .u8 0, .int .u8 0, .bool false]⟩) (hx : Sl H 1 12 (xs.map (Value.int .u8)) x) (hb : ByteL xs) (hlen : xs.length = 12) (ha : Apart b x) (hw5 : True) :
    ACalls Try.prog 19 [.pointer (some ⟨b, 0, none⟩), x, .int .u8 sv] H (fun v H' => v = .tuple #[.int .i64 (fillF 17 12 xs).1, .int .i64 (fillF 17 12 xs).2] ∧ Stt [b] H H' [⟨some b, true, ⟨true, 27, (fillC 17 12 xs sv).cells⟩⟩]) := by
  refine acallsW Try.func19 f19_ok (Nat.le_of_ble_eq_true rfl) fun hw => ?_
  have st : Stt [b] H H [] := Stt.start hw
  replace st := st.mine hk rfl (by simp) (by simp)
  have q1 := hb.getD ((1 : Int)).toNat
  have q2 := hb.getD ((2 : Int)).toNat
  have q4 : IntKind.i64.wrap (xs.getD ((4 : Int)).toNat 0) = xs.getD 4 0 := wi _ (by have := hb.getD ((4 : Int)).toNat; omega)
  have q13 : IntKind.u64.wrap (xs.getD ((13 : Int)).toNat 0) = xs.getD 13 0 := by have := hb.getD ((13 : Int)).toNat; rw [w64]; show (xs.getD ((13 : Int)).toNat 0) % _ = xs.getD ((13 : Int)).toNat 0; omega
  unfold f19c
  show AWl _ _ _ _ _
  refine aN rfl rfl (by constructor) ?_
  refine aN rfl rfl (by constructor) ?_
  refine sE ?_
  show AWl _ _ _ _ _
  refine aMovV x rfl ?_
  refine aLen (st.slcX hx ha) rfl ?_
  refine aN rfl rfl (by constructor) ?_
  refine sE ?_
  show AWl _ _ _ _ _
  refine aN rfl rfl (by constructor) ?_
  refine aN rfl rfl (by constructor) ?_
  refine aN rfl rfl (by constructor) ?_
  refine aLd st 0 rfl rfl rfl (by constructor) ?_
  refine sE ?_
  show AWl _ _ _ _ _
  refine aBinV (.bool false) rfl rfl rfl ?_
  refine aN rfl rfl (by constructor) ?_
  refine sE ?_
  show AW _ (.cond _ _ _) _ _ _
  refine cF' rfl ?_
  show AWl _ _ _ _ _
  refine aBinV (.bool false) rfl rfl rfl ?_
  refine aN rfl rfl (by constructor) ?_
  refine sE ?_
  show AW _ (.cond _ _ _) _ _ _
  refine cF' rfl ?_
  show AWl _ _ _ _ _
  refine aBinV (.bool false) rfl rfl rfl ?_
  refine aN rfl rfl (by constructor) ?_
  refine sE ?_
  show AW _ (.cond _ _ _) _ _ _
  refine cF' rfl ?_
  show AWl _ _ _ _ _
  refine aBinV (.bool false) rfl rfl rfl ?_
  refine aN rfl rfl (by constructor) ?_
  refine sE ?_
  show AW _ (.cond _ _ _) _ _ _
  refine cF' rfl ?_
  show AWl _ _ _ _ _
  refine aBinV (.bool false) rfl rfl rfl ?_
  refine aN rfl rfl (by constructor) ?_
  refine sE ?_
  show AW _ (.cond _ _ _) _ _ _
  refine cF' rfl ?_
  show AWl _ _ _ _ _
  refine aBinV (.bool false) rfl rfl rfl ?_
  refine aN rfl rfl (by constructor) ?_
  refine sE ?_
  show AW _ (.cond _ _ _) _ _ _
  refine cF' rfl ?_
  show AWl _ _ _ _ _
  refine aBinV (.bool false) rfl rfl rfl ?_
  refine aN rfl rfl (by constructor) ?_
  refine sE ?_
  show AW _ (.cond _ _ _) _ _ _
  refine cF' rfl ?_
  show AWl _ _ _ _ _
  refine aBinV (.bool false) rfl rfl rfl ?_
  refine aN rfl rfl (by constructor) ?_
  refine sE ?_
  show AW _ (.cond _ _ _) _ _ _
  refine cF' rfl ?_
  show AWl _ _ _ _ _
  refine aBinV (.bool false) rfl rfl rfl ?_
  refine aN rfl rfl (by constructor) ?_
  refine sE ?_
  show AW _ (.cond _ _ _) _ _ _
  refine cF' rfl ?_
  show AWl _ _ _ _ _
  refine aBinV (.bool false) rfl rfl rfl ?_
  refine aN rfl rfl (by constructor) ?_
  refine sE ?_
  show AW _ (.cond _ _ _) _ _ _
  refine cF' rfl ?_
  show AWl _ _ _ _ _
  refine aBinV (.bool false) rfl rfl rfl ?_
  refine aN rfl rfl (by constructor) ?_
  refine sE ?_
  show AW _ (.cond _ _ _) _ _ _
  refine cF' rfl ?_
  show AWl _ _ _ _ _
  refine aBinV (.bool false) rfl rfl rfl ?_
  refine aN rfl rfl (by constructor) ?_
  refine sE ?_
  show AW _ (.cond _ _ _) _ _ _
  refine cF' rfl ?_
  show AWl _ _ _ _ _
  refine aBinV (.bool false) rfl rfl rfl ?_
  refine aN rfl rfl (by constructor) ?_
  refine sE ?_
  show AW _ (.cond _ _ _) _ _ _
  refine cF' rfl ?_
  show AWl _ _ _ _ _
  refine aBinV (.bool false) rfl rfl rfl ?_
  refine aN rfl rfl (by constructor) ?_
  refine sE ?_
  show AW _ (.cond _ _ _) _ _ _
  refine cF' rfl ?_
  show AWl _ _ _ _ _
  refine aBinV (.bool false) rfl rfl rfl ?_
  refine aN rfl rfl (by constructor) ?_
  refine sE ?_
  show AW _ (.cond _ _ _) _ _ _
  refine cF' rfl ?_
  show AWl _ _ _ _ _
  refine aBinV (.bool true) rfl rfl rfl ?_
  refine aN rfl rfl (by constructor) ?_
  refine sE ?_
  show AW _ (.cond _ _ _) _ _ _
  refine cT rfl ?_
  show AWp _ _ _ _ _
  refine aN rfl rfl (by constructor) ?_
  refine aN rfl rfl (by constructor) ?_
  refine aMovV x rfl ?_
  refine aIxBK (st.slcX hx ha) rfl rfl (by first | decide | omega) fun b225 o225 g225 => ?_
  refine aLdG rfl (g225 _ (st.slcX hx ha)) ?_
  refine aMovV x rfl ?_
  refine ⟨?_, trivial⟩
  refine aC (number_call (by rw [hlen]; exact (st.slcX hx ha)) hb (by omega) (by decide)) fun v228 H1 ⟨hv, st1⟩ => ?_
  subst hv
  replace st := st.call st1 rfl
  clear st1
  refine ⟨⟨(h_LdG rfl (g225 _ (st.slcX hx ha))), trivial⟩, ?_⟩
  refine aN rfl rfl (by constructor) ?_
  refine aN rfl rfl (by constructor) ?_
  refine aN rfl rfl (by constructor) ?_
  refine ⟨?_, trivial⟩
  refine aSt st 0 rfl rfl rfl rfl (by first | rfl | simp [cellsOf, *]) (by first | decide | simp [*]) (by repeat constructor) fun H2 st => ?_
  refine ⟨trivial, ?_⟩
  refine aN rfl rfl (by constructor) ?_
  refine aN rfl rfl (by constructor) ?_
  refine ⟨?_, trivial⟩
  refine aSt st 0 rfl rfl rfl rfl (by first | rfl | simp [cellsOf, *]) (by first | decide | simp [*]) (by repeat constructor) fun H3 st => ?_
  refine ⟨trivial, ?_⟩
  refine pE ?_
  show AWl _ _ _ _ _
  refine aN rfl rfl (by constructor) ?_
  refine aN rfl rfl (by constructor) ?_
  refine aN rfl rfl (by constructor) ?_
  refine aLd st 0 rfl rfl rfl (by constructor) ?_
  refine aN rfl rfl (by constructor) ?_
  refine sE ?_
  show AW _ (.cond _ _ _) _ _ _
  refine cC' rfl (fun h4 => ?_) (fun h4 => ?_)
  · show AWl _ _ _ _ _
    refine aN rfl rfl (by constructor) ?_
    refine aN rfl rfl (by constructor) ?_
    refine sE ?_
    refine ⟨_, out2 (r_tmp rfl (by constructor)) (r_tmp rfl (by constructor)) ⟨rfl, rfl⟩, ?_⟩
    try simp only [b_and1 q1, b_and8 q1, b_and2 q1, b_and16 q1, b_shr5 q1, b_shr6 q2, b_and63 q2, b_and15 q2, q4, q13] at h4
    have st2 := st.pick 0 rfl
    try simp only [b_and1 q1, b_and8 q1, b_and2 q1, b_and16 q1, b_shr5 q1, b_shr6 q2, b_and63 q2, b_and15 q2, q4, q13] at st2
    have hF : fillF 17 12 xs = (2, 1) := by show (if xs.getD 2 0 = 3 then ((2 : Int), (1 : Int)) else (-1, 0)) = _; rw [if_pos (by simpa using h4)]
    exact ⟨by rw [hF], st2⟩
  · show AWl _ _ _ _ _
    refine aN rfl rfl (by constructor) ?_
    refine aN rfl rfl (by constructor) ?_
    refine sE ?_
    refine ⟨_, out2 (r_tmp rfl (by constructor)) (r_tmp rfl (by constructor)) ⟨rfl, rfl⟩, ?_⟩
    try simp only [b_and1 q1, b_and8 q1, b_and2 q1, b_and16 q1, b_shr5 q1, b_shr6 q2, b_and63 q2, b_and15 q2, q4, q13] at h4
    have st2 := st.pick 0 rfl
    try simp only [b_and1 q1, b_and8 q1, b_and2 q1, b_and16 q1, b_shr5 q1, b_shr6 q2, b_and63 q2, b_and15 q2, q4, q13] at st2
    have hF : fillF 17 12 xs = (-1, 0) := by show (if xs.getD 2 0 = 3 then ((2 : Int), (1 : Int)) else (-1, 0)) = _; rw [if_neg (by simpa using h4)]
    exact ⟨by rw [hF], st2⟩
theorem fill18_16 {H : Hp} {b : Nat} {xs : List Int} {x : Value} {sv : Int} (hk : H.m b = some ⟨true, 27, [.int .u8 18, .bool false, .int .u64 0, .int .u64 0, .int .i64 0, .bool false, .int .u8 0, .bool false, .bool false, .int .u8 0, .int .u8 0, .bool false, .int .u8 0, .int .u8 0, .bool false]⟩) (hx : Sl H 1 16 (xs.map (Value.int .u8)) x) (hb : ByteL xs) (hlen : xs.length = 16) (ha : Apart b x) (hw5 : True) :
    ACalls Try.prog 19 [.pointer (some ⟨b, 0, none⟩), x, .int .u8 sv] H (fun v H' => v = .tuple #[.int .i64 (fillF 18 16 xs).1, .int .i64 (fillF 18 16 xs).2] ∧ Stt [b] H H' [⟨some b, true, ⟨true, 27, (fillC 18 16 xs sv).cells⟩⟩]) := by
  refine acallsW Try.func19 f19_ok (Nat.le_of_ble_eq_true rfl) fun hw => ?_
  have st : Stt [b] H H [] := Stt.start hw
  replace st := st.mine hk rfl (by simp) (by simp)
  have q1 := hb.getD ((1 : Int)).toNat
  have q2 := hb.getD ((2 : Int)).toNat
  have q4 : IntKind.i64.wrap (xs.getD ((4 : Int)).toNat 0) = xs.getD 4 0 := wi _ (by have := hb.getD ((4 : Int)).toNat; omega)
  have q13 : IntKind.u64.wrap (xs.getD ((13 : Int)).toNat 0) = xs.getD 13 0 := by have := hb.getD ((13 : Int)).toNat; rw [w64]; show (xs.getD ((13 : Int)).toNat 0) % _ = xs.getD ((13 : Int)).toNat 0; omega
  unfold f19c
  show AWl _ _ _ _ _
  refine aN rfl rfl (by constructor) ?_
  refine aN rfl rfl (by constructor) ?_
  refine sE ?_
  show AWl _ _ _ _ _
  refine aMovV x rfl ?_
  refine aLen (st.slcX hx ha) rfl ?_
  refine aN rfl rfl (by constructor) ?_
  refine sE ?_
  show AWl _ _ _ _ _
  refine aN rfl rfl (by constructor) ?_
  refine aN rfl rfl (by constructor) ?_
  refine aN rfl rfl (by constructor) ?_
  refine aLd st 0 rfl rfl rfl (by constructor) ?_
  refine sE ?_
  show AWl _ _ _ _ _
  refine aBinV (.bool false) rfl rfl rfl ?_
  refine aN rfl rfl (by constructor) ?_
  refine sE ?_
  show AW _ (.cond _ _ _) _ _ _
  refine cF' rfl ?_
  show AWl _ _ _ _ _
  refine aBinV (.bool false) rfl rfl rfl ?_
  refine aN rfl rfl (by constructor) ?_
  refine sE ?_
  show AW _ (.cond _ _ _) _ _ _
  refine cF' rfl ?_
  show AWl _ _ _ _ _
  refine aBinV (.bool false) rfl rfl rfl ?_
  refine aN rfl rfl (by constructor) ?_
  refine sE ?_
  show AW _ (.cond _ _ _) _ _ _
  refine cF' rfl ?_
  show AWl _ _ _ _ _
  refine aBinV (.bool false) rfl rfl rfl ?_
  refine aN rfl rfl (by constructor) ?_
  refine sE ?_
  show AW _ (.cond _ _ _) _ _ _
  refine cF' rfl ?_
  show AWl _ _ _ _ _
  refine aBinV (.bool false) rfl rfl rfl ?_
  refine aN rfl rfl (by constructor) ?_
  refine sE ?_
  show AW _ (.cond _ _ _) _ _ _
  refine cF' rfl ?_
  show AWl _ _ _ _ _
  refine aBinV (.bool false) rfl rfl rfl ?_
  refine aN rfl rfl (by constructor) ?_
  refine sE ?_
  show AW _ (.cond _ _ _) _ _ _
  refine cF' rfl ?_
  show AWl _ _ _ _ _
  refine aBinV (.bool false) rfl rfl rfl ?_
  refine aN rfl rfl (by constructor) ?_
  refine sE ?_
  show AW _ (.cond _ _ _) _ _ _
  refine cF' rfl ?_
  show AWl _ _ _ _ _
  refine aBinV (.bool false) rfl rfl rfl ?_
  refine aN rfl rfl (by constructor) ?_
  refine sE ?_
  show AW _ (.cond _ _ _) _ _ _
  refine cF' rfl ?_
  show AWl _ _ _ _ _
  refine aBinV (.bool false) rfl rfl rfl ?_
  refine aN rfl rfl (by constructor) ?_
  refine sE ?_
  show AW _ (.cond _ _ _) _ _ _
  refine cF' rfl ?_
  show AWl _ _ _ _ _
  refine aBinV (.bool false) rfl rfl rfl ?_
  refine aN rfl rfl (by constructor) ?_
  refine sE ?_
  show AW _ (.cond _ _ _) _ _ _
  refine cF' rfl ?_
  show AWl _ _ _ _ _
  refine aBinV (.bool false) rfl rfl rfl ?_
  refine aN rfl rfl (by constructor) ?_
  refine sE ?_
  show AW _ (.cond _ _ _) _ _ _
  refine cF' rfl ?_
  show AWl _ _ _ _ _
  refine aBinV (.bool false) rfl rfl rfl ?_
  refine aN rfl rfl (by constructor) ?_
  refine sE ?_
  show AW _ (.cond _ _ _) _ _ _
  refine cF' rfl ?_
  show AWl _ _ _ _ _
  refine aBinV (.bool false) rfl rfl rfl ?_
  refine aN rfl rfl (by constructor) ?_
  refine sE ?_
  show AW _ (.cond _ _ _) _ _ _
  refine cF' rfl ?_
  show AWl _ _ _ _ _
  refine aBinV (.bool false) rfl rfl rfl ?_
  refine aN rfl rfl (by constructor) ?_
  refine sE ?_
  show AW _ (.cond _ _ _) _ _ _
  refine cF' rfl ?_
  show AWl _ _ _ _ _
  refine aBinV (.bool false) rfl rfl rfl ?_
  refine aN rfl rfl (by constructor) ?_
  refine sE ?_
  show AW _ (.cond _ _ _) _ _ _
  refine cF' rfl ?_
  show AWl _ _ _ _ _
  refine aBinV (.bool false) rfl rfl rfl ?_
  refine aN rfl rfl (by constructor) ?_
  refine sE ?_
  show AW _ (.cond _ _ _) _ _ _
  refine cF' rfl ?_
  show AWl _ _ _ _ _
  refine aBinV (.bool true) rfl rfl rfl ?_
  refine aN rfl rfl (by constructor) ?_
  refine sE ?_
  show AW _ (.cond _ _ _) _ _ _
  refine cT rfl ?_
  show AWl _ _ _ _ _
  refine aN rfl rfl (by constructor) ?_
  refine aMovV x rfl ?_
  refine aC (number_call (by rw [hlen]; exact (st.slcX hx ha)) hb (by omega) (by decide)) fun v243 H1 ⟨hv, st1⟩ => ?_
  subst hv
  replace st := st.call st1 rfl
  clear st1
  refine aN rfl rfl (by constructor) ?_
  refine aN rfl rfl (by constructor) ?_
  refine aN rfl rfl (by constructor) ?_
  refine aSt st 0 rfl rfl rfl rfl (by first | rfl | simp [cellsOf, *]) (by first | decide | simp [*]) (by repeat constructor) fun H2 st => ?_
  refine sE ?_
  show AWl _ _ _ _ _
  refine aN rfl rfl (by constructor) ?_
  refine aN rfl rfl (by constructor) ?_
  refine sE ?_
  refine ⟨_, out2 (r_tmp rfl (by constructor)) (r_tmp rfl (by constructor)) ⟨rfl, rfl⟩, ?_⟩
  have st2 := st.pick 0 rfl
  try simp only [b_and1 q1, b_and8 q1, b_and2 q1, b_and16 q1, b_shr5 q1, b_shr6 q2, b_and63 q2, b_and15 q2, q4, q13] at st2
  have hF : fillF 18 16 xs = (-1, 0) := rfl
  exact ⟨by rw [hF], st2⟩
theorem fill7_6 {H : Hp} {b : Nat} {xs : List Int} {x : Value} {sv : Int} (hk : H.m b = some ⟨true, 27, [.int .u8 7, .bool false, .int .u64 0, .int .u64 0, .int .i64 0, .bool false, .int .u8 0, .bool false, .bool false, .int .u8 0, .int .u8 0, .bool false, .int .u8 0, .int .u8 0, .bool false]⟩) (hx : Sl H 1 6 (xs.map (Value.int .u8)) x) (hb : ByteL xs) (hlen : xs.length = 6) (ha : Apart b x) (hw5 : True) :
    ACalls Try.prog 19 [.pointer (some ⟨b, 0, none⟩), x, .int .u8 sv] H (fun v H' => v = .tuple #[.int .i64 (fillF 7 6 xs).1, .int .i64 (fillF 7 6 xs).2] ∧ Stt [b] H H' [⟨some b, true, ⟨true, 27, (fillC 7 6 xs sv).cells⟩⟩]) := by
  refine acallsW Try.func19 f19_ok (Nat.le_of_ble_eq_true rfl) fun hw => ?_
  have st : Stt [b] H H [] := Stt.start hw
  replace st := st.mine hk rfl (by simp) (by simp)
  have q1 := hb.getD ((1 : Int)).toNat
  have q2 := hb.getD ((2 : Int)).toNat
  have q4 : IntKind.i64.wrap (xs.getD ((4 : Int)).toNat 0) = xs.getD 4 0 := wi _ (by have := hb.getD ((4 : Int)).toNat; omega)
  have q13 : IntKind.u64.wrap (xs.getD ((13 : Int)).toNat 0) = xs.getD 13 0 := by have := hb.getD ((13 : Int)).toNat; rw [w64]; show (xs.getD ((13 : Int)).toNat 0) % _ = xs.getD ((13 : Int)).toNat 0; omega
  unfold f19c
  show AWl _ _ _ _ _
  refine aN rfl rfl (by constructor) ?_
  refine aN rfl rfl (by constructor) ?_
  refine sE ?_
  show AWl _ _ _ _ _
  refine aMovV x rfl ?_
  refine aLen (st.slcX hx ha) rfl ?_
  refine aN rfl rfl (by constructor) ?_
  refine sE ?_
  show AWl _ _ _ _ _
  refine aN rfl rfl (by constructor) ?_
  refine aN rfl rfl (by constructor) ?_
  refine aN rfl rfl (by constructor) ?_
  refine aLd st 0 rfl rfl rfl (by constructor) ?_
  refine sE ?_
  show AWl _ _ _ _ _
  refine aBinV (.bool false) rfl rfl rfl ?_
  refine aN rfl rfl (by constructor) ?_
  refine sE ?_
  show AW _ (.cond _ _ _) _ _ _
  refine cF' rfl ?_
  show AWl _ _ _ _ _
  refine aBinV (.bool false) rfl rfl rfl ?_
  refine aN rfl rfl (by constructor) ?_
  refine sE ?_
  show AW _ (.cond _ _ _) _ _ _
  refine cF' rfl ?_
  show AWl _ _ _ _ _
  refine aBinV (.bool false) rfl rfl rfl ?_
  refine aN rfl rfl (by constructor) ?_
  refine sE ?_
  show AW _ (.cond _ _ _) _ _ _
  refine cF' rfl ?_
  show AWl _ _ _ _ _
  refine aBinV (.bool false) rfl rfl rfl ?_
  refine aN rfl rfl (by constructor) ?_
  refine sE ?_
  show AW _ (.cond _ _ _) _ _ _
  refine cF' rfl ?_
  show AWl _ _ _ _ _
  refine aBinV (.bool false) rfl rfl rfl ?_
  refine aN rfl rfl (by constructor) ?_
  refine sE ?_
  show AW _ (.cond _ _ _) _ _ _
  refine cF' rfl ?_
  show AWl _ _ _ _ _
  refine aBinV (.bool true) rfl rfl rfl ?_
  refine aN rfl rfl (by constructor) ?_
  refine sE ?_
  show AW _ (.cond _ _ _) _ _ _
  refine cT rfl ?_
  show AW _ (.cond _ _ _) _ _ _
  refine cT rfl ?_
  show AWl _ _ _ _ _
  refine aN rfl rfl (by constructor) ?_
  refine aMovV x rfl ?_
  refine aC (blocks7_6 (st.get (j := 0) rfl) (st.slcX hx ha) hb hlen ha) fun v149 H1 ⟨hv, st1⟩ => ?_
  subst hv
  replace st := st.callX 0 rfl st1 rfl
  clear st1
  refine aN rfl rfl (by constructor) ?_
  refine aN rfl rfl (by constructor) ?_
  refine aN rfl rfl (by constructor) ?_
  refine aN rfl rfl (by constructor) ?_
  refine sE ?_
  refine ⟨_, out2 (r_tmp rfl (by constructor)) (r_tmp rfl (by constructor)) ⟨rfl, rfl⟩, ?_⟩
  exact ⟨rfl, st.pick 0 rfl⟩
theorem fill7_10 {H : Hp} {b : Nat} {xs : List Int} {x : Value} {sv : Int} (hk : H.m b = some ⟨true, 27, [.int .u8 7, .bool false, .int .u64 0, .int .u64 0, .int .i64 0, .bool false, .int .u8 0, .bool false, .bool false, .int .u8 0, .int .u8 0, .bool false, .int .u8 0, .int .u8 0, .bool false]⟩) (hx : Sl H 1 10 (xs.map (Value.int .u8)) x) (hb : ByteL xs) (hlen : xs.length = 10) (ha : Apart b x) (hw5 : True) :
    ACalls Try.prog 19 [.pointer (some ⟨b, 0, none⟩), x, .int .u8 sv] H (fun v H' => v = .tuple #[.int .i64 (fillF 7 10 xs).1, .int .i64 (fillF 7 10 xs).2] ∧ Stt [b] H H' [⟨some b, true, ⟨true, 27, (fillC 7 10 xs sv).cells⟩⟩]) := by
  refine acallsW Try.func19 f19_ok (Nat.le_of_ble_eq_true rfl) fun hw => ?_
  have st : Stt [b] H H [] := Stt.start hw
  replace st := st.mine hk rfl (by simp) (by simp)
  have q1 := hb.getD ((1 : Int)).toNat
  have q2 := hb.getD ((2 : Int)).toNat
  have q4 : IntKind.i64.wrap (xs.getD ((4 : Int)).toNat 0) = xs.getD 4 0 := wi _ (by have := hb.getD ((4 : Int)).toNat; omega)
  have q13 : IntKind.u64.wrap (xs.getD ((13 : Int)).toNat 0) = xs.getD 13 0 := by have := hb.getD ((13 : Int)).toNat; rw [w64]; show (xs.getD ((13 : Int)).toNat 0) % _ = xs.getD ((13 : Int)).toNat 0; omega
  unfold f19c
  show AWl _ _ _ _ _
  refine aN rfl rfl (by constructor) ?_
  refine aN rfl rfl (by constructor) ?_
  refine sE ?_
  show AWl _ _ _ _ _
  refine aMovV x rfl ?_
  refine aLen (st.slcX hx ha) rfl ?_
  refine aN rfl rfl (by constructor) ?_
  refine sE ?_
  show AWl _ _ _ _ _
  refine aN rfl rfl (by constructor) ?_
  refine aN rfl rfl (by constructor) ?_
  refine aN rfl rfl (by constructor) ?_
  refine aLd st 0 rfl rfl rfl (by constructor) ?_
  refine sE ?_
  show AWl _ _ _ _ _
  refine aBinV (.bool false) rfl rfl rfl ?_
  refine aN rfl rfl (by constructor) ?_
  refine sE ?_
  show AW _ (.cond _ _ _) _ _ _
  refine cF' rfl ?_
  show AWl _ _ _ _ _
  refine aBinV (.bool false) rfl rfl rfl ?_
  refine aN rfl rfl (by constructor) ?_
  refine sE ?_
  show AW _ (.cond _ _ _) _ _ _
  refine cF' rfl ?_
  show AWl _ _ _ _ _
  refine aBinV (.bool false) rfl rfl rfl ?_
  refine aN rfl rfl (by constructor) ?_
  refine sE ?_
  show AW _ (.cond _ _ _) _ _ _
  refine cF' rfl ?_
  show AWl _ _ _ _ _
  refine aBinV (.bool false) rfl rfl rfl ?_
  refine aN rfl rfl (by constructor) ?_
  refine sE ?_
  show AW _ (.cond _ _ _) _ _ _
  refine cF' rfl ?_
  show AWl _ _ _ _ _
  refine aBinV (.bool false) rfl rfl rfl ?_
  refine aN rfl rfl (by constructor) ?_
  refine sE ?_
  show AW _ (.cond _ _ _) _ _ _
  refine cF' rfl ?_
  show AWl _ _ _ _ _
  refine aBinV (.bool true) rfl rfl rfl ?_
  refine aN rfl rfl (by constructor) ?_
  refine sE ?_
  show AW _ (.cond _ _ _) _ _ _
  refine cT rfl ?_
  show AW _ (.cond _ _ _) _ _ _
  refine cT rfl ?_
  show AWl _ _ _ _ _
  refine aN rfl rfl (by constructor) ?_
  refine aMovV x rfl ?_
  refine aC (blocks7_10 (st.get (j := 0) rfl) (st.slcX hx ha) hb hlen ha) fun v149 H1 ⟨hv, st1⟩ => ?_
  subst hv
  replace st := st.callX 0 rfl st1 rfl
  clear st1
  refine aN rfl rfl (by constructor) ?_
  refine aN rfl rfl (by constructor) ?_
  refine aN rfl rfl (by constructor) ?_
  refine aN rfl rfl (by constructor) ?_
  refine sE ?_
  refine ⟨_, out2 (r_tmp rfl (by constructor)) (r_tmp rfl (by constructor)) ⟨rfl, rfl⟩, ?_⟩
  exact ⟨rfl, st.pick 0 rfl⟩
theorem fill7_16 {H : Hp} {b : Nat} {xs : List Int} {x : Value} {sv : Int} (hk : H.m b = some ⟨true, 27, [.int .u8 7, .bool false, .int .u64 0, .int .u64 0, .int .i64 0, .bool false, .int .u8 0, .bool false, .bool false, .int .u8 0, .int .u8 0, .bool false, .int .u8 0, .int .u8 0, .bool false]⟩) (hx : Sl H 1 16 (xs.map (Value.int .u8)) x) (hb : ByteL xs) (hlen : xs.length = 16) (ha : Apart b x) (hw5 : True) :
    ACalls Try.prog 19 [.pointer (some ⟨b, 0, none⟩), x, .int .u8 sv] H (fun v H' => v = .tuple #[.int .i64 (fillF 7 16 xs).1, .int .i64 (fillF 7 16 xs).2] ∧ Stt [b] H H' [⟨some b, true, ⟨true, 27, (fillC 7 16 xs sv).cells⟩⟩]) := by
  refine acallsW Try.func19 f19_ok (Nat.le_of_ble_eq_true rfl) fun hw => ?_
  have st : Stt [b] H H [] := Stt.start hw
  replace st := st.mine hk rfl (by simp) (by simp)
  have q1 := hb.getD ((1 : Int)).toNat
  have q2 := hb.getD ((2 : Int)).toNat
  have q4 : IntKind.i64.wrap (xs.getD ((4 : Int)).toNat 0) = xs.getD 4 0 := wi _ (by have := hb.getD ((4 : Int)).toNat; omega)
  have q13 : IntKind.u64.wrap (xs.getD ((13 : Int)).toNat 0) = xs.getD 13 0 := by have := hb.getD ((13 : Int)).toNat; rw [w64]; show (xs.getD ((13 : Int)).toNat 0) % _ = xs.getD ((13 : Int)).toNat 0; omega
  unfold f19c
  show AWl _ _ _ _ _
  refine aN rfl rfl (by constructor) ?_
  refine aN rfl rfl (by constructor) ?_
  refine sE ?_
  show AWl _ _ _ _ _
  refine aMovV x rfl ?_
  refine aLen (st.slcX hx ha) rfl ?_
  refine aN rfl rfl (by constructor) ?_
  refine sE ?_
  show AWl _ _ _ _ _
  refine aN rfl rfl (by constructor) ?_
  refine aN rfl rfl (by constructor) ?_
  refine aN rfl rfl (by constructor) ?_
  refine aLd st 0 rfl rfl rfl (by constructor) ?_
  refine sE ?_
  show AWl _ _ _ _ _
  refine aBinV (.bool false) rfl rfl rfl ?_
  refine aN rfl rfl (by constructor) ?_
  refine sE ?_
  show AW _ (.cond _ _ _) _ _ _
  refine cF' rfl ?_
  show AWl _ _ _ _ _
  refine aBinV (.bool false) rfl rfl rfl ?_
  refine aN rfl rfl (by constructor) ?_
  refine sE ?_
  show AW _ (.cond _ _ _) _ _ _
  refine cF' rfl ?_
  show AWl _ _ _ _ _
  refine aBinV (.bool false) rfl rfl rfl ?_
  refine aN rfl rfl (by constructor) ?_
  refine sE ?_
  show AW _ (.cond _ _ _) _ _ _
  refine cF' rfl ?_
  show AWl _ _ _ _ _
  refine aBinV (.bool false) rfl rfl rfl ?_
  refine aN rfl rfl (by constructor) ?_
  refine sE ?_
  show AW _ (.cond _ _ _) _ _ _
  refine cF' rfl ?_
  show AWl _ _ _ _ _
  refine aBinV (.bool false) rfl rfl rfl ?_
  refine aN rfl rfl (by constructor) ?_
  refine sE ?_
  show AW _ (.cond _ _ _) _ _ _
  refine cF' rfl ?_
  show AWl _ _ _ _ _
  refine aBinV (.bool true) rfl rfl rfl ?_
  refine aN rfl rfl (by constructor) ?_
  refine sE ?_
  show AW _ (.cond _ _ _) _ _ _
  refine cT rfl ?_
  show AW _ (.cond _ _ _) _ _ _
  refine cT rfl ?_
  show AWl _ _ _ _ _
  refine aN rfl rfl (by constructor) ?_
  refine aMovV x rfl ?_
  refine aC (blocks7_16 (st.get (j := 0) rfl) (st.slcX hx ha) hb hlen ha) fun v149 H1 ⟨hv, st1⟩ => ?_
  subst hv
  replace st := st.callX 0 rfl st1 rfl
  clear st1
  refine aN rfl rfl (by constructor) ?_
  refine aN rfl rfl (by constructor) ?_
  refine aN rfl rfl (by constructor) ?_
  refine aN rfl rfl (by constructor) ?_
  refine sE ?_
  refine ⟨_, out2 (r_tmp rfl (by constructor)) (r_tmp rfl (by constructor)) ⟨rfl, rfl⟩, ?_⟩
  exact ⟨rfl, st.pick 0 rfl⟩
theorem fill8_6 {H : Hp} {b : Nat} {xs : List Int} {x : Value} {sv : Int} (hk : H.m b = some ⟨true, 27, [.int .u8 8, .bool false, .int .u64 0, .int .u64 0, .int .i64 0, .bool false, .int .u8 0, .bool false, .bool false, .int .u8 0, .int .u8 0, .bool false, .int .u8 0, .int .u8 0, .bool false]⟩) (hx : Sl H 1 6 (xs.map (Value.int .u8)) x) (hb : ByteL xs) (hlen : xs.length = 6) (ha : Apart b x) (hw5 : True) :
    ACalls Try.prog 19 [.pointer (some ⟨b, 0, none⟩), x, .int .u8 sv] H (fun v H' => v = .tuple #[.int .i64 (fillF 8 6 xs).1, .int .i64 (fillF 8 6 xs).2] ∧ Stt [b] H H' [⟨some b, true, ⟨true, 27, (fillC 8 6 xs sv).cells⟩⟩]) := by
  refine acallsW Try.func19 f19_ok (Nat.le_of_ble_eq_true rfl) fun hw => ?_
  have st : Stt [b] H H [] := Stt.start hw
  replace st := st.mine hk rfl (by simp) (by simp)
  have q1 := hb.getD ((1 : Int)).toNat
  have q2 := hb.getD ((2 : Int)).toNat
  have q4 : IntKind.i64.wrap (xs.getD ((4 : Int)).toNat 0) = xs.getD 4 0 := wi _ (by have := hb.getD ((4 : Int)).toNat; omega)
  have q13 : IntKind.u64.wrap (xs.getD ((13 : Int)).toNat 0) = xs.getD 13 0 := by have := hb.getD ((13 : Int)).toNat; rw [w64]; show (xs.getD ((13 : Int)).toNat 0) % _ = xs.getD ((13 : Int)).toNat 0; omega
  unfold f19c
  show AWl _ _ _ _ _
  refine aN rfl rfl (by constructor) ?_
  refine aN rfl rfl (by constructor) ?_
  refine sE ?_
  show AWl _ _ _ _ _
  refine aMovV x rfl ?_
  refine aLen (st.slcX hx ha) rfl ?_
  refine aN rfl rfl (by constructor) ?_
  refine sE ?_
  show AWl _ _ _ _ _
  refine aN rfl rfl (by constructor) ?_
  refine aN rfl rfl (by constructor) ?_
  refine aN rfl rfl (by constructor) ?_
  refine aLd st 0 rfl rfl rfl (by constructor) ?_
  refine sE ?_
  show AWl _ _ _ _ _
  refine aBinV (.bool false) rfl rfl rfl ?_
  refine aN rfl rfl (by constructor) ?_
  refine sE ?_
  show AW _ (.cond _ _ _) _ _ _
  refine cF' rfl ?_
  show AWl _ _ _ _ _
  refine aBinV (.bool false) rfl rfl rfl ?_
  refine aN rfl rfl (by constructor) ?_
  refine sE ?_
  show AW _ (.cond _ _ _) _ _ _
  refine cF' rfl ?_
  show AWl _ _ _ _ _
  refine aBinV (.bool false) rfl rfl rfl ?_
  refine aN rfl rfl (by constructor) ?_
  refine sE ?_
  show AW _ (.cond _ _ _) _ _ _
  refine cF' rfl ?_
  show AWl _ _ _ _ _
  refine aBinV (.bool false) rfl rfl rfl ?_
  refine aN rfl rfl (by constructor) ?_
  refine sE ?_
  show AW _ (.cond _ _ _) _ _ _
  refine cF' rfl ?_
  show AWl _ _ _ _ _
  refine aBinV (.bool false) rfl rfl rfl ?_
  refine aN rfl rfl (by constructor) ?_
  refine sE ?_
  show AW _ (.cond _ _ _) _ _ _
  refine cF' rfl ?_
  show AWl _ _ _ _ _
  refine aBinV (.bool false) rfl rfl rfl ?_
  refine aN rfl rfl (by constructor) ?_
  refine sE ?_
  show AW _ (.cond _ _ _) _ _ _
  refine cF' rfl ?_
  show AWl _ _ _ _ _
  refine aBinV (.bool true) rfl rfl rfl ?_
  refine aN rfl rfl (by constructor) ?_
  refine sE ?_
  show AW _ (.cond _ _ _) _ _ _
  refine cT rfl ?_
  show AW _ (.cond _ _ _) _ _ _
  refine cT rfl ?_
  show AWl _ _ _ _ _
  refine aN rfl rfl (by constructor) ?_
  refine aMovV x rfl ?_
  refine aC (blocks8_6 (st.get (j := 0) rfl) (st.slcX hx ha) hb hlen ha) fun v149 H1 ⟨hv, st1⟩ => ?_
  subst hv
  replace st := st.callX 0 rfl st1 rfl
  clear st1
  refine aN rfl rfl (by constructor) ?_
  refine aN rfl rfl (by constructor) ?_
  refine aN rfl rfl (by constructor) ?_
  refine aN rfl rfl (by constructor) ?_
  refine sE ?_
  refine ⟨_, out2 (r_tmp rfl (by constructor)) (r_tmp rfl (by constructor)) ⟨rfl, rfl⟩, ?_⟩
  exact ⟨rfl, st.pick 0 rfl⟩
theorem fill8_10 {H : Hp} {b : Nat} {xs : List Int} {x : Value} {sv : Int} (hk : H.m b = some ⟨true, 27, [.int .u8 8, .bool false, .int .u64 0, .int .u64 0, .int .i64 0, .bool false, .int .u8 0, .bool false, .bool false, .int .u8 0, .int .u8 0, .bool false, .int .u8 0, .int .u8 0, .bool false]⟩) (hx : Sl H 1 10 (xs.map (Value.int .u8)) x) (hb : ByteL xs) (hlen : xs.length = 10) (ha : Apart b x) (hw5 : True) :
    ACalls Try.prog 19 [.pointer (some ⟨b, 0, none⟩), x, .int .u8 sv] H (fun v H' => v = .tuple #[.int .i64 (fillF 8 10 xs).1, .int .i64 (fillF 8 10 xs).2] ∧ Stt [b] H H' [⟨some b, true, ⟨true, 27, (fillC 8 10 xs sv).cells⟩⟩]) := by
  refine acallsW Try.func19 f19_ok (Nat.le_of_ble_eq_true rfl) fun hw => ?_
  have st : Stt [b] H H [] := Stt.start hw
  replace st := st.mine hk rfl (by simp) (by simp)
  have q1 := hb.getD ((1 : Int)).toNat
  have q2 := hb.getD ((2 : Int)).toNat
  have q4 : IntKind.i64.wrap (xs.getD ((4 : Int)).toNat 0) = xs.getD 4 0 := wi _ (by have := hb.getD ((4 : Int)).toNat; omega)
  have q13 : IntKind.u64.wrap (xs.getD ((13 : Int)).toNat 0) = xs.getD 13 0 := by have := hb.getD ((13 : Int)).toNat; rw [w64]; show (xs.getD ((13 : Int)).toNat 0) % _ = xs.getD ((13 : Int)).toNat 0; omega
  unfold f19c
  show AWl _ _ _ _ _
  refine aN rfl rfl (by constructor) ?_
  refine aN rfl rfl (by constructor) ?_
  refine sE ?_
  show AWl _ _ _ _ _
  refine aMovV x rfl ?_
  refine aLen (st.slcX hx ha) rfl ?_
  refine aN rfl rfl (by constructor) ?_
  refine sE ?_
  show AWl _ _ _ _ _
  refine aN rfl rfl (by constructor) ?_
  refine aN rfl rfl (by constructor) ?_
  refine aN rfl rfl (by constructor) ?_
  refine aLd st 0 rfl rfl rfl (by constructor) ?_
  refine sE ?_
  show AWl _ _ _ _ _
  refine aBinV (.bool false) rfl rfl rfl ?_
  refine aN rfl rfl (by constructor) ?_
  refine sE ?_
  show AW _ (.cond _ _ _) _ _ _
  refine cF' rfl ?_
  show AWl _ _ _ _ _
  refine aBinV (.bool false) rfl rfl rfl ?_
  refine aN rfl rfl (by constructor) ?_
  refine sE ?_
  show AW _ (.cond _ _ _) _ _ _
  refine cF' rfl ?_
  show AWl _ _ _ _ _
  refine aBinV (.bool false) rfl rfl rfl ?_
  refine aN rfl rfl (by constructor) ?_
  refine sE ?_
  show AW _ (.cond _ _ _) _ _ _
  refine cF' rfl ?_
  show AWl _ _ _ _ _
  refine aBinV (.bool false) rfl rfl rfl ?_
  refine aN rfl rfl (by constructor) ?_
  refine sE ?_
  show AW _ (.cond _ _ _) _ _ _
  refine cF' rfl ?_
  show AWl _ _ _ _ _
  refine aBinV (.bool false) rfl rfl rfl ?_
  refine aN rfl rfl (by constructor) ?_
  refine sE ?_
  show AW _ (.cond _ _ _) _ _ _
  refine cF' rfl ?_
  show AWl _ _ _ _ _
  refine aBinV (.bool false) rfl rfl rfl ?_
  refine aN rfl rfl (by constructor) ?_
  refine sE ?_
  show AW _ (.cond _ _ _) _ _ _
  refine cF' rfl ?_
  show AWl _ _ _ _ _
  refine aBinV (.bool true) rfl rfl rfl ?_
  refine aN rfl rfl (by constructor) ?_
  refine sE ?_
  show AW _ (.cond _ _ _) _ _ _
  refine cT rfl ?_
  show AW _ (.cond _ _ _) _ _ _
  refine cT rfl ?_
  show AWl _ _ _ _ _
  refine aN rfl rfl (by constructor) ?_
  refine aMovV x rfl ?_
  refine aC (blocks8_10 (st.get (j := 0) rfl) (st.slcX hx ha) hb hlen ha) fun v149 H1 ⟨hv, st1⟩ => ?_
  subst hv
  replace st := st.callX 0 rfl st1 rfl
  clear st1
  refine aN rfl rfl (by constructor) ?_
  refine aN rfl rfl (by constructor) ?_
  refine aN rfl rfl (by constructor) ?_
  refine aN rfl rfl (by constructor) ?_
  refine sE ?_
  refine ⟨_, out2 (r_tmp rfl (by constructor)) (r_tmp rfl (by constructor)) ⟨rfl, rfl⟩, ?_⟩
  exact ⟨rfl, st.pick 0 rfl⟩
theorem fill8_16 {H : Hp} {b : Nat} {xs : List Int} {x : Value} {sv : Int} (hk : H.m b = some ⟨true, 27, [.int .u8 8, .bool false, .int .u64 0, .int .u64 0, .int .i64 0, .bool false, .int .u8 0, .bool false, .bool false, .int .u8 0, .int .u8 0, .bool false, .int .u8 0, .int .u8 0, .bool false]⟩) (hx : Sl H 1 16 (xs.map (Value.int .u8)) x) (hb : ByteL xs) (hlen : xs.length = 16) (ha : Apart b x) (hw5 : True) :
    ACalls Try.prog 19 [.pointer (some ⟨b, 0, none⟩), x, .int .u8 sv] H (fun v H' => v = .tuple #[.int .i64 (fillF 8 16 xs).1, .int .i64 (fillF 8 16 xs).2] ∧ Stt [b] H H' [⟨some b, true, ⟨true, 27, (fillC 8 16 xs sv).cells⟩⟩]) := by
  refine acallsW Try.func19 f19_ok (Nat.le_of_ble_eq_true rfl) fun hw => ?_
  have st : Stt [b] H H [] := Stt.start hw
  replace st := st.mine hk rfl (by simp) (by simp)
  have q1 := hb.getD ((1 : Int)).toNat
  have q2 := hb.getD ((2 : Int)).toNat
  have q4 : IntKind.i64.wrap (xs.getD ((4 : Int)).toNat 0) = xs.getD 4 0 := wi _ (by have := hb.getD ((4 : Int)).toNat; omega)
  have q13 : IntKind.u64.wrap (xs.getD ((13 : Int)).toNat 0) = xs.getD 13 0 := by have := hb.getD ((13 : Int)).toNat; rw [w64]; show (xs.getD ((13 : Int)).toNat 0) % _ = xs.getD ((13 : Int)).toNat 0; omega
  unfold f19c
  show AWl _ _ _ _ _
  refine aN rfl rfl (by constructor) ?_
  refine aN rfl rfl (by constructor) ?_
  refine sE ?_
  show AWl _ _ _ _ _
  refine aMovV x rfl ?_
  refine aLen (st.slcX hx ha) rfl ?_
  refine aN rfl rfl (by constructor) ?_
  refine sE ?_
  show AWl _ _ _ _ _
  refine aN rfl rfl (by constructor) ?_
  refine aN rfl rfl (by constructor) ?_
  refine aN rfl rfl (by constructor) ?_
  refine aLd st 0 rfl rfl rfl (by constructor) ?_
  refine sE ?_
  show AWl _ _ _ _ _
  refine aBinV (.bool false) rfl rfl rfl ?_
  refine aN rfl rfl (by constructor) ?_
  refine sE ?_
  show AW _ (.cond _ _ _) _ _ _
  refine cF' rfl ?_
  show AWl _ _ _ _ _
  refine aBinV (.bool false) rfl rfl rfl ?_
  refine aN rfl rfl (by constructor) ?_
  refine sE ?_
  show AW _ (.cond _ _ _) _ _ _
  refine cF' rfl ?_
  show AWl _ _ _ _ _
  refine aBinV (.bool false) rfl rfl rfl ?_
  refine aN rfl rfl (by constructor) ?_
  refine sE ?_
  show AW _ (.cond _ _ _) _ _ _
  refine cF' rfl ?_
  show AWl _ _ _ _ _
  refine aBinV (.bool false) rfl rfl rfl ?_
  refine aN rfl rfl (by constructor) ?_
  refine sE ?_
  show AW _ (.cond _ _ _) _ _ _
  refine cF' rfl ?_
  show AWl _ _ _ _ _
  refine aBinV (.bool false) rfl rfl rfl ?_
  refine aN rfl rfl (by constructor) ?_
  refine sE ?_
  show AW _ (.cond _ _ _) _ _ _
  refine cF' rfl ?_
  show AWl _ _ _ _ _
  refine aBinV (.bool false) rfl rfl rfl ?_
  refine aN rfl rfl (by constructor) ?_
  refine sE ?_
  show AW _ (.cond _ _ _) _ _ _
  refine cF' rfl ?_
  show AWl _ _ _ _ _
  refine aBinV (.bool true) rfl rfl rfl ?_
  refine aN rfl rfl (by constructor) ?_
  refine sE ?_
  show AW _ (.cond _ _ _) _ _ _
  refine cT rfl ?_
  show AW _ (.cond _ _ _) _ _ _
  refine cT rfl ?_
  show AWl _ _ _ _ _
  refine aN rfl rfl (by constructor) ?_
  refine aMovV x rfl ?_
  refine aC (blocks8_16 (st.get (j := 0) rfl) (st.slcX hx ha) hb hlen ha) fun v149 H1 ⟨hv, st1⟩ => ?_
  subst hv
  replace st := st.callX 0 rfl st1 rfl
  clear st1
  refine aN rfl rfl (by constructor) ?_
  refine aN rfl rfl (by constructor) ?_
  refine aN rfl rfl (by constructor) ?_
  refine aN rfl rfl (by constructor) ?_
  refine sE ?_
  refine ⟨_, out2 (r_tmp rfl (by constructor)) (r_tmp rfl (by constructor)) ⟨rfl, rfl⟩, ?_⟩
  exact ⟨rfl, st.pick 0 rfl⟩
theorem fill9_10 {H : Hp} {b : Nat} {xs : List Int} {x : Value} {sv : Int} (hk : H.m b = some ⟨true, 27, [.int .u8 9, .bool false, .int .u64 0, .int .u64 0, .int .i64 0, .bool false, .int .u8 0, .bool false, .bool false, .int .u8 0, .int .u8 0, .bool false, .int .u8 0, .int .u8 0, .bool false]⟩) (hx : Sl H 1 10 (xs.map (Value.int .u8)) x) (hb : ByteL xs) (hlen : xs.length = 10) (ha : Apart b x) (hw5 : True) :
    ACalls Try.prog 19 [.pointer (some ⟨b, 0, none⟩), x, .int .u8 sv] H (fun v H' => v = .tuple #[.int .i64 (fillF 9 10 xs).1, .int .i64 (fillF 9 10 xs).2] ∧ Stt [b] H H' [⟨some b, true, ⟨true, 27, (fillC 9 10 xs sv).cells⟩⟩]) := by
  refine acallsW Try.func19 f19_ok (Nat.le_of_ble_eq_true rfl) fun hw => ?_
  have st : Stt [b] H H [] := Stt.start hw
  replace st := st.mine hk rfl (by simp) (by simp)
  have q1 := hb.getD ((1 : Int)).toNat
  have q2 := hb.getD ((2 : Int)).toNat
  have q4 : IntKind.i64.wrap (xs.getD ((4 : Int)).toNat 0) = xs.getD 4 0 := wi _ (by have := hb.getD ((4 : Int)).toNat; omega)
  have q13 : IntKind.u64.wrap (xs.getD ((13 : Int)).toNat 0) = xs.getD 13 0 := by have := hb.getD ((13 : Int)).toNat; rw [w64]; show (xs.getD ((13 : Int)).toNat 0) % _ = xs.getD ((13 : Int)).toNat 0; omega
  unfold f19c
  show AWl _ _ _ _ _
  refine aN rfl rfl (by constructor) ?_
  refine aN rfl rfl (by constructor) ?_
  refine sE ?_
  show AWl _ _ _ _ _
  refine aMovV x rfl ?_
  refine aLen (st.slcX hx ha) rfl ?_
  refine aN rfl rfl (by constructor) ?_
  refine sE ?_
  show AWl _ _ _ _ _
  refine aN rfl rfl (by constructor) ?_
  refine aN rfl rfl (by constructor) ?_
  refine aN rfl rfl (by constructor) ?_
  refine aLd st 0 rfl rfl rfl (by constructor) ?_
  refine sE ?_
  show AWl _ _ _ _ _
  refine aBinV (.bool false) rfl rfl rfl ?_
  refine aN rfl rfl (by constructor) ?_
  refine sE ?_
  show AW _ (.cond _ _ _) _ _ _
  refine cF' rfl ?_
  show AWl _ _ _ _ _
  refine aBinV (.bool false) rfl rfl rfl ?_
  refine aN rfl rfl (by constructor) ?_
  refine sE ?_
  show AW _ (.cond _ _ _) _ _ _
  refine cF' rfl ?_
  show AWl _ _ _ _ _
  refine aBinV (.bool false) rfl rfl rfl ?_
  refine aN rfl rfl (by constructor) ?_
  refine sE ?_
  show AW _ (.cond _ _ _) _ _ _
  refine cF' rfl ?_
  show AWl _ _ _ _ _
  refine aBinV (.bool false) rfl rfl rfl ?_
  refine aN rfl rfl (by constructor) ?_
  refine sE ?_
  show AW _ (.cond _ _ _) _ _ _
  refine cF' rfl ?_
  show AWl _ _ _ _ _
  refine aBinV (.bool false) rfl rfl rfl ?_
  refine aN rfl rfl (by constructor) ?_
  refine sE ?_
  show AW _ (.cond _ _ _) _ _ _
  refine cF' rfl ?_
  show AWl _ _ _ _ _
  refine aBinV (.bool false) rfl rfl rfl ?_
  refine aN rfl rfl (by constructor) ?_
  refine sE ?_
  show AW _ (.cond _ _ _) _ _ _
  refine cF' rfl ?_
  show AWl _ _ _ _ _
  refine aBinV (.bool false) rfl rfl rfl ?_
  refine aN rfl rfl (by constructor) ?_
  refine sE ?_
  show AW _ (.cond _ _ _) _ _ _
  refine cF' rfl ?_
  show AWl _ _ _ _ _
  refine aBinV (.bool true) rfl rfl rfl ?_
  refine aN rfl rfl (by constructor) ?_
  refine sE ?_
  show AW _ (.cond _ _ _) _ _ _
  refine cT rfl ?_
  show AW _ (.cond _ _ _) _ _ _
  refine cT rfl ?_
  show AWl _ _ _ _ _
  refine aN rfl rfl (by constructor) ?_
  refine aMovV x rfl ?_
  refine aC (blocks9_10 (st.get (j := 0) rfl) (st.slcX hx ha) hb hlen ha) fun v149 H1 ⟨hv, st1⟩ => ?_
  subst hv
  replace st := st.callX 0 rfl st1 rfl
  clear st1
  refine aN rfl rfl (by constructor) ?_
  refine aN rfl rfl (by constructor) ?_
  refine aN rfl rfl (by constructor) ?_
  refine aN rfl rfl (by constructor) ?_
  refine sE ?_
  refine ⟨_, out2 (r_tmp rfl (by constructor)) (r_tmp rfl (by constructor)) ⟨rfl, rfl⟩, ?_⟩
  exact ⟨rfl, st.pick 0 rfl⟩
theorem fill10_10 {H : Hp} {b : Nat} {xs : List Int} {x : Value} {sv : Int} (hk : H.m b = some ⟨true, 27, [.int .u8 10, .bool false, .int .u64 0, .int .u64 0, .int .i64 0, .bool false, .int .u8 0, .bool false, .bool false, .int .u8 0, .int .u8 0, .bool false, .int .u8 0, .int .u8 0, .bool false]⟩) (hx : Sl H 1 10 (xs.map (Value.int .u8)) x) (hb : ByteL xs) (hlen : xs.length = 10) (ha : Apart b x) (hw5 : True) :
    ACalls Try.prog 19 [.pointer (some ⟨b, 0, none⟩), x, .int .u8 sv] H (fun v H' => v = .tuple #[.int .i64 (fillF 10 10 xs).1, .int .i64 (fillF 10 10 xs).2] ∧ Stt [b] H H' [⟨some b, true, ⟨true, 27, (fillC 10 10 xs sv).cells⟩⟩]) := by
  refine acallsW Try.func19 f19_ok (Nat.le_of_ble_eq_true rfl) fun hw => ?_
  have st : Stt [b] H H [] := Stt.start hw
  replace st := st.mine hk rfl (by simp) (by simp)
  have q1 := hb.getD ((1 : Int)).toNat
  have q2 := hb.getD ((2 : Int)).toNat
  have q4 : IntKind.i64.wrap (xs.getD ((4 : Int)).toNat 0) = xs.getD 4 0 := wi _ (by have := hb.getD ((4 : Int)).toNat; omega)
  have q13 : IntKind.u64.wrap (xs.getD ((13 : Int)).toNat 0) = xs.getD 13 0 := by have := hb.getD ((13 : Int)).toNat; rw [w64]; show (xs.getD ((13 : Int)).toNat 0) % _ = xs.getD ((13 : Int)).toNat 0; omega
  unfold f19c
  show AWl _ _ _ _ _
  refine aN rfl rfl (by constructor) ?_
  refine aN rfl rfl (by constructor) ?_
  refine sE ?_
  show AWl _ _ _ _ _
  refine aMovV x rfl ?_
  refine aLen (st.slcX hx ha) rfl ?_
  refine aN rfl rfl (by constructor) ?_
  refine sE ?_
  show AWl _ _ _ _ _
  refine aN rfl rfl (by constructor) ?_
  refine aN rfl rfl (by constructor) ?_
  refine aN rfl rfl (by constructor) ?_
  refine aLd st 0 rfl rfl rfl (by constructor) ?_
  refine sE ?_
  show AWl _ _ _ _ _
  refine aBinV (.bool false) rfl rfl rfl ?_
  refine aN rfl rfl (by constructor) ?_
  refine sE ?_
  show AW _ (.cond _ _ _) _ _ _
  refine cF' rfl ?_
  show AWl _ _ _ _ _
  refine aBinV (.bool false) rfl rfl rfl ?_
  refine aN rfl rfl (by constructor) ?_
  refine sE ?_
  show AW _ (.cond _ _ _) _ _ _
  refine cF' rfl ?_
  show AWl _ _ _ _ _
  refine aBinV (.bool false) rfl rfl rfl ?_
  refine aN rfl rfl (by constructor) ?_
  refine sE ?_
  show AW _ (.cond _ _ _) _ _ _
  refine cF' rfl ?_
  show AWl _ _ _ _ _
  refine aBinV (.bool false) rfl rfl rfl ?_
  refine aN rfl rfl (by constructor) ?_
  refine sE ?_
  show AW _ (.cond _ _ _) _ _ _
  refine cF' rfl ?_
  show AWl _ _ _ _ _
  refine aBinV (.bool false) rfl rfl rfl ?_
  refine aN rfl rfl (by constructor) ?_
  refine sE ?_
  show AW _ (.cond _ _ _) _ _ _
  refine cF' rfl ?_
  show AWl _ _ _ _ _
  refine aBinV (.bool false) rfl rfl rfl ?_
  refine aN rfl rfl (by constructor) ?_
  refine sE ?_
  show AW _ (.cond _ _ _) _ _ _
  refine cF' rfl ?_
  show AWl _ _ _ _ _
  refine aBinV (.bool false) rfl rfl rfl ?_
  refine aN rfl rfl (by constructor) ?_
  refine sE ?_
  show AW _ (.cond _ _ _) _ _ _
  refine cF' rfl ?_
  show AWl _ _ _ _ _
  refine aBinV (.bool false) rfl rfl rfl ?_
  refine aN rfl rfl (by constructor) ?_
  refine sE ?_
  show AW _ (.cond _ _ _) _ _ _
  refine cF' rfl ?_
  show AWl _ _ _ _ _
  refine aBinV (.bool true) rfl rfl rfl ?_
  refine aN rfl rfl (by constructor) ?_
  refine sE ?_
  show AW _ (.cond _ _ _) _ _ _
  refine cT rfl ?_
  show AW _ (.cond _ _ _) _ _ _
  refine cT rfl ?_
  show AWl _ _ _ _ _
  refine aN rfl rfl (by constructor) ?_
  refine aMovV x rfl ?_
  refine aC (blocks10_10 (st.get (j := 0) rfl) (st.slcX hx ha) hb hlen ha) fun v149 H1 ⟨hv, st1⟩ => ?_
  subst hv
  replace st := st.callX 0 rfl st1 rfl
  clear st1
  refine aN rfl rfl (by constructor) ?_
  refine aN rfl rfl (by constructor) ?_
  refine aN rfl rfl (by constructor) ?_
  refine aN rfl rfl (by constructor) ?_
  refine sE ?_
  refine ⟨_, out2 (r_tmp rfl (by constructor)) (r_tmp rfl (by constructor)) ⟨rfl, rfl⟩, ?_⟩
  exact ⟨rfl, st.pick 0 rfl⟩
theorem fill11_10 {H : Hp} {b : Nat} {xs : List Int} {x : Value} {sv : Int} (hk : H.m b = some ⟨true, 27, [.int .u8 11, .bool false, .int .u64 0, .int .u64 0, .int .i64 0, .bool false, .int .u8 0, .bool false, .bool false, .int .u8 0, .int .u8 0, .bool false, .int .u8 0, .int .u8 0, .bool false]⟩) (hx : Sl H 1 10 (xs.map (Value.int .u8)) x) (hb : ByteL xs) (hlen : xs.length = 10) (ha : Apart b x) (hw5 : True) :
    ACalls Try.prog 19 [.pointer (some ⟨b, 0, none⟩), x, .int .u8 sv] H (fun v H' => v = .tuple #[.int .i64 (fillF 11 10 xs).1, .int .i64 (fillF 11 10 xs).2] ∧ Stt [b] H H' [⟨some b, true, ⟨true, 27, (fillC 11 10 xs sv).cells⟩⟩]) := by
  refine acallsW Try.func19 f19_ok (Nat.le_of_ble_eq_true rfl) fun hw => ?_
  have st : Stt [b] H H [] := Stt.start hw
  replace st := st.mine hk rfl (by simp) (by simp)
  have q1 := hb.getD ((1 : Int)).toNat
  have q2 := hb.getD ((2 : Int)).toNat
  have q4 : IntKind.i64.wrap (xs.getD ((4 : Int)).toNat 0) = xs.getD 4 0 := wi _ (by have := hb.getD ((4 : Int)).toNat; omega)
  have q13 : IntKind.u64.wrap (xs.getD ((13 : Int)).toNat 0) = xs.getD 13 0 := by have := hb.getD ((13 : Int)).toNat; rw [w64]; show (xs.getD ((13 : Int)).toNat 0) % _ = xs.getD ((13 : Int)).toNat 0; omega
  unfold f19c
  show AWl _ _ _ _ _
  refine aN rfl rfl (by constructor) ?_
  refine aN rfl rfl (by constructor) ?_
  refine sE ?_
  show AWl _ _ _ _ _
  refine aMovV x rfl ?_
  refine aLen (st.slcX hx ha) rfl ?_
  refine aN rfl rfl (by constructor) ?_
  refine sE ?_
  show AWl _ _ _ _ _
  refine aN rfl rfl (by constructor) ?_
  refine aN rfl rfl (by constructor) ?_
  refine aN rfl rfl (by constructor) ?_
  refine aLd st 0 rfl rfl rfl (by constructor) ?_
  refine sE ?_
  show AWl _ _ _ _ _
  refine aBinV (.bool false) rfl rfl rfl ?_
  refine aN rfl rfl (by constructor) ?_
  refine sE ?_
  show AW _ (.cond _ _ _) _ _ _
  refine cF' rfl ?_
  show AWl _ _ _ _ _
  refine aBinV (.bool false) rfl rfl rfl ?_
  refine aN rfl rfl (by constructor) ?_
  refine sE ?_
  show AW _ (.cond _ _ _) _ _ _
  refine cF' rfl ?_
  show AWl _ _ _ _ _
  refine aBinV (.bool false) rfl rfl rfl ?_
  refine aN rfl rfl (by constructor) ?_
  refine sE ?_
  show AW _ (.cond _ _ _) _ _ _
  refine cF' rfl ?_
  show AWl _ _ _ _ _
  refine aBinV (.bool false) rfl rfl rfl ?_
  refine aN rfl rfl (by constructor) ?_
  refine sE ?_
  show AW _ (.cond _ _ _) _ _ _
  refine cF' rfl ?_
  show AWl _ _ _ _ _
  refine aBinV (.bool false) rfl rfl rfl ?_
  refine aN rfl rfl (by constructor) ?_
  refine sE ?_
  show AW _ (.cond _ _ _) _ _ _
  refine cF' rfl ?_
  show AWl _ _ _ _ _
  refine aBinV (.bool false) rfl rfl rfl ?_
  refine aN rfl rfl (by constructor) ?_
  refine sE ?_
  show AW _ (.cond _ _ _) _ _ _
  refine cF' rfl ?_
  show AWl _ _ _ _ _
  refine aBinV (.bool false) rfl rfl rfl ?_
  refine aN rfl rfl (by constructor) ?_
  refine sE ?_
  show AW _ (.cond _ _ _) _ _ _
  refine cF' rfl ?_
  show AWl _ _ _ _ _
  refine aBinV (.bool false) rfl rfl rfl ?_
  refine aN rfl rfl (by constructor) ?_
  refine sE ?_
  show AW _ (.cond _ _ _) _ _ _
  refine cF' rfl ?_
  show AWl _ _ _ _ _
  refine aBinV (.bool false) rfl rfl rfl ?_
  refine aN rfl rfl (by constructor) ?_
  refine sE ?_
  show AW _ (.cond _ _ _) _ _ _
  refine cF' rfl ?_
  show AWl _ _ _ _ _
  refine aBinV (.bool true) rfl rfl rfl ?_
  refine aN rfl rfl (by constructor) ?_
  refine sE ?_
  show AW _ (.cond _ _ _) _ _ _
  refine cT rfl ?_
  show AW _ (.cond _ _ _) _ _ _
  refine cT rfl ?_
  show AWl _ _ _ _ _
  refine aN rfl rfl (by constructor) ?_
  refine aMovV x rfl ?_
  refine aC (blocks11_10 (st.get (j := 0) rfl) (st.slcX hx ha) hb hlen ha) fun v149 H1 ⟨hv, st1⟩ => ?_
  subst hv
  replace st := st.callX 0 rfl st1 rfl
  clear st1
  refine aN rfl rfl (by constructor) ?_
  refine aN rfl rfl (by constructor) ?_
  refine aN rfl rfl (by constructor) ?_
  refine aN rfl rfl (by constructor) ?_
  refine sE ?_
  refine ⟨_, out2 (r_tmp rfl (by constructor)) (r_tmp rfl (by constructor)) ⟨rfl, rfl⟩, ?_⟩
  exact ⟨rfl, st.pick 0 rfl⟩
theorem fill11_16 {H : Hp} {b : Nat} {xs : List Int} {x : Value} {sv : Int} (hk : H.m b = some ⟨true, 27, [.int .u8 11, .bool false, .int .u64 0, .int .u64 0, .int .i64 0, .bool false, .int .u8 0, .bool false, .bool false, .int .u8 0, .int .u8 0, .bool false, .int .u8 0, .int .u8 0, .bool false]⟩) (hx : Sl H 1 16 (xs.map (Value.int .u8)) x) (hb : ByteL xs) (hlen : xs.length = 16) (ha : Apart b x) (hw5 : True) :
    ACalls Try.prog 19 [.pointer (some ⟨b, 0, none⟩), x, .int .u8 sv] H (fun v H' => v = .tuple #[.int .i64 (fillF 11 16 xs).1, .int .i64 (fillF 11 16 xs).2] ∧ Stt [b] H H' [⟨some b, true, ⟨true, 27, (fillC 11 16 xs sv).cells⟩⟩]) := by
  refine acallsW Try.func19 f19_ok (Nat.le_of_ble_eq_true rfl) fun hw => ?_
  have st : Stt [b] H H [] := Stt.start hw
  replace st := st.mine hk rfl (by simp) (by simp)
  have q1 := hb.getD ((1 : Int)).toNat
  have q2 := hb.getD ((2 : Int)).toNat
  have q4 : IntKind.i64.wrap (xs.getD ((4 : Int)).toNat 0) = xs.getD 4 0 := wi _ (by have := hb.getD ((4 : Int)).toNat; omega)
  have q13 : IntKind.u64.wrap (xs.getD ((13 : Int)).toNat 0) = xs.getD 13 0 := by have := hb.getD ((13 : Int)).toNat; rw [w64]; show (xs.getD ((13 : Int)).toNat 0) % _ = xs.getD ((13 : Int)).toNat 0; omega
  unfold f19c
  show AWl _ _ _ _ _
  refine aN rfl rfl (by constructor) ?_
  refine aN rfl rfl (by constructor) ?_
  refine sE ?_
  show AWl _ _ _ _ _
  refine aMovV x rfl ?_
  refine aLen (st.slcX hx ha) rfl ?_
  refine aN rfl rfl (by constructor) ?_
  refine sE ?_
  show AWl _ _ _ _ _
  refine aN rfl rfl (by constructor) ?_
  refine aN rfl rfl (by constructor) ?_
  refine aN rfl rfl (by constructor) ?_
  refine aLd st 0 rfl rfl rfl (by constructor) ?_
  refine sE ?_
  show AWl _ _ _ _ _
  refine aBinV (.bool false) rfl rfl rfl ?_
  refine aN rfl rfl (by constructor) ?_
  refine sE ?_
  show AW _ (.cond _ _ _) _ _ _
  refine cF' rfl ?_
  show AWl _ _ _ _ _
  refine aBinV (.bool false) rfl rfl rfl ?_
  refine aN rfl rfl (by constructor) ?_
  refine sE ?_
  show AW _ (.cond _ _ _) _ _ _
  refine cF' rfl ?_
  show AWl _ _ _ _ _
  refine aBinV (.bool false) rfl rfl rfl ?_
  refine aN rfl rfl (by constructor) ?_
  refine sE ?_
  show AW _ (.cond _ _ _) _ _ _
  refine cF' rfl ?_
  show AWl _ _ _ _ _
  refine aBinV (.bool false) rfl rfl rfl ?_
  refine aN rfl rfl (by constructor) ?_
  refine sE ?_
  show AW _ (.cond _ _ _) _ _ _
  refine cF' rfl ?_
  show AWl _ _ _ _ _
  refine aBinV (.bool false) rfl rfl rfl ?_
  refine aN rfl rfl (by constructor) ?_
  refine sE ?_
  show AW _ (.cond _ _ _) _ _ _
  refine cF' rfl ?_
  show AWl _ _ _ _ _
  refine aBinV (.bool false) rfl rfl rfl ?_
  refine aN rfl rfl (by constructor) ?_
  refine sE ?_
  show AW _ (.cond _ _ _) _ _ _
  refine cF' rfl ?_
  show AWl _ _ _ _ _
  refine aBinV (.bool false) rfl rfl rfl ?_
  refine aN rfl rfl (by constructor) ?_
  refine sE ?_
  show AW _ (.cond _ _ _) _ _ _
  refine cF' rfl ?_
  show AWl _ _ _ _ _
  refine aBinV (.bool false) rfl rfl rfl ?_
  refine aN rfl rfl (by constructor) ?_
  refine sE ?_
  show AW _ (.cond _ _ _) _ _ _
  refine cF' rfl ?_
  show AWl _ _ _ _ _
  refine aBinV (.bool false) rfl rfl rfl ?_
  refine aN rfl rfl (by constructor) ?_
  refine sE ?_
  show AW _ (.cond _ _ _) _ _ _
  refine cF' rfl ?_
  show AWl _ _ _ _ _
  refine aBinV (.bool true) rfl rfl rfl ?_
  refine aN rfl rfl (by constructor) ?_
  refine sE ?_
  show AW _ (.cond _ _ _) _ _ _
  refine cT rfl ?_
  show AW _ (.cond _ _ _) _ _ _
  refine cT rfl ?_
  show AWl _ _ _ _ _
  refine aN rfl rfl (by constructor) ?_
  refine aMovV x rfl ?_
  refine aC (blocks11_16 (st.get (j := 0) rfl) (st.slcX hx ha) hb hlen ha) fun v149 H1 ⟨hv, st1⟩ => ?_
  subst hv
  replace st := st.callX 0 rfl st1 rfl
  clear st1
  refine aN rfl rfl (by constructor) ?_
  refine aN rfl rfl (by constructor) ?_
  refine aN rfl rfl (by constructor) ?_
  refine aN rfl rfl (by constructor) ?_
  refine sE ?_
  refine ⟨_, out2 (r_tmp rfl (by constructor)) (r_tmp rfl (by constructor)) ⟨rfl, rfl⟩, ?_⟩
  exact ⟨rfl, st.pick 0 rfl⟩
theorem fill12_10 {H : Hp} {b : Nat} {xs : List Int} {x : Value} {sv : Int} (hk : H.m b = some ⟨true, 27, [.int .u8 12, .bool false, .int .u64 0, .int .u64 0, .int .i64 0, .bool false, .int .u8 0, .bool false, .bool false, .int .u8 0, .int .u8 0, .bool false, .int .u8 0, .int .u8 0, .bool false]⟩) (hx : Sl H 1 10 (xs.map (Value.int .u8)) x) (hb : ByteL xs) (hlen : xs.length = 10) (ha : Apart b x) (hw5 : True) :
    ACalls Try.prog 19 [.pointer (some ⟨b, 0, none⟩), x, .int .u8 sv] H (fun v H' => v = .tuple #[.int .i64 (fillF 12 10 xs).1, .int .i64 (fillF 12 10 xs).2] ∧ Stt [b] H H' [⟨some b, true, ⟨true, 27, (fillC 12 10 xs sv).cells⟩⟩]) := by
  refine acallsW Try.func19 f19_ok (Nat.le_of_ble_eq_true rfl) fun hw => ?_
  have st : Stt [b] H H [] := Stt.start hw
  replace st := st.mine hk rfl (by simp) (by simp)
  have q1 := hb.getD ((1 : Int)).toNat
  have q2 := hb.getD ((2 : Int)).toNat
  have q4 : IntKind.i64.wrap (xs.getD ((4 : Int)).toNat 0) = xs.getD 4 0 := wi _ (by have := hb.getD ((4 : Int)).toNat; omega)
  have q13 : IntKind.u64.wrap (xs.getD ((13 : Int)).toNat 0) = xs.getD 13 0 := by have := hb.getD ((13 : Int)).toNat; rw [w64]; show (xs.getD ((13 : Int)).toNat 0) % _ = xs.getD ((13 : Int)).toNat 0; omega
  unfold f19c
  show AWl _ _ _ _ _
  refine aN rfl rfl (by constructor) ?_
  refine aN rfl rfl (by constructor) ?_
  refine sE ?_
  show AWl _ _ _ _ _
  refine aMovV x rfl ?_
  refine aLen (st.slcX hx ha) rfl ?_
  refine aN rfl rfl (by constructor) ?_
  refine sE ?_
  show AWl _ _ _ _ _
  refine aN rfl rfl (by constructor) ?_
  refine aN rfl rfl (by constructor) ?_
  refine aN rfl rfl (by constructor) ?_
  refine aLd st 0 rfl rfl rfl (by constructor) ?_
  refine sE ?_
  show AWl _ _ _ _ _
  refine aBinV (.bool false) rfl rfl rfl ?_
  refine aN rfl rfl (by constructor) ?_
  refine sE ?_
  show AW _ (.cond _ _ _) _ _ _
  refine cF' rfl ?_
  show AWl _ _ _ _ _
  refine aBinV (.bool false) rfl rfl rfl ?_
  refine aN rfl rfl (by constructor) ?_
  refine sE ?_
  show AW _ (.cond _ _ _) _ _ _
  refine cF' rfl ?_
  show AWl _ _ _ _ _
  refine aBinV (.bool false) rfl rfl rfl ?_
  refine aN rfl rfl (by constructor) ?_
  refine sE ?_
  show AW _ (.cond _ _ _) _ _ _
  refine cF' rfl ?_
  show AWl _ _ _ _ _
  refine aBinV (.bool false) rfl rfl rfl ?_
  refine aN rfl rfl (by constructor) ?_
  refine sE ?_
  show AW _ (.cond _ _ _) _ _ _
  refine cF' rfl ?_
  show AWl _ _ _ _ _
  refine aBinV (.bool false) rfl rfl rfl ?_
  refine aN rfl rfl (by constructor) ?_
  refine sE ?_
  show AW _ (.cond _ _ _) _ _ _
  refine cF' rfl ?_
  show AWl _ _ _ _ _
  refine aBinV (.bool false) rfl rfl rfl ?_
  refine aN rfl rfl (by constructor) ?_
  refine sE ?_
  show AW _ (.cond _ _ _) _ _ _
  refine cF' rfl ?_
  show AWl _ _ _ _ _
  refine aBinV (.bool false) rfl rfl rfl ?_
  refine aN rfl rfl (by constructor) ?_
  refine sE ?_
  show AW _ (.cond _ _ _) _ _ _
  refine cF' rfl ?_
  show AWl _ _ _ _ _
  refine aBinV (.bool false) rfl rfl rfl ?_
  refine aN rfl rfl (by constructor) ?_
  refine sE ?_
  show AW _ (.cond _ _ _) _ _ _
  refine cF' rfl ?_
  show AWl _ _ _ _ _
  refine aBinV (.bool false) rfl rfl rfl ?_
  refine aN rfl rfl (by constructor) ?_
  refine sE ?_
  show AW _ (.cond _ _ _) _ _ _
  refine cF' rfl ?_
  show AWl _ _ _ _ _
  refine aBinV (.bool false) rfl rfl rfl ?_
  refine aN rfl rfl (by constructor) ?_
  refine sE ?_
  show AW _ (.cond _ _ _) _ _ _
  refine cF' rfl ?_
  show AWl _ _ _ _ _
  refine aBinV (.bool true) rfl rfl rfl ?_
  refine aN rfl rfl (by constructor) ?_
  refine sE ?_
  show AW _ (.cond _ _ _) _ _ _
  refine cT rfl ?_
  show AWl _ _ _ _ _
  refine aN rfl rfl (by constructor) ?_
  refine aMovV x rfl ?_
  refine aC (blocks12_10 (st.get (j := 0) rfl) (st.slcX hx ha) hb hlen ha) fun v149 H1 ⟨hv, st1⟩ => ?_
  subst hv
  replace st := st.callX 0 rfl st1 rfl
  clear st1
  refine aN rfl rfl (by constructor) ?_
  refine aN rfl rfl (by constructor) ?_
  refine aN rfl rfl (by constructor) ?_
  refine aN rfl rfl (by constructor) ?_
  refine sE ?_
  refine ⟨_, out2 (r_tmp rfl (by constructor)) (r_tmp rfl (by constructor)) ⟨rfl, rfl⟩, ?_⟩
  exact ⟨rfl, st.pick 0 rfl⟩
theorem fill12_16 {H : Hp} {b : Nat} {xs : List Int} {x : Value} {sv : Int} (hk : H.m b = some ⟨true, 27, [.int .u8 12, .bool false, .int .u64 0, .int .u64 0, .int .i64 0, .bool false, .int .u8 0, .bool false, .bool false, .int .u8 0, .int .u8 0, .bool false, .int .u8 0, .int .u8 0, .bool false]⟩) (hx : Sl H 1 16 (xs.map (Value.int .u8)) x) (hb : ByteL xs) (hlen : xs.length = 16) (ha : Apart b x) (hw5 : True) :
    ACalls Try.prog 19 [.pointer (some ⟨b, 0, none⟩), x, .int .u8 sv] H (fun v H' => v = .tuple #[.int .i64 (fillF 12 16 xs).1, .int .i64 (fillF 12 16 xs).2] ∧ Stt [b] H H' [⟨some b, true, ⟨true, 27, (fillC 12 16 xs sv).cells⟩⟩]) := by
  refine acallsW Try.func19 f19_ok (Nat.le_of_ble_eq_true rfl) fun hw => ?_
  have st : Stt [b] H H [] := Stt.start hw
  replace st := st.mine hk rfl (by simp) (by simp)
  have q1 := hb.getD ((1 : Int)).toNat
  have q2 := hb.getD ((2 : Int)).toNat
  have q4 : IntKind.i64.wrap (xs.getD ((4 : Int)).toNat 0) = xs.getD 4 0 := wi _ (by have := hb.getD ((4 : Int)).toNat; omega)
  have q13 : IntKind.u64.wrap (xs.getD ((13 : Int)).toNat 0) = xs.getD 13 0 := by have := hb.getD ((13 : Int)).toNat; rw [w64]; show (xs.getD ((13 : Int)).toNat 0) % _ = xs.getD ((13 : Int)).toNat 0; omega
  unfold f19c
  show AWl _ _ _ _ _
  refine aN rfl rfl (by constructor) ?_
  refine aN rfl rfl (by constructor) ?_
  refine sE ?_
  show AWl _ _ _ _ _
  refine aMovV x rfl ?_
  refine aLen (st.slcX hx ha) rfl ?_
  refine aN rfl rfl (by constructor) ?_
  refine sE ?_
  show AWl _ _ _ _ _
  refine aN rfl rfl (by constructor) ?_
  refine aN rfl rfl (by constructor) ?_
  refine aN rfl rfl (by constructor) ?_
  refine aLd st 0 rfl rfl rfl (by constructor) ?_
  refine sE ?_
  show AWl _ _ _ _ _
  refine aBinV (.bool false) rfl rfl rfl ?_
  refine aN rfl rfl (by constructor) ?_
  refine sE ?_
  show AW _ (.cond _ _ _) _ _ _
  refine cF' rfl ?_
  show AWl _ _ _ _ _
  refine aBinV (.bool false) rfl rfl rfl ?_
  refine aN rfl rfl (by constructor) ?_
  refine sE ?_
  show AW _ (.cond _ _ _) _ _ _
  refine cF' rfl ?_
  show AWl _ _ _ _ _
  refine aBinV (.bool false) rfl rfl rfl ?_
  refine aN rfl rfl (by constructor) ?_
  refine sE ?_
  show AW _ (.cond _ _ _) _ _ _
  refine cF' rfl ?_
  show AWl _ _ _ _ _
  refine aBinV (.bool false) rfl rfl rfl ?_
  refine aN rfl rfl (by constructor) ?_
  refine sE ?_
  show AW _ (.cond _ _ _) _ _ _
  refine cF' rfl ?_
  show AWl _ _ _ _ _
  refine aBinV (.bool false) rfl rfl rfl ?_
  refine aN rfl rfl (by constructor) ?_
  refine sE ?_
  show AW _ (.cond _ _ _) _ _ _
  refine cF' rfl ?_
  show AWl _ _ _ _ _
  refine aBinV (.bool false) rfl rfl rfl ?_
  refine aN rfl rfl (by constructor) ?_
  refine sE ?_
  show AW _ (.cond _ _ _) _ _ _
  refine cF' rfl ?_
  show AWl _ _ _ _ _
  refine aBinV (.bool false) rfl rfl rfl ?_
  refine aN rfl rfl (by constructor) ?_
  refine sE ?_
  show AW _ (.cond _ _ _) _ _ _
  refine cF' rfl ?_
  show AWl _ _ _ _ _
  refine aBinV (.bool false) rfl rfl rfl ?_
  refine aN rfl rfl (by constructor) ?_
  refine sE ?_
  show AW _ (.cond _ _ _) _ _ _
  refine cF' rfl ?_
  show AWl _ _ _ _ _
  refine aBinV (.bool false) rfl rfl rfl ?_
  refine aN rfl rfl (by constructor) ?_
  refine sE ?_
  show AW _ (.cond _ _ _) _ _ _
  refine cF' rfl ?_
  show AWl _ _ _ _ _
  refine aBinV (.bool false) rfl rfl rfl ?_
  refine aN rfl rfl (by constructor) ?_
  refine sE ?_
  show AW _ (.cond _ _ _) _ _ _
  refine cF' rfl ?_
  show AWl _ _ _ _ _
  refine aBinV (.bool true) rfl rfl rfl ?_
  refine aN rfl rfl (by constructor) ?_
  refine sE ?_
  show AW _ (.cond _ _ _) _ _ _
  refine cT rfl ?_
  show AWl _ _ _ _ _
  refine aN rfl rfl (by constructor) ?_
  refine aMovV x rfl ?_
  refine aC (blocks12_16 (st.get (j := 0) rfl) (st.slcX hx ha) hb hlen ha) fun v149 H1 ⟨hv, st1⟩ => ?_
  subst hv
  replace st := st.callX 0 rfl st1 rfl
  clear st1
  refine aN rfl rfl (by constructor) ?_
  refine aN rfl rfl (by constructor) ?_
  refine aN rfl rfl (by constructor) ?_
  refine aN rfl rfl (by constructor) ?_
  refine sE ?_
  refine ⟨_, out2 (r_tmp rfl (by constructor)) (r_tmp rfl (by constructor)) ⟨rfl, rfl⟩, ?_⟩
  exact ⟨rfl, st.pick 0 rfl⟩
theorem fill_call {H : Hp} {b : Nat} {xs : List Int} {x : Value} {sv op : Int} (ho : op ∈ codes) (hk : H.m b = some ⟨true, 27, [.int .u8 (kindL op), .bool false, .int .u64 0, .int .u64 0, .int .i64 0, .bool false, .int .u8 0, .bool false, .bool false, .int .u8 0, .int .u8 0, .bool false, .int .u8 0, .int .u8 0, .bool false]⟩) (hx : Sl H 1 (useL op).length (xs.map (Value.int .u8)) x) (hb : ByteL xs) (hlen : xs.length = (useL op).length) (ha : Apart b x) :
    ACalls Try.prog 19 [.pointer (some ⟨b, 0, none⟩), x, .int .u8 sv] H (fun v H' => v = .tuple #[.int .i64 (fillF (kindL op) (useL op).length xs).1, .int .i64 (fillF (kindL op) (useL op).length xs).2] ∧ Stt [b] H H' [⟨some b, true, ⟨true, 27, [.int .u8 (fillC (kindL op) (useL op).length xs sv).kind, .bool (fillC (kindL op) (useL op).length xs sv).long, .int .u64 (fillC (kindL op) (useL op).length xs sv).lba, .int .u64 (fillC (kindL op) (useL op).length xs sv).blocks, .int .i64 (fillC (kindL op) (useL op).length xs sv).alloc, .bool (fillC (kindL op) (useL op).length xs sv).fua, .int .u8 (fillC (kindL op) (useL op).length xs sv).prot, .bool (fillC (kindL op) (useL op).length xs sv).unmap, .bool (fillC (kindL op) (useL op).length xs sv).evpd, .int .u8 (fillC (kindL op) (useL op).length xs sv).page, .int .u8 (fillC (kindL op) (useL op).length xs sv).control, .bool (fillC (kindL op) (useL op).length xs sv).save, .int .u8 (fillC (kindL op) (useL op).length xs sv).service, .int .u8 (fillC (kindL op) (useL op).length xs sv).type, .bool (fillC (kindL op) (useL op).length xs sv).bytes]⟩⟩]) := by
  simp only [codes, List.mem_cons, List.not_mem_nil, or_false] at ho
  rcases ho with h | h | h | h | h | h | h | h | h | h | h | h | h | h | h | h | h | h | h | h | h | h | h | h | h | h | h
  · subst h; exact fill1_6 hk hx hb hlen ha trivial
  · subst h; exact fill2_6 hk hx hb hlen ha trivial
  · subst h; exact fill7_6 hk hx hb hlen ha trivial
  · subst h; exact fill8_6 hk hx hb hlen ha trivial
  · subst h; exact fill3_6 hk hx hb hlen ha trivial
  · subst h; exact fill4_6 hk hx hb hlen ha trivial
  · subst h; exact fill5_6 hk hx hb hlen ha trivial
  · subst h; exact fill6_10 hk hx hb hlen ha trivial
  · subst h; exact fill7_10 hk hx hb hlen ha trivial
  · subst h; exact fill8_10 hk hx hb hlen ha trivial
  · subst h; exact fill9_10 hk hx hb hlen ha trivial
  · subst h; exact fill10_10 hk hx hb hlen ha trivial
  · subst h; exact fill11_10 hk hx hb hlen ha trivial
  · subst h; exact fill12_10 hk hx hb hlen ha trivial
  · subst h; exact fill13_10 hk hx hb hlen ha trivial
  · subst h; exact fill4_10 hk hx hb hlen ha trivial
  · subst h; exact fill5_10 hk hx hb hlen ha trivial
  · subst h; exact fill15_10 hk hx hb hlen ha trivial
  · subst h; exact fill16_10 hk hx hb hlen ha trivial
  · subst h; exact fill18_16 hk hx hb hlen ha trivial
  · subst h; exact fill7_16 hk hx hb hlen ha trivial
  · subst h; exact fill8_16 hk hx hb hlen ha trivial
  · subst h; exact fill14_16 hk hx hb hlen ha trivial
  · subst h; exact fill11_16 hk hx hb hlen ha trivial
  · subst h; exact fill12_16 hk hx hb hlen ha trivial
  · subst h; exact fill6_16 hk hx hb hlen ha trivial
  · subst h; exact fill17_12 hk hx hb hlen ha trivial

end Go.Proofs.Ytlbmfcbcmfcjbaa.Abs
