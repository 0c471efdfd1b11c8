/- Commands on blocks, as the document has them. -/
import Derived.Test.YtlbmfcbcmfcjbaaMX
import Derived.Test.YtlbmfcbcmfcjbaaP4
set_option linter.unusedVariables false
set_option linter.unusedSimpArgs false
set_option maxRecDepth 100000
namespace Go.Proofs.Ytlbmfcbcmfcjbaa.Abs
open Go Go.RowKit
theorem one_lt {a : Int} (h : 0 ≤ a ∧ a ≤ 255) (hq : a < 2) : (a == 1) = (a % 2 == 1) := by
  rcases (by omega : a = 0 ∨ a = 1) with h | h <;> subst h <;> rfl
theorem d16_lt {a : Int} (h : 0 ≤ a ∧ a ≤ 255) (hq : a < 32) : a / 16 % 2 = a / 16 := by omega
theorem m16_lt {a : Int} (h : 0 ≤ a ∧ a ≤ 255) (hq : a < 16) : a % 16 = a := by omega
theorem lba_lt {xs : List Int} (hb : ByteL xs) (hl : 4 ≤ xs.length) (hq : xs.getD 1 0 < 32) : rgetV xs 1 3 % 2097152 = rgetV xs 1 3 := by
  have h := rgetV_in (xs := xs) 1 3 (by omega) (by omega)
  have q1 := hb.getD 1
  have q2 := hb.getD 2
  have q3 := hb.getD 3
  have e : (xs.drop 1).take 3 = [xs.getD 1 0, xs.getD 2 0, xs.getD 3 0] := by
    rw [List.drop_eq_getElem_cons (by omega), List.drop_eq_getElem_cons (by omega), List.drop_eq_getElem_cons (by omega)]
    simp only [List.take_succ_cons, List.take_zero]
    simp [List.getD, List.getElem?_eq_getElem (show 1 < xs.length by omega), List.getElem?_eq_getElem (show 2 < xs.length by omega), List.getElem?_eq_getElem (show 3 < xs.length by omega)]
  rw [show rgetV xs 1 3 = rgetV xs ((1 : Nat) : Int) ((3 : Nat) : Int) from rfl, h, e]
  simp only [beN, List.foldl_cons, List.foldl_nil]
  omega
theorem onb7_6 {H : Hp} {xs : List Int} {x : Value} (hx : Sl H 1 6 (xs.map (Value.int .u8)) x) (hb : ByteL xs) (hlen : xs.length = 6) (hq : xs.getD 1 0 < 32) :
    ACalls Try.prog 29 [.agg #[.int .u8 7, .bool false, .int .u64 0, .int .u64 0, .int .i64 0, .bool false, .int .u8 0, .bool false, .bool false, .int .u8 0, .int .u8 0, .bool false, .int .u8 0, .int .u8 0, .bool false], x] H (fun v H' => v = .tuple #[.agg #[.int .u8 (blocksC 7 6 xs).kind, .bool (blocksC 7 6 xs).long, .int .u64 (blocksC 7 6 xs).lba, .int .u64 (blocksC 7 6 xs).blocks, .int .i64 (blocksC 7 6 xs).alloc, .bool (blocksC 7 6 xs).fua, .int .u8 (blocksC 7 6 xs).prot, .bool (blocksC 7 6 xs).unmap, .bool (blocksC 7 6 xs).evpd, .int .u8 (blocksC 7 6 xs).page, .int .u8 (blocksC 7 6 xs).control, .bool (blocksC 7 6 xs).save, .int .u8 (blocksC 7 6 xs).service, .int .u8 (blocksC 7 6 xs).type, .bool (blocksC 7 6 xs).bytes], .int .i64 (blocksF 7 6 xs).1, .int .i64 (blocksF 7 6 xs).2] ∧ Stt [] H H' []) := by
  refine acallsW Try.func29 f29_ok (Nat.le_of_ble_eq_true rfl) fun hw => ?_
  have st : Stt [] H H [] := Stt.start hw
  have q1 := hb.getD ((1 : Int)).toNat
  have q2 := hb.getD ((2 : Int)).toNat
  have q4 : IntKind.i64.wrap (xs.getD ((4 : Int)).toNat 0) = xs.getD 4 0 := wi _ (by have := hb.getD ((4 : Int)).toNat; omega)
  have q13 : IntKind.u64.wrap (xs.getD ((4 : Int)).toNat 0) = xs.getD 4 0 := by have := hb.getD ((4 : Int)).toNat; rw [w64]; show (xs.getD ((4 : Int)).toNat 0) % _ = xs.getD ((4 : Int)).toNat 0; omega
  unfold f29c
  show AWl _ _ _ _ _
  refine aBoxN st rfl rfl (by repeat constructor) rfl fun b2 H1 st => ?_
  refine aNewP st rfl rfl (by repeat constructor) fun b4 H2 st => ?_
  refine aN rfl rfl (by constructor) ?_
  refine aN rfl rfl (by constructor) ?_
  refine sE ?_
  show AWl _ _ _ _ _
  refine aN rfl rfl (by constructor) ?_
  refine aLd st 1 rfl rfl rfl (by constructor) ?_
  refine aConvV (n := 7) (n' := 7) rfl (by decide) ?_
  refine aN rfl rfl (by constructor) ?_
  refine sE ?_
  show AWl _ _ _ _ _
  refine aN rfl rfl (by constructor) ?_
  refine sE ?_
  show AWl _ _ _ _ _
  refine aMovV x rfl ?_
  refine aLen (st.slc hx) rfl ?_
  refine sE ?_
  show AWl _ _ _ _ _
  refine aBinV (.bool true) rfl rfl rfl ?_
  refine aN rfl rfl (by constructor) ?_
  refine sE ?_
  show AW _ (.cond _ _ _) _ _ _
  refine cT rfl ?_
  show AWl _ _ _ _ _
  refine aMovV x rfl ?_
  refine aC (rnum_call (by rw [hlen]; exact (st.slc hx)) hb (by omega) (by decide)) fun v23 H3 ⟨hv, st1⟩ => ?_
  subst hv
  replace st := st.call st1 rfl
  clear st1
  refine aN rfl rfl (by constructor) ?_
  refine aSt st 1 rfl rfl rfl rfl (by first | rfl | simp [cellsOf, *]) (by first | decide | simp [*]) (by repeat constructor) fun H4 st => ?_
  refine sE ?_
  show AWl _ _ _ _ _
  refine aMovV x rfl ?_
  refine aIxBK (st.slc hx) rfl rfl (by first | decide | omega) fun b26 o26 g26 => ?_
  refine aLdG rfl (g26 _ (st.slc hx)) ?_
  refine aN rfl rfl (by constructor) ?_
  refine aN rfl rfl (by constructor) ?_
  refine aSt st 1 rfl rfl rfl rfl (by first | rfl | simp [cellsOf, *]) (by first | decide | simp [*]) (by repeat constructor) fun H5 st => ?_
  refine sE ?_
  show AWl _ _ _ _ _
  refine aMovV x rfl ?_
  refine aIxBK (st.slc hx) rfl rfl (by first | decide | omega) fun b31 o31 g31 => ?_
  refine aLdG rfl (g31 _ (st.slc hx)) ?_
  refine aN rfl rfl (by constructor) ?_
  refine sE ?_
  show AW _ (.cond _ _ _) _ _ _
  refine cC' rfl (fun h6 => ?_) (fun h6 => ?_)
  · show AWl _ _ _ _ _
    refine aN rfl rfl (by constructor) ?_
    refine aSt st 1 rfl rfl rfl rfl (by first | rfl | simp [cellsOf, *]) (by first | decide | simp [*]) (by repeat constructor) fun H7 st => ?_
    refine sE ?_
    show AWl _ _ _ _ _
    refine aLdA st 1 rfl rfl (by first | decide | simp [*]) (by repeat constructor) ?_
    refine aSt st 0 rfl rfl rfl rfl (by first | rfl | simp [cellsOf, *]) (by first | decide | simp [*]) (by repeat constructor) fun H8 st => ?_
    refine aN rfl rfl (by constructor) ?_
    refine aN rfl rfl (by constructor) ?_
    refine sE ?_
    refine ⟨_, out3 (r_cellA st 0 rfl rfl (by first | decide | simp [*]) (by repeat constructor)) (r_tmp rfl (by constructor)) (r_tmp rfl (by constructor)) ⟨rfl, rfl, rfl⟩, ?_⟩
    try simp only [b_quo q1 (show (0 : Int) < 32 by decide), b_quorem 2 q1 (show (0 : Int) < 8 by decide), b_quorem 2 q1 (show (0 : Int) < 2 by decide), b_quo q1 (show (0 : Int) < 16 by decide), b_rem 2 q1, b_quo q2 (show (0 : Int) < 64 by decide), b_rem 64 q2, q4, q13] at h6
    try simp only [b_quo q1 (show (0 : Int) < 32 by decide), b_quorem 2 q1 (show (0 : Int) < 8 by decide), b_quorem 2 q1 (show (0 : Int) < 2 by decide), b_quo q1 (show (0 : Int) < 16 by decide), b_rem 2 q1, b_quo q2 (show (0 : Int) < 64 by decide), b_rem 64 q2, q4, q13]
    have hz : xs.getD 4 0 = 0 := by simpa using h6
    have e2 : (spanM 6 xs).2.1 = 256 := by show (if xs.getD 4 0 = 0 then 256 else xs.getD 4 0) = _; rw [if_pos hz]
    have e1 : (spanM 6 xs).1 = rgetV xs 1 3 := lba_lt hb (by omega) hq
    have hF : blocksF 7 6 xs = (-1, 0) := if_neg (fun hc => by have h1 := hc.2; rw [e2] at h1; have := hb.getD 4; omega)
    refine ⟨?_, st.drop⟩
    rw [hF]
    show _ = Value.tuple #[.agg #[.int .u8 7, .bool false, .int .u64 (spanM 6 xs).1, .int .u64 (spanM 6 xs).2.1, .int .i64 0, .bool false, .int .u8 0, .bool false, .bool false, .int .u8 0, .int .u8 0, .bool false, .int .u8 0, .int .u8 0, .bool false], .int .i64 (-1), .int .i64 0]
    rw [e1, e2]
  · show AWl _ _ _ _ _
    refine aLdA st 1 rfl rfl (by first | decide | simp [*]) (by repeat constructor) ?_
    refine aSt st 0 rfl rfl rfl rfl (by first | rfl | simp [cellsOf, *]) (by first | decide | simp [*]) (by repeat constructor) fun H9 st => ?_
    refine aN rfl rfl (by constructor) ?_
    refine aN rfl rfl (by constructor) ?_
    refine sE ?_
    refine ⟨_, out3 (r_cellA st 0 rfl rfl (by first | decide | simp [*]) (by repeat constructor)) (r_tmp rfl (by constructor)) (r_tmp rfl (by constructor)) ⟨rfl, rfl, rfl⟩, ?_⟩
    try simp only [b_quo q1 (show (0 : Int) < 32 by decide), b_quorem 2 q1 (show (0 : Int) < 8 by decide), b_quorem 2 q1 (show (0 : Int) < 2 by decide), b_quo q1 (show (0 : Int) < 16 by decide), b_rem 2 q1, b_quo q2 (show (0 : Int) < 64 by decide), b_rem 64 q2, q4, q13] at h6
    try simp only [b_quo q1 (show (0 : Int) < 32 by decide), b_quorem 2 q1 (show (0 : Int) < 8 by decide), b_quorem 2 q1 (show (0 : Int) < 2 by decide), b_quo q1 (show (0 : Int) < 16 by decide), b_rem 2 q1, b_quo q2 (show (0 : Int) < 64 by decide), b_rem 64 q2, q4, q13]
    have hz : ¬ xs.getD 4 0 = 0 := by simpa using h6
    have e2 : (spanM 6 xs).2.1 = xs.getD 4 0 := by show (if xs.getD 4 0 = 0 then 256 else xs.getD 4 0) = _; rw [if_neg hz]
    have e1 : (spanM 6 xs).1 = rgetV xs 1 3 := lba_lt hb (by omega) hq
    have hF : blocksF 7 6 xs = (-1, 0) := if_neg (fun hc => by have h1 := hc.2; rw [e2] at h1; have := hb.getD 4; omega)
    refine ⟨?_, st.drop⟩
    rw [hF]
    show _ = Value.tuple #[.agg #[.int .u8 7, .bool false, .int .u64 (spanM 6 xs).1, .int .u64 (spanM 6 xs).2.1, .int .i64 0, .bool false, .int .u8 0, .bool false, .bool false, .int .u8 0, .int .u8 0, .bool false, .int .u8 0, .int .u8 0, .bool false], .int .i64 (-1), .int .i64 0]
    rw [e1, e2]
theorem onb7_10 {H : Hp} {xs : List Int} {x : Value} (hx : Sl H 1 10 (xs.map (Value.int .u8)) x) (hb : ByteL xs) (hlen : xs.length = 10) (hq : True) :
    ACalls Try.prog 29 [.agg #[.int .u8 7, .bool false, .int .u64 0, .int .u64 0, .int .i64 0, .bool false, .int .u8 0, .bool false, .bool false, .int .u8 0, .int .u8 0, .bool false, .int .u8 0, .int .u8 0, .bool false], x] H (fun v H' => v = .tuple #[.agg #[.int .u8 (blocksC 7 10 xs).kind, .bool (blocksC 7 10 xs).long, .int .u64 (blocksC 7 10 xs).lba, .int .u64 (blocksC 7 10 xs).blocks, .int .i64 (blocksC 7 10 xs).alloc, .bool (blocksC 7 10 xs).fua, .int .u8 (blocksC 7 10 xs).prot, .bool (blocksC 7 10 xs).unmap, .bool (blocksC 7 10 xs).evpd, .int .u8 (blocksC 7 10 xs).page, .int .u8 (blocksC 7 10 xs).control, .bool (blocksC 7 10 xs).save, .int .u8 (blocksC 7 10 xs).service, .int .u8 (blocksC 7 10 xs).type, .bool (blocksC 7 10 xs).bytes], .int .i64 (blocksF 7 10 xs).1, .int .i64 (blocksF 7 10 xs).2] ∧ Stt [] H H' []) := by
  refine acallsW Try.func29 f29_ok (Nat.le_of_ble_eq_true rfl) fun hw => ?_
  have st : Stt [] H H [] := Stt.start hw
  have q1 := hb.getD ((1 : Int)).toNat
  have q2 := hb.getD ((2 : Int)).toNat
  have q4 : IntKind.i64.wrap (xs.getD ((4 : Int)).toNat 0) = xs.getD 4 0 := wi _ (by have := hb.getD ((4 : Int)).toNat; omega)
  have q13 : IntKind.u64.wrap (xs.getD ((4 : Int)).toNat 0) = xs.getD 4 0 := by have := hb.getD ((4 : Int)).toNat; rw [w64]; show (xs.getD ((4 : Int)).toNat 0) % _ = xs.getD ((4 : Int)).toNat 0; omega
  unfold f29c
  show AWl _ _ _ _ _
  refine aBoxN st rfl rfl (by repeat constructor) rfl fun b2 H1 st => ?_
  refine aNewP st rfl rfl (by repeat constructor) fun b4 H2 st => ?_
  refine aN rfl rfl (by constructor) ?_
  refine aN rfl rfl (by constructor) ?_
  refine sE ?_
  show AWl _ _ _ _ _
  refine aN rfl rfl (by constructor) ?_
  refine aLd st 1 rfl rfl rfl (by constructor) ?_
  refine aConvV (n := 7) (n' := 7) rfl (by decide) ?_
  refine aN rfl rfl (by constructor) ?_
  refine sE ?_
  show AWl _ _ _ _ _
  refine aN rfl rfl (by constructor) ?_
  refine sE ?_
  show AWl _ _ _ _ _
  refine aMovV x rfl ?_
  refine aLen (st.slc hx) rfl ?_
  refine sE ?_
  show AWl _ _ _ _ _
  refine aBinV (.bool false) rfl rfl rfl ?_
  refine aN rfl rfl (by constructor) ?_
  refine sE ?_
  show AW _ (.cond _ _ _) _ _ _
  refine cF' rfl ?_
  show AWl _ _ _ _ _
  refine aBinV (.bool true) rfl rfl rfl ?_
  refine aN rfl rfl (by constructor) ?_
  refine sE ?_
  show AW _ (.cond _ _ _) _ _ _
  refine cT rfl ?_
  show AWl _ _ _ _ _
  refine aN rfl rfl (by constructor) ?_
  refine sE ?_
  show AWl _ _ _ _ _
  refine aMovV x rfl ?_
  refine aC (rnum_call (by rw [hlen]; exact (st.slc hx)) hb (by omega) (by decide)) fun v39 H3 ⟨hv, st1⟩ => ?_
  subst hv
  replace st := st.call st1 rfl
  clear st1
  refine aN rfl rfl (by constructor) ?_
  refine aSt st 1 rfl rfl rfl rfl (by first | rfl | simp [cellsOf, *]) (by first | decide | simp [*]) (by repeat constructor) fun H4 st => ?_
  refine sE ?_
  show AWl _ _ _ _ _
  refine aMovV x rfl ?_
  refine aC (rnum_call (by rw [hlen]; exact (st.slc hx)) hb (by omega) (by decide)) fun v42 H5 ⟨hv, st1⟩ => ?_
  subst hv
  replace st := st.call st1 rfl
  clear st1
  refine aN rfl rfl (by constructor) ?_
  refine aSt st 1 rfl rfl rfl rfl (by first | rfl | simp [cellsOf, *]) (by first | decide | simp [*]) (by repeat constructor) fun H6 st => ?_
  refine sE ?_
  show AWl _ _ _ _ _
  refine aN rfl rfl (by constructor) ?_
  refine aBinV (.bool true) rfl rfl rfl ?_
  refine sE ?_
  show AW _ (.cond _ _ _) _ _ _
  refine cT rfl ?_
  show AWl _ _ _ _ _
  refine aMovV x rfl ?_
  refine aIxBK (st.slc hx) rfl rfl (by first | decide | omega) fun b47 o47 g47 => ?_
  refine aLdG rfl (g47 _ (st.slc hx)) ?_
  refine aN rfl rfl (by constructor) ?_
  refine aN rfl rfl (by constructor) ?_
  refine aSt st 1 rfl rfl rfl rfl (by first | rfl | simp [cellsOf, *]) (by first | decide | simp [*]) (by repeat constructor) fun H7 st => ?_
  refine sE ?_
  show AWl _ _ _ _ _
  refine aN rfl rfl (by constructor) ?_
  refine aBinV (.bool true) rfl rfl rfl ?_
  refine aN rfl rfl (by constructor) ?_
  refine gF rfl (by decide) ?_
  refine gF rfl (by decide) ?_
  refine aN rfl rfl (by constructor) ?_
  refine sE ?_
  show AW _ (.cond _ _ _) _ _ _
  refine cT rfl ?_
  show AWl _ _ _ _ _
  refine aMovV x rfl ?_
  refine aIxBK (st.slc hx) rfl rfl (by first | decide | omega) fun b58 o58 g58 => ?_
  refine aLdG rfl (g58 _ (st.slc hx)) ?_
  refine aN rfl rfl (by constructor) ?_
  refine aN rfl rfl (by constructor) ?_
  refine aN rfl rfl (by constructor) ?_
  refine aN rfl rfl (by constructor) ?_
  refine aSt st 1 rfl rfl rfl rfl (by first | rfl | simp [cellsOf, *]) (by first | decide | simp [*]) (by repeat constructor) fun H8 st => ?_
  refine sE ?_
  show AWl _ _ _ _ _
  refine aN rfl rfl (by constructor) ?_
  refine aBinV (.bool false) rfl rfl rfl ?_
  refine sE ?_
  show AW _ (.cond _ _ _) _ _ _
  refine cF' rfl ?_
  show AWl _ _ _ _ _
  refine aN rfl rfl (by constructor) ?_
  refine aBinV (.bool false) rfl rfl rfl ?_
  refine sE ?_
  show AW _ (.cond _ _ _) _ _ _
  refine cF' rfl ?_
  show AWl _ _ _ _ _
  refine aN rfl rfl (by constructor) ?_
  refine aBinV (.bool true) rfl rfl rfl ?_
  refine aN rfl rfl (by constructor) ?_
  refine gT rfl ?_
  refine aN rfl rfl (by constructor) ?_
  refine gT rfl ?_
  refine aLd st 1 rfl rfl rfl (by constructor) ?_
  refine gT rfl ?_
  refine aN rfl rfl (by constructor) ?_
  refine aN rfl rfl (by constructor) ?_
  refine sE ?_
  show AW _ (.cond _ _ _) _ _ _
  refine cC' rfl (fun h9 => ?_) (fun h9 => ?_)
  · show AWl _ _ _ _ _
    refine aLdA st 1 rfl rfl (by first | decide | simp [*]) (by repeat constructor) ?_
    refine aN rfl rfl (by constructor) ?_
    refine aSt st 0 rfl rfl rfl rfl (by first | rfl | simp [cellsOf, *]) (by first | decide | simp [*]) (by repeat constructor) fun H10 st => ?_
    refine aN rfl rfl (by constructor) ?_
    refine aN rfl rfl (by constructor) ?_
    refine sE ?_
    refine ⟨_, out3 (r_cellA st 0 rfl rfl (by first | decide | simp [*]) (by repeat constructor)) (r_tmp rfl (by constructor)) (r_tmp rfl (by constructor)) ⟨rfl, rfl, rfl⟩, ?_⟩
    try simp only [b_quo q1 (show (0 : Int) < 32 by decide), b_quorem 2 q1 (show (0 : Int) < 8 by decide), b_quorem 2 q1 (show (0 : Int) < 2 by decide), b_quo q1 (show (0 : Int) < 16 by decide), b_rem 2 q1, b_quo q2 (show (0 : Int) < 64 by decide), b_rem 64 q2, q4, q13] at h9
    try simp only [b_quo q1 (show (0 : Int) < 32 by decide), b_quorem 2 q1 (show (0 : Int) < 8 by decide), b_quorem 2 q1 (show (0 : Int) < 2 by decide), b_quo q1 (show (0 : Int) < 16 by decide), b_rem 2 q1, b_quo q2 (show (0 : Int) < 64 by decide), b_rem 64 q2, q4, q13]
    have hz : ((spanM 10 xs).2.1 > 256) := of_decide_eq_true h9
    have hF : blocksF 7 10 xs = ((spanM 10 xs).2.2, 7) := if_pos ⟨by decide, hz⟩
    exact ⟨by rw [hF]; rfl, st.drop⟩
  · show AWl _ _ _ _ _
    refine aLdA st 1 rfl rfl (by first | decide | simp [*]) (by repeat constructor) ?_
    refine aSt st 0 rfl rfl rfl rfl (by first | rfl | simp [cellsOf, *]) (by first | decide | simp [*]) (by repeat constructor) fun H11 st => ?_
    refine aN rfl rfl (by constructor) ?_
    refine aN rfl rfl (by constructor) ?_
    refine sE ?_
    refine ⟨_, out3 (r_cellA st 0 rfl rfl (by first | decide | simp [*]) (by repeat constructor)) (r_tmp rfl (by constructor)) (r_tmp rfl (by constructor)) ⟨rfl, rfl, rfl⟩, ?_⟩
    try simp only [b_quo q1 (show (0 : Int) < 32 by decide), b_quorem 2 q1 (show (0 : Int) < 8 by decide), b_quorem 2 q1 (show (0 : Int) < 2 by decide), b_quo q1 (show (0 : Int) < 16 by decide), b_rem 2 q1, b_quo q2 (show (0 : Int) < 64 by decide), b_rem 64 q2, q4, q13] at h9
    try simp only [b_quo q1 (show (0 : Int) < 32 by decide), b_quorem 2 q1 (show (0 : Int) < 8 by decide), b_quorem 2 q1 (show (0 : Int) < 2 by decide), b_quo q1 (show (0 : Int) < 16 by decide), b_rem 2 q1, b_quo q2 (show (0 : Int) < 64 by decide), b_rem 64 q2, q4, q13]
    have hz : ¬ ((spanM 10 xs).2.1 > 256) := of_decide_eq_false h9
    have hF : blocksF 7 10 xs = (-1, 0) := if_neg (fun hc => hz hc.2)
    exact ⟨by rw [hF]; rfl, st.drop⟩
theorem onb7_16 {H : Hp} {xs : List Int} {x : Value} (hx : Sl H 1 16 (xs.map (Value.int .u8)) x) (hb : ByteL xs) (hlen : xs.length = 16) (hq : True) :
    ACalls Try.prog 29 [.agg #[.int .u8 7, .bool false, .int .u64 0, .int .u64 0, .int .i64 0, .bool false, .int .u8 0, .bool false, .bool false, .int .u8 0, .int .u8 0, .bool false, .int .u8 0, .int .u8 0, .bool false], x] H (fun v H' => v = .tuple #[.agg #[.int .u8 (blocksC 7 16 xs).kind, .bool (blocksC 7 16 xs).long, .int .u64 (blocksC 7 16 xs).lba, .int .u64 (blocksC 7 16 xs).blocks, .int .i64 (blocksC 7 16 xs).alloc, .bool (blocksC 7 16 xs).fua, .int .u8 (blocksC 7 16 xs).prot, .bool (blocksC 7 16 xs).unmap, .bool (blocksC 7 16 xs).evpd, .int .u8 (blocksC 7 16 xs).page, .int .u8 (blocksC 7 16 xs).control, .bool (blocksC 7 16 xs).save, .int .u8 (blocksC 7 16 xs).service, .int .u8 (blocksC 7 16 xs).type, .bool (blocksC 7 16 xs).bytes], .int .i64 (blocksF 7 16 xs).1, .int .i64 (blocksF 7 16 xs).2] ∧ Stt [] H H' []) := by
  refine acallsW Try.func29 f29_ok (Nat.le_of_ble_eq_true rfl) fun hw => ?_
  have st : Stt [] H H [] := Stt.start hw
  have q1 := hb.getD ((1 : Int)).toNat
  have q2 := hb.getD ((2 : Int)).toNat
  have q4 : IntKind.i64.wrap (xs.getD ((4 : Int)).toNat 0) = xs.getD 4 0 := wi _ (by have := hb.getD ((4 : Int)).toNat; omega)
  have q13 : IntKind.u64.wrap (xs.getD ((4 : Int)).toNat 0) = xs.getD 4 0 := by have := hb.getD ((4 : Int)).toNat; rw [w64]; show (xs.getD ((4 : Int)).toNat 0) % _ = xs.getD ((4 : Int)).toNat 0; omega
  unfold f29c
  show AWl _ _ _ _ _
  refine aBoxN st rfl rfl (by repeat constructor) rfl fun b2 H1 st => ?_
  refine aNewP st rfl rfl (by repeat constructor) fun b4 H2 st => ?_
  refine aN rfl rfl (by constructor) ?_
  refine aN rfl rfl (by constructor) ?_
  refine sE ?_
  show AWl _ _ _ _ _
  refine aN rfl rfl (by constructor) ?_
  refine aLd st 1 rfl rfl rfl (by constructor) ?_
  refine aConvV (n := 7) (n' := 7) rfl (by decide) ?_
  refine aN rfl rfl (by constructor) ?_
  refine sE ?_
  show AWl _ _ _ _ _
  refine aN rfl rfl (by constructor) ?_
  refine sE ?_
  show AWl _ _ _ _ _
  refine aMovV x rfl ?_
  refine aLen (st.slc hx) rfl ?_
  refine sE ?_
  show AWl _ _ _ _ _
  refine aBinV (.bool false) rfl rfl rfl ?_
  refine aN rfl rfl (by constructor) ?_
  refine sE ?_
  show AW _ (.cond _ _ _) _ _ _
  refine cF' rfl ?_
  show AWl _ _ _ _ _
  refine aBinV (.bool false) rfl rfl rfl ?_
  refine aN rfl rfl (by constructor) ?_
  refine sE ?_
  show AW _ (.cond _ _ _) _ _ _
  refine cF' rfl ?_
  show AWl _ _ _ _ _
  refine aN rfl rfl (by constructor) ?_
  refine sE ?_
  show AWl _ _ _ _ _
  refine aMovV x rfl ?_
  refine aC (rnum_call (by rw [hlen]; exact (st.slc hx)) hb (by omega) (by decide)) fun v15 H3 ⟨hv, st1⟩ => ?_
  subst hv
  replace st := st.call st1 rfl
  clear st1
  refine aN rfl rfl (by constructor) ?_
  refine aSt st 1 rfl rfl rfl rfl (by first | rfl | simp [cellsOf, *]) (by first | decide | simp [*]) (by repeat constructor) fun H4 st => ?_
  refine sE ?_
  show AWl _ _ _ _ _
  refine aMovV x rfl ?_
  refine aC (rnum_call (by rw [hlen]; exact (st.slc hx)) hb (by omega) (by decide)) fun v18 H5 ⟨hv, st1⟩ => ?_
  subst hv
  replace st := st.call st1 rfl
  clear st1
  refine aN rfl rfl (by constructor) ?_
  refine aSt st 1 rfl rfl rfl rfl (by first | rfl | simp [cellsOf, *]) (by first | decide | simp [*]) (by repeat constructor) fun H6 st => ?_
  refine sE ?_
  show AWl _ _ _ _ _
  refine aN rfl rfl (by constructor) ?_
  refine aBinV (.bool true) rfl rfl rfl ?_
  refine sE ?_
  show AW _ (.cond _ _ _) _ _ _
  refine cT rfl ?_
  show AWl _ _ _ _ _
  refine aMovV x rfl ?_
  refine aIxBK (st.slc hx) rfl rfl (by first | decide | omega) fun b47 o47 g47 => ?_
  refine aLdG rfl (g47 _ (st.slc hx)) ?_
  refine aN rfl rfl (by constructor) ?_
  refine aN rfl rfl (by constructor) ?_
  refine aSt st 1 rfl rfl rfl rfl (by first | rfl | simp [cellsOf, *]) (by first | decide | simp [*]) (by repeat constructor) fun H7 st => ?_
  refine sE ?_
  show AWl _ _ _ _ _
  refine aN rfl rfl (by constructor) ?_
  refine aBinV (.bool true) rfl rfl rfl ?_
  refine aN rfl rfl (by constructor) ?_
  refine gF rfl (by decide) ?_
  refine gF rfl (by decide) ?_
  refine aN rfl rfl (by constructor) ?_
  refine sE ?_
  show AW _ (.cond _ _ _) _ _ _
  refine cT rfl ?_
  show AWl _ _ _ _ _
  refine aMovV x rfl ?_
  refine aIxBK (st.slc hx) rfl rfl (by first | decide | omega) fun b58 o58 g58 => ?_
  refine aLdG rfl (g58 _ (st.slc hx)) ?_
  refine aN rfl rfl (by constructor) ?_
  refine aN rfl rfl (by constructor) ?_
  refine aN rfl rfl (by constructor) ?_
  refine aN rfl rfl (by constructor) ?_
  refine aSt st 1 rfl rfl rfl rfl (by first | rfl | simp [cellsOf, *]) (by first | decide | simp [*]) (by repeat constructor) fun H8 st => ?_
  refine sE ?_
  show AWl _ _ _ _ _
  refine aN rfl rfl (by constructor) ?_
  refine aBinV (.bool false) rfl rfl rfl ?_
  refine sE ?_
  show AW _ (.cond _ _ _) _ _ _
  refine cF' rfl ?_
  show AWl _ _ _ _ _
  refine aN rfl rfl (by constructor) ?_
  refine aBinV (.bool false) rfl rfl rfl ?_
  refine sE ?_
  show AW _ (.cond _ _ _) _ _ _
  refine cF' rfl ?_
  show AWl _ _ _ _ _
  refine aN rfl rfl (by constructor) ?_
  refine aBinV (.bool true) rfl rfl rfl ?_
  refine aN rfl rfl (by constructor) ?_
  refine gT rfl ?_
  refine aN rfl rfl (by constructor) ?_
  refine gT rfl ?_
  refine aLd st 1 rfl rfl rfl (by constructor) ?_
  refine gT rfl ?_
  refine aN rfl rfl (by constructor) ?_
  refine aN rfl rfl (by constructor) ?_
  refine sE ?_
  show AW _ (.cond _ _ _) _ _ _
  refine cC' rfl (fun h9 => ?_) (fun h9 => ?_)
  · show AWl _ _ _ _ _
    refine aLdA st 1 rfl rfl (by first | decide | simp [*]) (by repeat constructor) ?_
    refine aN rfl rfl (by constructor) ?_
    refine aSt st 0 rfl rfl rfl rfl (by first | rfl | simp [cellsOf, *]) (by first | decide | simp [*]) (by repeat constructor) fun H10 st => ?_
    refine aN rfl rfl (by constructor) ?_
    refine aN rfl rfl (by constructor) ?_
    refine sE ?_
    refine ⟨_, out3 (r_cellA st 0 rfl rfl (by first | decide | simp [*]) (by repeat constructor)) (r_tmp rfl (by constructor)) (r_tmp rfl (by constructor)) ⟨rfl, rfl, rfl⟩, ?_⟩
    try simp only [b_quo q1 (show (0 : Int) < 32 by decide), b_quorem 2 q1 (show (0 : Int) < 8 by decide), b_quorem 2 q1 (show (0 : Int) < 2 by decide), b_quo q1 (show (0 : Int) < 16 by decide), b_rem 2 q1, b_quo q2 (show (0 : Int) < 64 by decide), b_rem 64 q2, q4, q13] at h9
    try simp only [b_quo q1 (show (0 : Int) < 32 by decide), b_quorem 2 q1 (show (0 : Int) < 8 by decide), b_quorem 2 q1 (show (0 : Int) < 2 by decide), b_quo q1 (show (0 : Int) < 16 by decide), b_rem 2 q1, b_quo q2 (show (0 : Int) < 64 by decide), b_rem 64 q2, q4, q13]
    have hz : ((spanM 16 xs).2.1 > 256) := of_decide_eq_true h9
    have hF : blocksF 7 16 xs = ((spanM 16 xs).2.2, 7) := if_pos ⟨by decide, hz⟩
    exact ⟨by rw [hF]; rfl, st.drop⟩
  · show AWl _ _ _ _ _
    refine aLdA st 1 rfl rfl (by first | decide | simp [*]) (by repeat constructor) ?_
    refine aSt st 0 rfl rfl rfl rfl (by first | rfl | simp [cellsOf, *]) (by first | decide | simp [*]) (by repeat constructor) fun H11 st => ?_
    refine aN rfl rfl (by constructor) ?_
    refine aN rfl rfl (by constructor) ?_
    refine sE ?_
    refine ⟨_, out3 (r_cellA st 0 rfl rfl (by first | decide | simp [*]) (by repeat constructor)) (r_tmp rfl (by constructor)) (r_tmp rfl (by constructor)) ⟨rfl, rfl, rfl⟩, ?_⟩
    try simp only [b_quo q1 (show (0 : Int) < 32 by decide), b_quorem 2 q1 (show (0 : Int) < 8 by decide), b_quorem 2 q1 (show (0 : Int) < 2 by decide), b_quo q1 (show (0 : Int) < 16 by decide), b_rem 2 q1, b_quo q2 (show (0 : Int) < 64 by decide), b_rem 64 q2, q4, q13] at h9
    try simp only [b_quo q1 (show (0 : Int) < 32 by decide), b_quorem 2 q1 (show (0 : Int) < 8 by decide), b_quorem 2 q1 (show (0 : Int) < 2 by decide), b_quo q1 (show (0 : Int) < 16 by decide), b_rem 2 q1, b_quo q2 (show (0 : Int) < 64 by decide), b_rem 64 q2, q4, q13]
    have hz : ¬ ((spanM 16 xs).2.1 > 256) := of_decide_eq_false h9
    have hF : blocksF 7 16 xs = (-1, 0) := if_neg (fun hc => hz hc.2)
    exact ⟨by rw [hF]; rfl, st.drop⟩
theorem onb8_6 {H : Hp} {xs : List Int} {x : Value} (hx : Sl H 1 6 (xs.map (Value.int .u8)) x) (hb : ByteL xs) (hlen : xs.length = 6) (hq : xs.getD 1 0 < 32) :
    ACalls Try.prog 29 [.agg #[.int .u8 8, .bool false, .int .u64 0, .int .u64 0, .int .i64 0, .bool false, .int .u8 0, .bool false, .bool false, .int .u8 0, .int .u8 0, .bool false, .int .u8 0, .int .u8 0, .bool false], x] H (fun v H' => v = .tuple #[.agg #[.int .u8 (blocksC 8 6 xs).kind, .bool (blocksC 8 6 xs).long, .int .u64 (blocksC 8 6 xs).lba, .int .u64 (blocksC 8 6 xs).blocks, .int .i64 (blocksC 8 6 xs).alloc, .bool (blocksC 8 6 xs).fua, .int .u8 (blocksC 8 6 xs).prot, .bool (blocksC 8 6 xs).unmap, .bool (blocksC 8 6 xs).evpd, .int .u8 (blocksC 8 6 xs).page, .int .u8 (blocksC 8 6 xs).control, .bool (blocksC 8 6 xs).save, .int .u8 (blocksC 8 6 xs).service, .int .u8 (blocksC 8 6 xs).type, .bool (blocksC 8 6 xs).bytes], .int .i64 (blocksF 8 6 xs).1, .int .i64 (blocksF 8 6 xs).2] ∧ Stt [] H H' []) := by
  refine acallsW Try.func29 f29_ok (Nat.le_of_ble_eq_true rfl) fun hw => ?_
  have st : Stt [] H H [] := Stt.start hw
  have q1 := hb.getD ((1 : Int)).toNat
  have q2 := hb.getD ((2 : Int)).toNat
  have q4 : IntKind.i64.wrap (xs.getD ((4 : Int)).toNat 0) = xs.getD 4 0 := wi _ (by have := hb.getD ((4 : Int)).toNat; omega)
  have q13 : IntKind.u64.wrap (xs.getD ((4 : Int)).toNat 0) = xs.getD 4 0 := by have := hb.getD ((4 : Int)).toNat; rw [w64]; show (xs.getD ((4 : Int)).toNat 0) % _ = xs.getD ((4 : Int)).toNat 0; omega
  unfold f29c
  show AWl _ _ _ _ _
  refine aBoxN st rfl rfl (by repeat constructor) rfl fun b2 H1 st => ?_
  refine aNewP st rfl rfl (by repeat constructor) fun b4 H2 st => ?_
  refine aN rfl rfl (by constructor) ?_
  refine aN rfl rfl (by constructor) ?_
  refine sE ?_
  show AWl _ _ _ _ _
  refine aN rfl rfl (by constructor) ?_
  refine aLd st 1 rfl rfl rfl (by constructor) ?_
  refine aConvV (n := 8) (n' := 8) rfl (by decide) ?_
  refine aN rfl rfl (by constructor) ?_
  refine sE ?_
  show AWl _ _ _ _ _
  refine aN rfl rfl (by constructor) ?_
  refine sE ?_
  show AWl _ _ _ _ _
  refine aMovV x rfl ?_
  refine aLen (st.slc hx) rfl ?_
  refine sE ?_
  show AWl _ _ _ _ _
  refine aBinV (.bool true) rfl rfl rfl ?_
  refine aN rfl rfl (by constructor) ?_
  refine sE ?_
  show AW _ (.cond _ _ _) _ _ _
  refine cT rfl ?_
  show AWl _ _ _ _ _
  refine aMovV x rfl ?_
  refine aC (rnum_call (by rw [hlen]; exact (st.slc hx)) hb (by omega) (by decide)) fun v23 H3 ⟨hv, st1⟩ => ?_
  subst hv
  replace st := st.call st1 rfl
  clear st1
  refine aN rfl rfl (by constructor) ?_
  refine aSt st 1 rfl rfl rfl rfl (by first | rfl | simp [cellsOf, *]) (by first | decide | simp [*]) (by repeat constructor) fun H4 st => ?_
  refine sE ?_
  show AWl _ _ _ _ _
  refine aMovV x rfl ?_
  refine aIxBK (st.slc hx) rfl rfl (by first | decide | omega) fun b26 o26 g26 => ?_
  refine aLdG rfl (g26 _ (st.slc hx)) ?_
  refine aN rfl rfl (by constructor) ?_
  refine aN rfl rfl (by constructor) ?_
  refine aSt st 1 rfl rfl rfl rfl (by first | rfl | simp [cellsOf, *]) (by first | decide | simp [*]) (by repeat constructor) fun H5 st => ?_
  refine sE ?_
  show AWl _ _ _ _ _
  refine aMovV x rfl ?_
  refine aIxBK (st.slc hx) rfl rfl (by first | decide | omega) fun b31 o31 g31 => ?_
  refine aLdG rfl (g31 _ (st.slc hx)) ?_
  refine aN rfl rfl (by constructor) ?_
  refine sE ?_
  show AW _ (.cond _ _ _) _ _ _
  refine cC' rfl (fun h6 => ?_) (fun h6 => ?_)
  · show AWl _ _ _ _ _
    refine aN rfl rfl (by constructor) ?_
    refine aSt st 1 rfl rfl rfl rfl (by first | rfl | simp [cellsOf, *]) (by first | decide | simp [*]) (by repeat constructor) fun H7 st => ?_
    refine sE ?_
    show AWl _ _ _ _ _
    refine aLdA st 1 rfl rfl (by first | decide | simp [*]) (by repeat constructor) ?_
    refine aSt st 0 rfl rfl rfl rfl (by first | rfl | simp [cellsOf, *]) (by first | decide | simp [*]) (by repeat constructor) fun H8 st => ?_
    refine aN rfl rfl (by constructor) ?_
    refine aN rfl rfl (by constructor) ?_
    refine sE ?_
    refine ⟨_, out3 (r_cellA st 0 rfl rfl (by first | decide | simp [*]) (by repeat constructor)) (r_tmp rfl (by constructor)) (r_tmp rfl (by constructor)) ⟨rfl, rfl, rfl⟩, ?_⟩
    try simp only [b_quo q1 (show (0 : Int) < 32 by decide), b_quorem 2 q1 (show (0 : Int) < 8 by decide), b_quorem 2 q1 (show (0 : Int) < 2 by decide), b_quo q1 (show (0 : Int) < 16 by decide), b_rem 2 q1, b_quo q2 (show (0 : Int) < 64 by decide), b_rem 64 q2, q4, q13] at h6
    try simp only [b_quo q1 (show (0 : Int) < 32 by decide), b_quorem 2 q1 (show (0 : Int) < 8 by decide), b_quorem 2 q1 (show (0 : Int) < 2 by decide), b_quo q1 (show (0 : Int) < 16 by decide), b_rem 2 q1, b_quo q2 (show (0 : Int) < 64 by decide), b_rem 64 q2, q4, q13]
    have hz : xs.getD 4 0 = 0 := by simpa using h6
    have e2 : (spanM 6 xs).2.1 = 256 := by show (if xs.getD 4 0 = 0 then 256 else xs.getD 4 0) = _; rw [if_pos hz]
    have e1 : (spanM 6 xs).1 = rgetV xs 1 3 := lba_lt hb (by omega) hq
    have hF : blocksF 8 6 xs = (-1, 0) := if_neg (fun hc => by have h1 := hc.2; rw [e2] at h1; have := hb.getD 4; omega)
    refine ⟨?_, st.drop⟩
    rw [hF]
    show _ = Value.tuple #[.agg #[.int .u8 8, .bool false, .int .u64 (spanM 6 xs).1, .int .u64 (spanM 6 xs).2.1, .int .i64 0, .bool false, .int .u8 0, .bool false, .bool false, .int .u8 0, .int .u8 0, .bool false, .int .u8 0, .int .u8 0, .bool false], .int .i64 (-1), .int .i64 0]
    rw [e1, e2]
  · show AWl _ _ _ _ _
    refine aLdA st 1 rfl rfl (by first | decide | simp [*]) (by repeat constructor) ?_
    refine aSt st 0 rfl rfl rfl rfl (by first | rfl | simp [cellsOf, *]) (by first | decide | simp [*]) (by repeat constructor) fun H9 st => ?_
    refine aN rfl rfl (by constructor) ?_
    refine aN rfl rfl (by constructor) ?_
    refine sE ?_
    refine ⟨_, out3 (r_cellA st 0 rfl rfl (by first | decide | simp [*]) (by repeat constructor)) (r_tmp rfl (by constructor)) (r_tmp rfl (by constructor)) ⟨rfl, rfl, rfl⟩, ?_⟩
    try simp only [b_quo q1 (show (0 : Int) < 32 by decide), b_quorem 2 q1 (show (0 : Int) < 8 by decide), b_quorem 2 q1 (show (0 : Int) < 2 by decide), b_quo q1 (show (0 : Int) < 16 by decide), b_rem 2 q1, b_quo q2 (show (0 : Int) < 64 by decide), b_rem 64 q2, q4, q13] at h6
    try simp only [b_quo q1 (show (0 : Int) < 32 by decide), b_quorem 2 q1 (show (0 : Int) < 8 by decide), b_quorem 2 q1 (show (0 : Int) < 2 by decide), b_quo q1 (show (0 : Int) < 16 by decide), b_rem 2 q1, b_quo q2 (show (0 : Int) < 64 by decide), b_rem 64 q2, q4, q13]
    have hz : ¬ xs.getD 4 0 = 0 := by simpa using h6
    have e2 : (spanM 6 xs).2.1 = xs.getD 4 0 := by show (if xs.getD 4 0 = 0 then 256 else xs.getD 4 0) = _; rw [if_neg hz]
    have e1 : (spanM 6 xs).1 = rgetV xs 1 3 := lba_lt hb (by omega) hq
    have hF : blocksF 8 6 xs = (-1, 0) := if_neg (fun hc => by have h1 := hc.2; rw [e2] at h1; have := hb.getD 4; omega)
    refine ⟨?_, st.drop⟩
    rw [hF]
    show _ = Value.tuple #[.agg #[.int .u8 8, .bool false, .int .u64 (spanM 6 xs).1, .int .u64 (spanM 6 xs).2.1, .int .i64 0, .bool false, .int .u8 0, .bool false, .bool false, .int .u8 0, .int .u8 0, .bool false, .int .u8 0, .int .u8 0, .bool false], .int .i64 (-1), .int .i64 0]
    rw [e1, e2]
theorem onb8_10 {H : Hp} {xs : List Int} {x : Value} (hx : Sl H 1 10 (xs.map (Value.int .u8)) x) (hb : ByteL xs) (hlen : xs.length = 10) (hq : True) :
    ACalls Try.prog 29 [.agg #[.int .u8 8, .bool false, .int .u64 0, .int .u64 0, .int .i64 0, .bool false, .int .u8 0, .bool false, .bool false, .int .u8 0, .int .u8 0, .bool false, .int .u8 0, .int .u8 0, .bool false], x] H (fun v H' => v = .tuple #[.agg #[.int .u8 (blocksC 8 10 xs).kind, .bool (blocksC 8 10 xs).long, .int .u64 (blocksC 8 10 xs).lba, .int .u64 (blocksC 8 10 xs).blocks, .int .i64 (blocksC 8 10 xs).alloc, .bool (blocksC 8 10 xs).fua, .int .u8 (blocksC 8 10 xs).prot, .bool (blocksC 8 10 xs).unmap, .bool (blocksC 8 10 xs).evpd, .int .u8 (blocksC 8 10 xs).page, .int .u8 (blocksC 8 10 xs).control, .bool (blocksC 8 10 xs).save, .int .u8 (blocksC 8 10 xs).service, .int .u8 (blocksC 8 10 xs).type, .bool (blocksC 8 10 xs).bytes], .int .i64 (blocksF 8 10 xs).1, .int .i64 (blocksF 8 10 xs).2] ∧ Stt [] H H' []) := by
  refine acallsW Try.func29 f29_ok (Nat.le_of_ble_eq_true rfl) fun hw => ?_
  have st : Stt [] H H [] := Stt.start hw
  have q1 := hb.getD ((1 : Int)).toNat
  have q2 := hb.getD ((2 : Int)).toNat
  have q4 : IntKind.i64.wrap (xs.getD ((4 : Int)).toNat 0) = xs.getD 4 0 := wi _ (by have := hb.getD ((4 : Int)).toNat; omega)
  have q13 : IntKind.u64.wrap (xs.getD ((4 : Int)).toNat 0) = xs.getD 4 0 := by have := hb.getD ((4 : Int)).toNat; rw [w64]; show (xs.getD ((4 : Int)).toNat 0) % _ = xs.getD ((4 : Int)).toNat 0; omega
  unfold f29c
  show AWl _ _ _ _ _
  refine aBoxN st rfl rfl (by repeat constructor) rfl fun b2 H1 st => ?_
  refine aNewP st rfl rfl (by repeat constructor) fun b4 H2 st => ?_
  refine aN rfl rfl (by constructor) ?_
  refine aN rfl rfl (by constructor) ?_
  refine sE ?_
  show AWl _ _ _ _ _
  refine aN rfl rfl (by constructor) ?_
  refine aLd st 1 rfl rfl rfl (by constructor) ?_
  refine aConvV (n := 8) (n' := 8) rfl (by decide) ?_
  refine aN rfl rfl (by constructor) ?_
  refine sE ?_
  show AWl _ _ _ _ _
  refine aN rfl rfl (by constructor) ?_
  refine sE ?_
  show AWl _ _ _ _ _
  refine aMovV x rfl ?_
  refine aLen (st.slc hx) rfl ?_
  refine sE ?_
  show AWl _ _ _ _ _
  refine aBinV (.bool false) rfl rfl rfl ?_
  refine aN rfl rfl (by constructor) ?_
  refine sE ?_
  show AW _ (.cond _ _ _) _ _ _
  refine cF' rfl ?_
  show AWl _ _ _ _ _
  refine aBinV (.bool true) rfl rfl rfl ?_
  refine aN rfl rfl (by constructor) ?_
  refine sE ?_
  show AW _ (.cond _ _ _) _ _ _
  refine cT rfl ?_
  show AWl _ _ _ _ _
  refine aN rfl rfl (by constructor) ?_
  refine sE ?_
  show AWl _ _ _ _ _
  refine aMovV x rfl ?_
  refine aC (rnum_call (by rw [hlen]; exact (st.slc hx)) hb (by omega) (by decide)) fun v39 H3 ⟨hv, st1⟩ => ?_
  subst hv
  replace st := st.call st1 rfl
  clear st1
  refine aN rfl rfl (by constructor) ?_
  refine aSt st 1 rfl rfl rfl rfl (by first | rfl | simp [cellsOf, *]) (by first | decide | simp [*]) (by repeat constructor) fun H4 st => ?_
  refine sE ?_
  show AWl _ _ _ _ _
  refine aMovV x rfl ?_
  refine aC (rnum_call (by rw [hlen]; exact (st.slc hx)) hb (by omega) (by decide)) fun v42 H5 ⟨hv, st1⟩ => ?_
  subst hv
  replace st := st.call st1 rfl
  clear st1
  refine aN rfl rfl (by constructor) ?_
  refine aSt st 1 rfl rfl rfl rfl (by first | rfl | simp [cellsOf, *]) (by first | decide | simp [*]) (by repeat constructor) fun H6 st => ?_
  refine sE ?_
  show AWl _ _ _ _ _
  refine aN rfl rfl (by constructor) ?_
  refine aBinV (.bool true) rfl rfl rfl ?_
  refine sE ?_
  show AW _ (.cond _ _ _) _ _ _
  refine cT rfl ?_
  show AWl _ _ _ _ _
  refine aMovV x rfl ?_
  refine aIxBK (st.slc hx) rfl rfl (by first | decide | omega) fun b47 o47 g47 => ?_
  refine aLdG rfl (g47 _ (st.slc hx)) ?_
  refine aN rfl rfl (by constructor) ?_
  refine aN rfl rfl (by constructor) ?_
  refine aSt st 1 rfl rfl rfl rfl (by first | rfl | simp [cellsOf, *]) (by first | decide | simp [*]) (by repeat constructor) fun H7 st => ?_
  refine sE ?_
  show AWl _ _ _ _ _
  refine aN rfl rfl (by constructor) ?_
  refine aBinV (.bool false) rfl rfl rfl ?_
  refine aN rfl rfl (by constructor) ?_
  refine gT rfl ?_
  refine aN rfl rfl (by constructor) ?_
  refine gT rfl ?_
  refine aBinV (.bool true) rfl rfl rfl ?_
  refine aN rfl rfl (by constructor) ?_
  refine sE ?_
  show AW _ (.cond _ _ _) _ _ _
  refine cT rfl ?_
  show AWl _ _ _ _ _
  refine aMovV x rfl ?_
  refine aIxBK (st.slc hx) rfl rfl (by first | decide | omega) fun b58 o58 g58 => ?_
  refine aLdG rfl (g58 _ (st.slc hx)) ?_
  refine aN rfl rfl (by constructor) ?_
  refine aN rfl rfl (by constructor) ?_
  refine aN rfl rfl (by constructor) ?_
  refine aN rfl rfl (by constructor) ?_
  refine aSt st 1 rfl rfl rfl rfl (by first | rfl | simp [cellsOf, *]) (by first | decide | simp [*]) (by repeat constructor) fun H8 st => ?_
  refine sE ?_
  show AWl _ _ _ _ _
  refine aN rfl rfl (by constructor) ?_
  refine aBinV (.bool false) rfl rfl rfl ?_
  refine sE ?_
  show AW _ (.cond _ _ _) _ _ _
  refine cF' rfl ?_
  show AWl _ _ _ _ _
  refine aN rfl rfl (by constructor) ?_
  refine aBinV (.bool false) rfl rfl rfl ?_
  refine sE ?_
  show AW _ (.cond _ _ _) _ _ _
  refine cF' rfl ?_
  show AWl _ _ _ _ _
  refine aN rfl rfl (by constructor) ?_
  refine aBinV (.bool true) rfl rfl rfl ?_
  refine aN rfl rfl (by constructor) ?_
  refine gT rfl ?_
  refine aN rfl rfl (by constructor) ?_
  refine gT rfl ?_
  refine aLd st 1 rfl rfl rfl (by constructor) ?_
  refine gT rfl ?_
  refine aN rfl rfl (by constructor) ?_
  refine aN rfl rfl (by constructor) ?_
  refine sE ?_
  show AW _ (.cond _ _ _) _ _ _
  refine cC' rfl (fun h9 => ?_) (fun h9 => ?_)
  · show AWl _ _ _ _ _
    refine aLdA st 1 rfl rfl (by first | decide | simp [*]) (by repeat constructor) ?_
    refine aN rfl rfl (by constructor) ?_
    refine aSt st 0 rfl rfl rfl rfl (by first | rfl | simp [cellsOf, *]) (by first | decide | simp [*]) (by repeat constructor) fun H10 st => ?_
    refine aN rfl rfl (by constructor) ?_
    refine aN rfl rfl (by constructor) ?_
    refine sE ?_
    refine ⟨_, out3 (r_cellA st 0 rfl rfl (by first | decide | simp [*]) (by repeat constructor)) (r_tmp rfl (by constructor)) (r_tmp rfl (by constructor)) ⟨rfl, rfl, rfl⟩, ?_⟩
    try simp only [b_quo q1 (show (0 : Int) < 32 by decide), b_quorem 2 q1 (show (0 : Int) < 8 by decide), b_quorem 2 q1 (show (0 : Int) < 2 by decide), b_quo q1 (show (0 : Int) < 16 by decide), b_rem 2 q1, b_quo q2 (show (0 : Int) < 64 by decide), b_rem 64 q2, q4, q13] at h9
    try simp only [b_quo q1 (show (0 : Int) < 32 by decide), b_quorem 2 q1 (show (0 : Int) < 8 by decide), b_quorem 2 q1 (show (0 : Int) < 2 by decide), b_quo q1 (show (0 : Int) < 16 by decide), b_rem 2 q1, b_quo q2 (show (0 : Int) < 64 by decide), b_rem 64 q2, q4, q13]
    have hz : ((spanM 10 xs).2.1 > 256) := of_decide_eq_true h9
    have hF : blocksF 8 10 xs = ((spanM 10 xs).2.2, 7) := if_pos ⟨by decide, hz⟩
    exact ⟨by rw [hF]; rfl, st.drop⟩
  · show AWl _ _ _ _ _
    refine aLdA st 1 rfl rfl (by first | decide | simp [*]) (by repeat constructor) ?_
    refine aSt st 0 rfl rfl rfl rfl (by first | rfl | simp [cellsOf, *]) (by first | decide | simp [*]) (by repeat constructor) fun H11 st => ?_
    refine aN rfl rfl (by constructor) ?_
    refine aN rfl rfl (by constructor) ?_
    refine sE ?_
    refine ⟨_, out3 (r_cellA st 0 rfl rfl (by first | decide | simp [*]) (by repeat constructor)) (r_tmp rfl (by constructor)) (r_tmp rfl (by constructor)) ⟨rfl, rfl, rfl⟩, ?_⟩
    try simp only [b_quo q1 (show (0 : Int) < 32 by decide), b_quorem 2 q1 (show (0 : Int) < 8 by decide), b_quorem 2 q1 (show (0 : Int) < 2 by decide), b_quo q1 (show (0 : Int) < 16 by decide), b_rem 2 q1, b_quo q2 (show (0 : Int) < 64 by decide), b_rem 64 q2, q4, q13] at h9
    try simp only [b_quo q1 (show (0 : Int) < 32 by decide), b_quorem 2 q1 (show (0 : Int) < 8 by decide), b_quorem 2 q1 (show (0 : Int) < 2 by decide), b_quo q1 (show (0 : Int) < 16 by decide), b_rem 2 q1, b_quo q2 (show (0 : Int) < 64 by decide), b_rem 64 q2, q4, q13]
    have hz : ¬ ((spanM 10 xs).2.1 > 256) := of_decide_eq_false h9
    have hF : blocksF 8 10 xs = (-1, 0) := if_neg (fun hc => hz hc.2)
    exact ⟨by rw [hF]; rfl, st.drop⟩
theorem onb8_16 {H : Hp} {xs : List Int} {x : Value} (hx : Sl H 1 16 (xs.map (Value.int .u8)) x) (hb : ByteL xs) (hlen : xs.length = 16) (hq : True) :
    ACalls Try.prog 29 [.agg #[.int .u8 8, .bool false, .int .u64 0, .int .u64 0, .int .i64 0, .bool false, .int .u8 0, .bool false, .bool false, .int .u8 0, .int .u8 0, .bool false, .int .u8 0, .int .u8 0, .bool false], x] H (fun v H' => v = .tuple #[.agg #[.int .u8 (blocksC 8 16 xs).kind, .bool (blocksC 8 16 xs).long, .int .u64 (blocksC 8 16 xs).lba, .int .u64 (blocksC 8 16 xs).blocks, .int .i64 (blocksC 8 16 xs).alloc, .bool (blocksC 8 16 xs).fua, .int .u8 (blocksC 8 16 xs).prot, .bool (blocksC 8 16 xs).unmap, .bool (blocksC 8 16 xs).evpd, .int .u8 (blocksC 8 16 xs).page, .int .u8 (blocksC 8 16 xs).control, .bool (blocksC 8 16 xs).save, .int .u8 (blocksC 8 16 xs).service, .int .u8 (blocksC 8 16 xs).type, .bool (blocksC 8 16 xs).bytes], .int .i64 (blocksF 8 16 xs).1, .int .i64 (blocksF 8 16 xs).2] ∧ Stt [] H H' []) := by
  refine acallsW Try.func29 f29_ok (Nat.le_of_ble_eq_true rfl) fun hw => ?_
  have st : Stt [] H H [] := Stt.start hw
  have q1 := hb.getD ((1 : Int)).toNat
  have q2 := hb.getD ((2 : Int)).toNat
  have q4 : IntKind.i64.wrap (xs.getD ((4 : Int)).toNat 0) = xs.getD 4 0 := wi _ (by have := hb.getD ((4 : Int)).toNat; omega)
  have q13 : IntKind.u64.wrap (xs.getD ((4 : Int)).toNat 0) = xs.getD 4 0 := by have := hb.getD ((4 : Int)).toNat; rw [w64]; show (xs.getD ((4 : Int)).toNat 0) % _ = xs.getD ((4 : Int)).toNat 0; omega
  unfold f29c
  show AWl _ _ _ _ _
  refine aBoxN st rfl rfl (by repeat constructor) rfl fun b2 H1 st => ?_
  refine aNewP st rfl rfl (by repeat constructor) fun b4 H2 st => ?_
  refine aN rfl rfl (by constructor) ?_
  refine aN rfl rfl (by constructor) ?_
  refine sE ?_
  show AWl _ _ _ _ _
  refine aN rfl rfl (by constructor) ?_
  refine aLd st 1 rfl rfl rfl (by constructor) ?_
  refine aConvV (n := 8) (n' := 8) rfl (by decide) ?_
  refine aN rfl rfl (by constructor) ?_
  refine sE ?_
  show AWl _ _ _ _ _
  refine aN rfl rfl (by constructor) ?_
  refine sE ?_
  show AWl _ _ _ _ _
  refine aMovV x rfl ?_
  refine aLen (st.slc hx) rfl ?_
  refine sE ?_
  show AWl _ _ _ _ _
  refine aBinV (.bool false) rfl rfl rfl ?_
  refine aN rfl rfl (by constructor) ?_
  refine sE ?_
  show AW _ (.cond _ _ _) _ _ _
  refine cF' rfl ?_
  show AWl _ _ _ _ _
  refine aBinV (.bool false) rfl rfl rfl ?_
  refine aN rfl rfl (by constructor) ?_
  refine sE ?_
  show AW _ (.cond _ _ _) _ _ _
  refine cF' rfl ?_
  show AWl _ _ _ _ _
  refine aN rfl rfl (by constructor) ?_
  refine sE ?_
  show AWl _ _ _ _ _
  refine aMovV x rfl ?_
  refine aC (rnum_call (by rw [hlen]; exact (st.slc hx)) hb (by omega) (by decide)) fun v15 H3 ⟨hv, st1⟩ => ?_
  subst hv
  replace st := st.call st1 rfl
  clear st1
  refine aN rfl rfl (by constructor) ?_
  refine aSt st 1 rfl rfl rfl rfl (by first | rfl | simp [cellsOf, *]) (by first | decide | simp [*]) (by repeat constructor) fun H4 st => ?_
  refine sE ?_
  show AWl _ _ _ _ _
  refine aMovV x rfl ?_
  refine aC (rnum_call (by rw [hlen]; exact (st.slc hx)) hb (by omega) (by decide)) fun v18 H5 ⟨hv, st1⟩ => ?_
  subst hv
  replace st := st.call st1 rfl
  clear st1
  refine aN rfl rfl (by constructor) ?_
  refine aSt st 1 rfl rfl rfl rfl (by first | rfl | simp [cellsOf, *]) (by first | decide | simp [*]) (by repeat constructor) fun H6 st => ?_
  refine sE ?_
  show AWl _ _ _ _ _
  refine aN rfl rfl (by constructor) ?_
  refine aBinV (.bool true) rfl rfl rfl ?_
  refine sE ?_
  show AW _ (.cond _ _ _) _ _ _
  refine cT rfl ?_
  show AWl _ _ _ _ _
  refine aMovV x rfl ?_
  refine aIxBK (st.slc hx) rfl rfl (by first | decide | omega) fun b47 o47 g47 => ?_
  refine aLdG rfl (g47 _ (st.slc hx)) ?_
  refine aN rfl rfl (by constructor) ?_
  refine aN rfl rfl (by constructor) ?_
  refine aSt st 1 rfl rfl rfl rfl (by first | rfl | simp [cellsOf, *]) (by first | decide | simp [*]) (by repeat constructor) fun H7 st => ?_
  refine sE ?_
  show AWl _ _ _ _ _
  refine aN rfl rfl (by constructor) ?_
  refine aBinV (.bool false) rfl rfl rfl ?_
  refine aN rfl rfl (by constructor) ?_
  refine gT rfl ?_
  refine aN rfl rfl (by constructor) ?_
  refine gT rfl ?_
  refine aBinV (.bool true) rfl rfl rfl ?_
  refine aN rfl rfl (by constructor) ?_
  refine sE ?_
  show AW _ (.cond _ _ _) _ _ _
  refine cT rfl ?_
  show AWl _ _ _ _ _
  refine aMovV x rfl ?_
  refine aIxBK (st.slc hx) rfl rfl (by first | decide | omega) fun b58 o58 g58 => ?_
  refine aLdG rfl (g58 _ (st.slc hx)) ?_
  refine aN rfl rfl (by constructor) ?_
  refine aN rfl rfl (by constructor) ?_
  refine aN rfl rfl (by constructor) ?_
  refine aN rfl rfl (by constructor) ?_
  refine aSt st 1 rfl rfl rfl rfl (by first | rfl | simp [cellsOf, *]) (by first | decide | simp [*]) (by repeat constructor) fun H8 st => ?_
  refine sE ?_
  show AWl _ _ _ _ _
  refine aN rfl rfl (by constructor) ?_
  refine aBinV (.bool false) rfl rfl rfl ?_
  refine sE ?_
  show AW _ (.cond _ _ _) _ _ _
  refine cF' rfl ?_
  show AWl _ _ _ _ _
  refine aN rfl rfl (by constructor) ?_
  refine aBinV (.bool false) rfl rfl rfl ?_
  refine sE ?_
  show AW _ (.cond _ _ _) _ _ _
  refine cF' rfl ?_
  show AWl _ _ _ _ _
  refine aN rfl rfl (by constructor) ?_
  refine aBinV (.bool true) rfl rfl rfl ?_
  refine aN rfl rfl (by constructor) ?_
  refine gT rfl ?_
  refine aN rfl rfl (by constructor) ?_
  refine gT rfl ?_
  refine aLd st 1 rfl rfl rfl (by constructor) ?_
  refine gT rfl ?_
  refine aN rfl rfl (by constructor) ?_
  refine aN rfl rfl (by constructor) ?_
  refine sE ?_
  show AW _ (.cond _ _ _) _ _ _
  refine cC' rfl (fun h9 => ?_) (fun h9 => ?_)
  · show AWl _ _ _ _ _
    refine aLdA st 1 rfl rfl (by first | decide | simp [*]) (by repeat constructor) ?_
    refine aN rfl rfl (by constructor) ?_
    refine aSt st 0 rfl rfl rfl rfl (by first | rfl | simp [cellsOf, *]) (by first | decide | simp [*]) (by repeat constructor) fun H10 st => ?_
    refine aN rfl rfl (by constructor) ?_
    refine aN rfl rfl (by constructor) ?_
    refine sE ?_
    refine ⟨_, out3 (r_cellA st 0 rfl rfl (by first | decide | simp [*]) (by repeat constructor)) (r_tmp rfl (by constructor)) (r_tmp rfl (by constructor)) ⟨rfl, rfl, rfl⟩, ?_⟩
    try simp only [b_quo q1 (show (0 : Int) < 32 by decide), b_quorem 2 q1 (show (0 : Int) < 8 by decide), b_quorem 2 q1 (show (0 : Int) < 2 by decide), b_quo q1 (show (0 : Int) < 16 by decide), b_rem 2 q1, b_quo q2 (show (0 : Int) < 64 by decide), b_rem 64 q2, q4, q13] at h9
    try simp only [b_quo q1 (show (0 : Int) < 32 by decide), b_quorem 2 q1 (show (0 : Int) < 8 by decide), b_quorem 2 q1 (show (0 : Int) < 2 by decide), b_quo q1 (show (0 : Int) < 16 by decide), b_rem 2 q1, b_quo q2 (show (0 : Int) < 64 by decide), b_rem 64 q2, q4, q13]
    have hz : ((spanM 16 xs).2.1 > 256) := of_decide_eq_true h9
    have hF : blocksF 8 16 xs = ((spanM 16 xs).2.2, 7) := if_pos ⟨by decide, hz⟩
    exact ⟨by rw [hF]; rfl, st.drop⟩
  · show AWl _ _ _ _ _
    refine aLdA st 1 rfl rfl (by first | decide | simp [*]) (by repeat constructor) ?_
    refine aSt st 0 rfl rfl rfl rfl (by first | rfl | simp [cellsOf, *]) (by first | decide | simp [*]) (by repeat constructor) fun H11 st => ?_
    refine aN rfl rfl (by constructor) ?_
    refine aN rfl rfl (by constructor) ?_
    refine sE ?_
    refine ⟨_, out3 (r_cellA st 0 rfl rfl (by first | decide | simp [*]) (by repeat constructor)) (r_tmp rfl (by constructor)) (r_tmp rfl (by constructor)) ⟨rfl, rfl, rfl⟩, ?_⟩
    try simp only [b_quo q1 (show (0 : Int) < 32 by decide), b_quorem 2 q1 (show (0 : Int) < 8 by decide), b_quorem 2 q1 (show (0 : Int) < 2 by decide), b_quo q1 (show (0 : Int) < 16 by decide), b_rem 2 q1, b_quo q2 (show (0 : Int) < 64 by decide), b_rem 64 q2, q4, q13] at h9
    try simp only [b_quo q1 (show (0 : Int) < 32 by decide), b_quorem 2 q1 (show (0 : Int) < 8 by decide), b_quorem 2 q1 (show (0 : Int) < 2 by decide), b_quo q1 (show (0 : Int) < 16 by decide), b_rem 2 q1, b_quo q2 (show (0 : Int) < 64 by decide), b_rem 64 q2, q4, q13]
    have hz : ¬ ((spanM 16 xs).2.1 > 256) := of_decide_eq_false h9
    have hF : blocksF 8 16 xs = (-1, 0) := if_neg (fun hc => hz hc.2)
    exact ⟨by rw [hF]; rfl, st.drop⟩
theorem onb9_10 {H : Hp} {xs : List Int} {x : Value} (hx : Sl H 1 10 (xs.map (Value.int .u8)) x) (hb : ByteL xs) (hlen : xs.length = 10) (hq : True) :
    ACalls Try.prog 29 [.agg #[.int .u8 9, .bool false, .int .u64 0, .int .u64 0, .int .i64 0, .bool false, .int .u8 0, .bool false, .bool false, .int .u8 0, .int .u8 0, .bool false, .int .u8 0, .int .u8 0, .bool false], x] H (fun v H' => v = .tuple #[.agg #[.int .u8 (blocksC 9 10 xs).kind, .bool (blocksC 9 10 xs).long, .int .u64 (blocksC 9 10 xs).lba, .int .u64 (blocksC 9 10 xs).blocks, .int .i64 (blocksC 9 10 xs).alloc, .bool (blocksC 9 10 xs).fua, .int .u8 (blocksC 9 10 xs).prot, .bool (blocksC 9 10 xs).unmap, .bool (blocksC 9 10 xs).evpd, .int .u8 (blocksC 9 10 xs).page, .int .u8 (blocksC 9 10 xs).control, .bool (blocksC 9 10 xs).save, .int .u8 (blocksC 9 10 xs).service, .int .u8 (blocksC 9 10 xs).type, .bool (blocksC 9 10 xs).bytes], .int .i64 (blocksF 9 10 xs).1, .int .i64 (blocksF 9 10 xs).2] ∧ Stt [] H H' []) := by
  refine acallsW Try.func29 f29_ok (Nat.le_of_ble_eq_true rfl) fun hw => ?_
  have st : Stt [] H H [] := Stt.start hw
  have q1 := hb.getD ((1 : Int)).toNat
  have q2 := hb.getD ((2 : Int)).toNat
  have q4 : IntKind.i64.wrap (xs.getD ((4 : Int)).toNat 0) = xs.getD 4 0 := wi _ (by have := hb.getD ((4 : Int)).toNat; omega)
  have q13 : IntKind.u64.wrap (xs.getD ((4 : Int)).toNat 0) = xs.getD 4 0 := by have := hb.getD ((4 : Int)).toNat; rw [w64]; show (xs.getD ((4 : Int)).toNat 0) % _ = xs.getD ((4 : Int)).toNat 0; omega
  unfold f29c
  show AWl _ _ _ _ _
  refine aBoxN st rfl rfl (by repeat constructor) rfl fun b2 H1 st => ?_
  refine aNewP st rfl rfl (by repeat constructor) fun b4 H2 st => ?_
  refine aN rfl rfl (by constructor) ?_
  refine aN rfl rfl (by constructor) ?_
  refine sE ?_
  show AWl _ _ _ _ _
  refine aN rfl rfl (by constructor) ?_
  refine aLd st 1 rfl rfl rfl (by constructor) ?_
  refine aConvV (n := 9) (n' := 9) rfl (by decide) ?_
  refine aN rfl rfl (by constructor) ?_
  refine sE ?_
  show AWl _ _ _ _ _
  refine aN rfl rfl (by constructor) ?_
  refine sE ?_
  show AWl _ _ _ _ _
  refine aMovV x rfl ?_
  refine aLen (st.slc hx) rfl ?_
  refine sE ?_
  show AWl _ _ _ _ _
  refine aBinV (.bool false) rfl rfl rfl ?_
  refine aN rfl rfl (by constructor) ?_
  refine sE ?_
  show AW _ (.cond _ _ _) _ _ _
  refine cF' rfl ?_
  show AWl _ _ _ _ _
  refine aBinV (.bool true) rfl rfl rfl ?_
  refine aN rfl rfl (by constructor) ?_
  refine sE ?_
  show AW _ (.cond _ _ _) _ _ _
  refine cT rfl ?_
  show AWl _ _ _ _ _
  refine aN rfl rfl (by constructor) ?_
  refine sE ?_
  show AWl _ _ _ _ _
  refine aMovV x rfl ?_
  refine aC (rnum_call (by rw [hlen]; exact (st.slc hx)) hb (by omega) (by decide)) fun v39 H3 ⟨hv, st1⟩ => ?_
  subst hv
  replace st := st.call st1 rfl
  clear st1
  refine aN rfl rfl (by constructor) ?_
  refine aSt st 1 rfl rfl rfl rfl (by first | rfl | simp [cellsOf, *]) (by first | decide | simp [*]) (by repeat constructor) fun H4 st => ?_
  refine sE ?_
  show AWl _ _ _ _ _
  refine aMovV x rfl ?_
  refine aC (rnum_call (by rw [hlen]; exact (st.slc hx)) hb (by omega) (by decide)) fun v42 H5 ⟨hv, st1⟩ => ?_
  subst hv
  replace st := st.call st1 rfl
  clear st1
  refine aN rfl rfl (by constructor) ?_
  refine aSt st 1 rfl rfl rfl rfl (by first | rfl | simp [cellsOf, *]) (by first | decide | simp [*]) (by repeat constructor) fun H6 st => ?_
  refine sE ?_
  show AWl _ _ _ _ _
  refine aN rfl rfl (by constructor) ?_
  refine aBinV (.bool true) rfl rfl rfl ?_
  refine sE ?_
  show AW _ (.cond _ _ _) _ _ _
  refine cT rfl ?_
  show AWl _ _ _ _ _
  refine aMovV x rfl ?_
  refine aIxBK (st.slc hx) rfl rfl (by first | decide | omega) fun b47 o47 g47 => ?_
  refine aLdG rfl (g47 _ (st.slc hx)) ?_
  refine aN rfl rfl (by constructor) ?_
  refine aN rfl rfl (by constructor) ?_
  refine aSt st 1 rfl rfl rfl rfl (by first | rfl | simp [cellsOf, *]) (by first | decide | simp [*]) (by repeat constructor) fun H7 st => ?_
  refine sE ?_
  show AWl _ _ _ _ _
  refine aN rfl rfl (by constructor) ?_
  refine aBinV (.bool false) rfl rfl rfl ?_
  refine aN rfl rfl (by constructor) ?_
  refine gT rfl ?_
  refine aN rfl rfl (by constructor) ?_
  refine gT rfl ?_
  refine aBinV (.bool false) rfl rfl rfl ?_
  refine aN rfl rfl (by constructor) ?_
  refine sE ?_
  show AW _ (.cond _ _ _) _ _ _
  refine cF' rfl ?_
  show AWl _ _ _ _ _
  refine aN rfl rfl (by constructor) ?_
  refine aBinV (.bool false) rfl rfl rfl ?_
  refine sE ?_
  show AW _ (.cond _ _ _) _ _ _
  refine cF' rfl ?_
  show AWl _ _ _ _ _
  refine aN rfl rfl (by constructor) ?_
  refine aBinV (.bool false) rfl rfl rfl ?_
  refine sE ?_
  show AW _ (.cond _ _ _) _ _ _
  refine cF' rfl ?_
  show AWl _ _ _ _ _
  refine aN rfl rfl (by constructor) ?_
  refine aBinV (.bool true) rfl rfl rfl ?_
  refine aN rfl rfl (by constructor) ?_
  refine gT rfl ?_
  refine aN rfl rfl (by constructor) ?_
  refine gT rfl ?_
  refine aLd st 1 rfl rfl rfl (by constructor) ?_
  refine gT rfl ?_
  refine aN rfl rfl (by constructor) ?_
  refine aN rfl rfl (by constructor) ?_
  refine sE ?_
  show AW _ (.cond _ _ _) _ _ _
  refine cC' rfl (fun h8 => ?_) (fun h8 => ?_)
  · show AWl _ _ _ _ _
    refine aLdA st 1 rfl rfl (by first | decide | simp [*]) (by repeat constructor) ?_
    refine aN rfl rfl (by constructor) ?_
    refine aSt st 0 rfl rfl rfl rfl (by first | rfl | simp [cellsOf, *]) (by first | decide | simp [*]) (by repeat constructor) fun H9 st => ?_
    refine aN rfl rfl (by constructor) ?_
    refine aN rfl rfl (by constructor) ?_
    refine sE ?_
    refine ⟨_, out3 (r_cellA st 0 rfl rfl (by first | decide | simp [*]) (by repeat constructor)) (r_tmp rfl (by constructor)) (r_tmp rfl (by constructor)) ⟨rfl, rfl, rfl⟩, ?_⟩
    try simp only [b_quo q1 (show (0 : Int) < 32 by decide), b_quorem 2 q1 (show (0 : Int) < 8 by decide), b_quorem 2 q1 (show (0 : Int) < 2 by decide), b_quo q1 (show (0 : Int) < 16 by decide), b_rem 2 q1, b_quo q2 (show (0 : Int) < 64 by decide), b_rem 64 q2, q4, q13] at h8
    try simp only [b_quo q1 (show (0 : Int) < 32 by decide), b_quorem 2 q1 (show (0 : Int) < 8 by decide), b_quorem 2 q1 (show (0 : Int) < 2 by decide), b_quo q1 (show (0 : Int) < 16 by decide), b_rem 2 q1, b_quo q2 (show (0 : Int) < 64 by decide), b_rem 64 q2, q4, q13]
    have hz : ((spanM 10 xs).2.1 > 256) := of_decide_eq_true h8
    have hF : blocksF 9 10 xs = ((spanM 10 xs).2.2, 7) := if_pos ⟨by decide, hz⟩
    exact ⟨by rw [hF]; rfl, st.drop⟩
  · show AWl _ _ _ _ _
    refine aLdA st 1 rfl rfl (by first | decide | simp [*]) (by repeat constructor) ?_
    refine aSt st 0 rfl rfl rfl rfl (by first | rfl | simp [cellsOf, *]) (by first | decide | simp [*]) (by repeat constructor) fun H10 st => ?_
    refine aN rfl rfl (by constructor) ?_
    refine aN rfl rfl (by constructor) ?_
    refine sE ?_
    refine ⟨_, out3 (r_cellA st 0 rfl rfl (by first | decide | simp [*]) (by repeat constructor)) (r_tmp rfl (by constructor)) (r_tmp rfl (by constructor)) ⟨rfl, rfl, rfl⟩, ?_⟩
    try simp only [b_quo q1 (show (0 : Int) < 32 by decide), b_quorem 2 q1 (show (0 : Int) < 8 by decide), b_quorem 2 q1 (show (0 : Int) < 2 by decide), b_quo q1 (show (0 : Int) < 16 by decide), b_rem 2 q1, b_quo q2 (show (0 : Int) < 64 by decide), b_rem 64 q2, q4, q13] at h8
    try simp only [b_quo q1 (show (0 : Int) < 32 by decide), b_quorem 2 q1 (show (0 : Int) < 8 by decide), b_quorem 2 q1 (show (0 : Int) < 2 by decide), b_quo q1 (show (0 : Int) < 16 by decide), b_rem 2 q1, b_quo q2 (show (0 : Int) < 64 by decide), b_rem 64 q2, q4, q13]
    have hz : ¬ ((spanM 10 xs).2.1 > 256) := of_decide_eq_false h8
    have hF : blocksF 9 10 xs = (-1, 0) := if_neg (fun hc => hz hc.2)
    exact ⟨by rw [hF]; rfl, st.drop⟩
theorem onb10_10 {H : Hp} {xs : List Int} {x : Value} (hx : Sl H 1 10 (xs.map (Value.int .u8)) x) (hb : ByteL xs) (hlen : xs.length = 10) (hq : True) :
    ACalls Try.prog 29 [.agg #[.int .u8 10, .bool false, .int .u64 0, .int .u64 0, .int .i64 0, .bool false, .int .u8 0, .bool false, .bool false, .int .u8 0, .int .u8 0, .bool false, .int .u8 0, .int .u8 0, .bool false], x] H (fun v H' => v = .tuple #[.agg #[.int .u8 (blocksC 10 10 xs).kind, .bool (blocksC 10 10 xs).long, .int .u64 (blocksC 10 10 xs).lba, .int .u64 (blocksC 10 10 xs).blocks, .int .i64 (blocksC 10 10 xs).alloc, .bool (blocksC 10 10 xs).fua, .int .u8 (blocksC 10 10 xs).prot, .bool (blocksC 10 10 xs).unmap, .bool (blocksC 10 10 xs).evpd, .int .u8 (blocksC 10 10 xs).page, .int .u8 (blocksC 10 10 xs).control, .bool (blocksC 10 10 xs).save, .int .u8 (blocksC 10 10 xs).service, .int .u8 (blocksC 10 10 xs).type, .bool (blocksC 10 10 xs).bytes], .int .i64 (blocksF 10 10 xs).1, .int .i64 (blocksF 10 10 xs).2] ∧ Stt [] H H' []) := by
  refine acallsW Try.func29 f29_ok (Nat.le_of_ble_eq_true rfl) fun hw => ?_
  have st : Stt [] H H [] := Stt.start hw
  have q1 := hb.getD ((1 : Int)).toNat
  have q2 := hb.getD ((2 : Int)).toNat
  have q4 : IntKind.i64.wrap (xs.getD ((4 : Int)).toNat 0) = xs.getD 4 0 := wi _ (by have := hb.getD ((4 : Int)).toNat; omega)
  have q13 : IntKind.u64.wrap (xs.getD ((4 : Int)).toNat 0) = xs.getD 4 0 := by have := hb.getD ((4 : Int)).toNat; rw [w64]; show (xs.getD ((4 : Int)).toNat 0) % _ = xs.getD ((4 : Int)).toNat 0; omega
  unfold f29c
  show AWl _ _ _ _ _
  refine aBoxN st rfl rfl (by repeat constructor) rfl fun b2 H1 st => ?_
  refine aNewP st rfl rfl (by repeat constructor) fun b4 H2 st => ?_
  refine aN rfl rfl (by constructor) ?_
  refine aN rfl rfl (by constructor) ?_
  refine sE ?_
  show AWl _ _ _ _ _
  refine aN rfl rfl (by constructor) ?_
  refine aLd st 1 rfl rfl rfl (by constructor) ?_
  refine aConvV (n := 10) (n' := 10) rfl (by decide) ?_
  refine aN rfl rfl (by constructor) ?_
  refine sE ?_
  show AWl _ _ _ _ _
  refine aN rfl rfl (by constructor) ?_
  refine sE ?_
  show AWl _ _ _ _ _
  refine aMovV x rfl ?_
  refine aLen (st.slc hx) rfl ?_
  refine sE ?_
  show AWl _ _ _ _ _
  refine aBinV (.bool false) rfl rfl rfl ?_
  refine aN rfl rfl (by constructor) ?_
  refine sE ?_
  show AW _ (.cond _ _ _) _ _ _
  refine cF' rfl ?_
  show AWl _ _ _ _ _
  refine aBinV (.bool true) rfl rfl rfl ?_
  refine aN rfl rfl (by constructor) ?_
  refine sE ?_
  show AW _ (.cond _ _ _) _ _ _
  refine cT rfl ?_
  show AWl _ _ _ _ _
  refine aN rfl rfl (by constructor) ?_
  refine sE ?_
  show AWl _ _ _ _ _
  refine aMovV x rfl ?_
  refine aC (rnum_call (by rw [hlen]; exact (st.slc hx)) hb (by omega) (by decide)) fun v39 H3 ⟨hv, st1⟩ => ?_
  subst hv
  replace st := st.call st1 rfl
  clear st1
  refine aN rfl rfl (by constructor) ?_
  refine aSt st 1 rfl rfl rfl rfl (by first | rfl | simp [cellsOf, *]) (by first | decide | simp [*]) (by repeat constructor) fun H4 st => ?_
  refine sE ?_
  show AWl _ _ _ _ _
  refine aMovV x rfl ?_
  refine aC (rnum_call (by rw [hlen]; exact (st.slc hx)) hb (by omega) (by decide)) fun v42 H5 ⟨hv, st1⟩ => ?_
  subst hv
  replace st := st.call st1 rfl
  clear st1
  refine aN rfl rfl (by constructor) ?_
  refine aSt st 1 rfl rfl rfl rfl (by first | rfl | simp [cellsOf, *]) (by first | decide | simp [*]) (by repeat constructor) fun H6 st => ?_
  refine sE ?_
  show AWl _ _ _ _ _
  refine aN rfl rfl (by constructor) ?_
  refine aBinV (.bool true) rfl rfl rfl ?_
  refine sE ?_
  show AW _ (.cond _ _ _) _ _ _
  refine cT rfl ?_
  show AWl _ _ _ _ _
  refine aMovV x rfl ?_
  refine aIxBK (st.slc hx) rfl rfl (by first | decide | omega) fun b47 o47 g47 => ?_
  refine aLdG rfl (g47 _ (st.slc hx)) ?_
  refine aN rfl rfl (by constructor) ?_
  refine aN rfl rfl (by constructor) ?_
  refine aSt st 1 rfl rfl rfl rfl (by first | rfl | simp [cellsOf, *]) (by first | decide | simp [*]) (by repeat constructor) fun H7 st => ?_
  refine sE ?_
  show AWl _ _ _ _ _
  refine aN rfl rfl (by constructor) ?_
  refine aBinV (.bool false) rfl rfl rfl ?_
  refine aN rfl rfl (by constructor) ?_
  refine gT rfl ?_
  refine aN rfl rfl (by constructor) ?_
  refine gT rfl ?_
  refine aBinV (.bool false) rfl rfl rfl ?_
  refine aN rfl rfl (by constructor) ?_
  refine sE ?_
  show AW _ (.cond _ _ _) _ _ _
  refine cF' rfl ?_
  show AWl _ _ _ _ _
  refine aN rfl rfl (by constructor) ?_
  refine aBinV (.bool true) rfl rfl rfl ?_
  refine sE ?_
  show AW _ (.cond _ _ _) _ _ _
  refine cT rfl ?_
  show AWl _ _ _ _ _
  refine aMovV x rfl ?_
  refine aIxBK (st.slc hx) rfl rfl (by first | decide | omega) fun b67 o67 g67 => ?_
  refine aLdG rfl (g67 _ (st.slc hx)) ?_
  refine aN rfl rfl (by constructor) ?_
  refine aN rfl rfl (by constructor) ?_
  refine aN rfl rfl (by constructor) ?_
  refine aN rfl rfl (by constructor) ?_
  refine aSt st 1 rfl rfl rfl rfl (by first | rfl | simp [cellsOf, *]) (by first | decide | simp [*]) (by repeat constructor) fun H8 st => ?_
  refine sE ?_
  show AWl _ _ _ _ _
  refine aN rfl rfl (by constructor) ?_
  refine aBinV (.bool false) rfl rfl rfl ?_
  refine sE ?_
  show AW _ (.cond _ _ _) _ _ _
  refine cF' rfl ?_
  show AWl _ _ _ _ _
  refine aN rfl rfl (by constructor) ?_
  refine aBinV (.bool true) rfl rfl rfl ?_
  refine aN rfl rfl (by constructor) ?_
  refine gT rfl ?_
  refine aN rfl rfl (by constructor) ?_
  refine gT rfl ?_
  refine aLd st 1 rfl rfl rfl (by constructor) ?_
  refine gT rfl ?_
  refine aN rfl rfl (by constructor) ?_
  refine aN rfl rfl (by constructor) ?_
  refine sE ?_
  show AW _ (.cond _ _ _) _ _ _
  refine cC' rfl (fun h9 => ?_) (fun h9 => ?_)
  · show AWl _ _ _ _ _
    refine aLdA st 1 rfl rfl (by first | decide | simp [*]) (by repeat constructor) ?_
    refine aN rfl rfl (by constructor) ?_
    refine aSt st 0 rfl rfl rfl rfl (by first | rfl | simp [cellsOf, *]) (by first | decide | simp [*]) (by repeat constructor) fun H10 st => ?_
    refine aN rfl rfl (by constructor) ?_
    refine aN rfl rfl (by constructor) ?_
    refine sE ?_
    refine ⟨_, out3 (r_cellA st 0 rfl rfl (by first | decide | simp [*]) (by repeat constructor)) (r_tmp rfl (by constructor)) (r_tmp rfl (by constructor)) ⟨rfl, rfl, rfl⟩, ?_⟩
    try simp only [b_quo q1 (show (0 : Int) < 32 by decide), b_quorem 2 q1 (show (0 : Int) < 8 by decide), b_quorem 2 q1 (show (0 : Int) < 2 by decide), b_quo q1 (show (0 : Int) < 16 by decide), b_rem 2 q1, b_quo q2 (show (0 : Int) < 64 by decide), b_rem 64 q2, q4, q13] at h9
    try simp only [b_quo q1 (show (0 : Int) < 32 by decide), b_quorem 2 q1 (show (0 : Int) < 8 by decide), b_quorem 2 q1 (show (0 : Int) < 2 by decide), b_quo q1 (show (0 : Int) < 16 by decide), b_rem 2 q1, b_quo q2 (show (0 : Int) < 64 by decide), b_rem 64 q2, q4, q13]
    have hz : ((spanM 10 xs).2.1 > 256) := of_decide_eq_true h9
    have hF : blocksF 10 10 xs = ((spanM 10 xs).2.2, 7) := if_pos ⟨by decide, hz⟩
    exact ⟨by rw [hF]; rfl, st.drop⟩
  · show AWl _ _ _ _ _
    refine aLdA st 1 rfl rfl (by first | decide | simp [*]) (by repeat constructor) ?_
    refine aSt st 0 rfl rfl rfl rfl (by first | rfl | simp [cellsOf, *]) (by first | decide | simp [*]) (by repeat constructor) fun H11 st => ?_
    refine aN rfl rfl (by constructor) ?_
    refine aN rfl rfl (by constructor) ?_
    refine sE ?_
    refine ⟨_, out3 (r_cellA st 0 rfl rfl (by first | decide | simp [*]) (by repeat constructor)) (r_tmp rfl (by constructor)) (r_tmp rfl (by constructor)) ⟨rfl, rfl, rfl⟩, ?_⟩
    try simp only [b_quo q1 (show (0 : Int) < 32 by decide), b_quorem 2 q1 (show (0 : Int) < 8 by decide), b_quorem 2 q1 (show (0 : Int) < 2 by decide), b_quo q1 (show (0 : Int) < 16 by decide), b_rem 2 q1, b_quo q2 (show (0 : Int) < 64 by decide), b_rem 64 q2, q4, q13] at h9
    try simp only [b_quo q1 (show (0 : Int) < 32 by decide), b_quorem 2 q1 (show (0 : Int) < 8 by decide), b_quorem 2 q1 (show (0 : Int) < 2 by decide), b_quo q1 (show (0 : Int) < 16 by decide), b_rem 2 q1, b_quo q2 (show (0 : Int) < 64 by decide), b_rem 64 q2, q4, q13]
    have hz : ¬ ((spanM 10 xs).2.1 > 256) := of_decide_eq_false h9
    have hF : blocksF 10 10 xs = (-1, 0) := if_neg (fun hc => hz hc.2)
    exact ⟨by rw [hF]; rfl, st.drop⟩
theorem onb11_10 {H : Hp} {xs : List Int} {x : Value} (hx : Sl H 1 10 (xs.map (Value.int .u8)) x) (hb : ByteL xs) (hlen : xs.length = 10) (hq : True) :
    ACalls Try.prog 29 [.agg #[.int .u8 11, .bool false, .int .u64 0, .int .u64 0, .int .i64 0, .bool false, .int .u8 0, .bool false, .bool false, .int .u8 0, .int .u8 0, .bool false, .int .u8 0, .int .u8 0, .bool false], x] H (fun v H' => v = .tuple #[.agg #[.int .u8 (blocksC 11 10 xs).kind, .bool (blocksC 11 10 xs).long, .int .u64 (blocksC 11 10 xs).lba, .int .u64 (blocksC 11 10 xs).blocks, .int .i64 (blocksC 11 10 xs).alloc, .bool (blocksC 11 10 xs).fua, .int .u8 (blocksC 11 10 xs).prot, .bool (blocksC 11 10 xs).unmap, .bool (blocksC 11 10 xs).evpd, .int .u8 (blocksC 11 10 xs).page, .int .u8 (blocksC 11 10 xs).control, .bool (blocksC 11 10 xs).save, .int .u8 (blocksC 11 10 xs).service, .int .u8 (blocksC 11 10 xs).type, .bool (blocksC 11 10 xs).bytes], .int .i64 (blocksF 11 10 xs).1, .int .i64 (blocksF 11 10 xs).2] ∧ Stt [] H H' []) := by
  refine acallsW Try.func29 f29_ok (Nat.le_of_ble_eq_true rfl) fun hw => ?_
  have st : Stt [] H H [] := Stt.start hw
  have q1 := hb.getD ((1 : Int)).toNat
  have q2 := hb.getD ((2 : Int)).toNat
  have q4 : IntKind.i64.wrap (xs.getD ((4 : Int)).toNat 0) = xs.getD 4 0 := wi _ (by have := hb.getD ((4 : Int)).toNat; omega)
  have q13 : IntKind.u64.wrap (xs.getD ((4 : Int)).toNat 0) = xs.getD 4 0 := by have := hb.getD ((4 : Int)).toNat; rw [w64]; show (xs.getD ((4 : Int)).toNat 0) % _ = xs.getD ((4 : Int)).toNat 0; omega
  unfold f29c
  show AWl _ _ _ _ _
  refine aBoxN st rfl rfl (by repeat constructor) rfl fun b2 H1 st => ?_
  refine aNewP st rfl rfl (by repeat constructor) fun b4 H2 st => ?_
  refine aN rfl rfl (by constructor) ?_
  refine aN rfl rfl (by constructor) ?_
  refine sE ?_
  show AWl _ _ _ _ _
  refine aN rfl rfl (by constructor) ?_
  refine aLd st 1 rfl rfl rfl (by constructor) ?_
  refine aConvV (n := 11) (n' := 11) rfl (by decide) ?_
  refine aN rfl rfl (by constructor) ?_
  refine sE ?_
  show AWl _ _ _ _ _
  refine aN rfl rfl (by constructor) ?_
  refine sE ?_
  show AWl _ _ _ _ _
  refine aMovV x rfl ?_
  refine aLen (st.slc hx) rfl ?_
  refine sE ?_
  show AWl _ _ _ _ _
  refine aBinV (.bool false) rfl rfl rfl ?_
  refine aN rfl rfl (by constructor) ?_
  refine sE ?_
  show AW _ (.cond _ _ _) _ _ _
  refine cF' rfl ?_
  show AWl _ _ _ _ _
  refine aBinV (.bool true) rfl rfl rfl ?_
  refine aN rfl rfl (by constructor) ?_
  refine sE ?_
  show AW _ (.cond _ _ _) _ _ _
  refine cT rfl ?_
  show AWl _ _ _ _ _
  refine aN rfl rfl (by constructor) ?_
  refine sE ?_
  show AWl _ _ _ _ _
  refine aMovV x rfl ?_
  refine aC (rnum_call (by rw [hlen]; exact (st.slc hx)) hb (by omega) (by decide)) fun v39 H3 ⟨hv, st1⟩ => ?_
  subst hv
  replace st := st.call st1 rfl
  clear st1
  refine aN rfl rfl (by constructor) ?_
  refine aSt st 1 rfl rfl rfl rfl (by first | rfl | simp [cellsOf, *]) (by first | decide | simp [*]) (by repeat constructor) fun H4 st => ?_
  refine sE ?_
  show AWl _ _ _ _ _
  refine aMovV x rfl ?_
  refine aC (rnum_call (by rw [hlen]; exact (st.slc hx)) hb (by omega) (by decide)) fun v42 H5 ⟨hv, st1⟩ => ?_
  subst hv
  replace st := st.call st1 rfl
  clear st1
  refine aN rfl rfl (by constructor) ?_
  refine aSt st 1 rfl rfl rfl rfl (by first | rfl | simp [cellsOf, *]) (by first | decide | simp [*]) (by repeat constructor) fun H6 st => ?_
  refine sE ?_
  show AWl _ _ _ _ _
  refine aN rfl rfl (by constructor) ?_
  refine aBinV (.bool false) rfl rfl rfl ?_
  refine sE ?_
  show AW _ (.cond _ _ _) _ _ _
  refine cF' rfl ?_
  show AWl _ _ _ _ _
  refine aN rfl rfl (by constructor) ?_
  refine aBinV (.bool false) rfl rfl rfl ?_
  refine aN rfl rfl (by constructor) ?_
  refine gT rfl ?_
  refine aN rfl rfl (by constructor) ?_
  refine gT rfl ?_
  refine aBinV (.bool false) rfl rfl rfl ?_
  refine aN rfl rfl (by constructor) ?_
  refine sE ?_
  show AW _ (.cond _ _ _) _ _ _
  refine cF' rfl ?_
  show AWl _ _ _ _ _
  refine aN rfl rfl (by constructor) ?_
  refine aBinV (.bool false) rfl rfl rfl ?_
  refine sE ?_
  show AW _ (.cond _ _ _) _ _ _
  refine cF' rfl ?_
  show AWl _ _ _ _ _
  refine aN rfl rfl (by constructor) ?_
  refine aBinV (.bool false) rfl rfl rfl ?_
  refine sE ?_
  show AW _ (.cond _ _ _) _ _ _
  refine cF' rfl ?_
  show AWl _ _ _ _ _
  refine aN rfl rfl (by constructor) ?_
  refine aBinV (.bool false) rfl rfl rfl ?_
  refine aN rfl rfl (by constructor) ?_
  refine gF rfl (by decide) ?_
  refine gF rfl (by decide) ?_
  refine gF rfl (by decide) ?_
  refine aN rfl rfl (by constructor) ?_
  refine sE ?_
  show AW _ (.cond _ _ _) _ _ _
  refine cF' rfl ?_
  show AWl _ _ _ _ _
  refine aLdA st 1 rfl rfl (by first | decide | simp [*]) (by repeat constructor) ?_
  refine aSt st 0 rfl rfl rfl rfl (by first | rfl | simp [cellsOf, *]) (by first | decide | simp [*]) (by repeat constructor) fun H7 st => ?_
  refine aN rfl rfl (by constructor) ?_
  refine aN rfl rfl (by constructor) ?_
  refine sE ?_
  refine ⟨_, out3 (r_cellA st 0 rfl rfl (by first | decide | simp [*]) (by repeat constructor)) (r_tmp rfl (by constructor)) (r_tmp rfl (by constructor)) ⟨rfl, rfl, rfl⟩, ?_⟩
  try simp only [b_quo q1 (show (0 : Int) < 32 by decide), b_quorem 2 q1 (show (0 : Int) < 8 by decide), b_quorem 2 q1 (show (0 : Int) < 2 by decide), b_quo q1 (show (0 : Int) < 16 by decide), b_rem 2 q1, b_quo q2 (show (0 : Int) < 64 by decide), b_rem 64 q2, q4, q13]
  have hF : blocksF 11 10 xs = (-1, 0) := if_neg (fun hc => absurd hc.1 (by decide))
  exact ⟨by rw [hF]; rfl, st.drop⟩
theorem onb11_16 {H : Hp} {xs : List Int} {x : Value} (hx : Sl H 1 16 (xs.map (Value.int .u8)) x) (hb : ByteL xs) (hlen : xs.length = 16) (hq : True) :
    ACalls Try.prog 29 [.agg #[.int .u8 11, .bool false, .int .u64 0, .int .u64 0, .int .i64 0, .bool false, .int .u8 0, .bool false, .bool false, .int .u8 0, .int .u8 0, .bool false, .int .u8 0, .int .u8 0, .bool false], x] H (fun v H' => v = .tuple #[.agg #[.int .u8 (blocksC 11 16 xs).kind, .bool (blocksC 11 16 xs).long, .int .u64 (blocksC 11 16 xs).lba, .int .u64 (blocksC 11 16 xs).blocks, .int .i64 (blocksC 11 16 xs).alloc, .bool (blocksC 11 16 xs).fua, .int .u8 (blocksC 11 16 xs).prot, .bool (blocksC 11 16 xs).unmap, .bool (blocksC 11 16 xs).evpd, .int .u8 (blocksC 11 16 xs).page, .int .u8 (blocksC 11 16 xs).control, .bool (blocksC 11 16 xs).save, .int .u8 (blocksC 11 16 xs).service, .int .u8 (blocksC 11 16 xs).type, .bool (blocksC 11 16 xs).bytes], .int .i64 (blocksF 11 16 xs).1, .int .i64 (blocksF 11 16 xs).2] ∧ Stt [] H H' []) := by
  refine acallsW Try.func29 f29_ok (Nat.le_of_ble_eq_true rfl) fun hw => ?_
  have st : Stt [] H H [] := Stt.start hw
  have q1 := hb.getD ((1 : Int)).toNat
  have q2 := hb.getD ((2 : Int)).toNat
  have q4 : IntKind.i64.wrap (xs.getD ((4 : Int)).toNat 0) = xs.getD 4 0 := wi _ (by have := hb.getD ((4 : Int)).toNat; omega)
  have q13 : IntKind.u64.wrap (xs.getD ((4 : Int)).toNat 0) = xs.getD 4 0 := by have := hb.getD ((4 : Int)).toNat; rw [w64]; show (xs.getD ((4 : Int)).toNat 0) % _ = xs.getD ((4 : Int)).toNat 0; omega
  unfold f29c
  show AWl _ _ _ _ _
  refine aBoxN st rfl rfl (by repeat constructor) rfl fun b2 H1 st => ?_
  refine aNewP st rfl rfl (by repeat constructor) fun b4 H2 st => ?_
  refine aN rfl rfl (by constructor) ?_
  refine aN rfl rfl (by constructor) ?_
  refine sE ?_
  show AWl _ _ _ _ _
  refine aN rfl rfl (by constructor) ?_
  refine aLd st 1 rfl rfl rfl (by constructor) ?_
  refine aConvV (n := 11) (n' := 11) rfl (by decide) ?_
  refine aN rfl rfl (by constructor) ?_
  refine sE ?_
  show AWl _ _ _ _ _
  refine aN rfl rfl (by constructor) ?_
  refine sE ?_
  show AWl _ _ _ _ _
  refine aMovV x rfl ?_
  refine aLen (st.slc hx) rfl ?_
  refine sE ?_
  show AWl _ _ _ _ _
  refine aBinV (.bool false) rfl rfl rfl ?_
  refine aN rfl rfl (by constructor) ?_
  refine sE ?_
  show AW _ (.cond _ _ _) _ _ _
  refine cF' rfl ?_
  show AWl _ _ _ _ _
  refine aBinV (.bool false) rfl rfl rfl ?_
  refine aN rfl rfl (by constructor) ?_
  refine sE ?_
  show AW _ (.cond _ _ _) _ _ _
  refine cF' rfl ?_
  show AWl _ _ _ _ _
  refine aN rfl rfl (by constructor) ?_
  refine sE ?_
  show AWl _ _ _ _ _
  refine aMovV x rfl ?_
  refine aC (rnum_call (by rw [hlen]; exact (st.slc hx)) hb (by omega) (by decide)) fun v15 H3 ⟨hv, st1⟩ => ?_
  subst hv
  replace st := st.call st1 rfl
  clear st1
  refine aN rfl rfl (by constructor) ?_
  refine aSt st 1 rfl rfl rfl rfl (by first | rfl | simp [cellsOf, *]) (by first | decide | simp [*]) (by repeat constructor) fun H4 st => ?_
  refine sE ?_
  show AWl _ _ _ _ _
  refine aMovV x rfl ?_
  refine aC (rnum_call (by rw [hlen]; exact (st.slc hx)) hb (by omega) (by decide)) fun v18 H5 ⟨hv, st1⟩ => ?_
  subst hv
  replace st := st.call st1 rfl
  clear st1
  refine aN rfl rfl (by constructor) ?_
  refine aSt st 1 rfl rfl rfl rfl (by first | rfl | simp [cellsOf, *]) (by first | decide | simp [*]) (by repeat constructor) fun H6 st => ?_
  refine sE ?_
  show AWl _ _ _ _ _
  refine aN rfl rfl (by constructor) ?_
  refine aBinV (.bool false) rfl rfl rfl ?_
  refine sE ?_
  show AW _ (.cond _ _ _) _ _ _
  refine cF' rfl ?_
  show AWl _ _ _ _ _
  refine aN rfl rfl (by constructor) ?_
  refine aBinV (.bool false) rfl rfl rfl ?_
  refine aN rfl rfl (by constructor) ?_
  refine gT rfl ?_
  refine aN rfl rfl (by constructor) ?_
  refine gT rfl ?_
  refine aBinV (.bool false) rfl rfl rfl ?_
  refine aN rfl rfl (by constructor) ?_
  refine sE ?_
  show AW _ (.cond _ _ _) _ _ _
  refine cF' rfl ?_
  show AWl _ _ _ _ _
  refine aN rfl rfl (by constructor) ?_
  refine aBinV (.bool false) rfl rfl rfl ?_
  refine sE ?_
  show AW _ (.cond _ _ _) _ _ _
  refine cF' rfl ?_
  show AWl _ _ _ _ _
  refine aN rfl rfl (by constructor) ?_
  refine aBinV (.bool false) rfl rfl rfl ?_
  refine sE ?_
  show AW _ (.cond _ _ _) _ _ _
  refine cF' rfl ?_
  show AWl _ _ _ _ _
  refine aN rfl rfl (by constructor) ?_
  refine aBinV (.bool false) rfl rfl rfl ?_
  refine aN rfl rfl (by constructor) ?_
  refine gF rfl (by decide) ?_
  refine gF rfl (by decide) ?_
  refine gF rfl (by decide) ?_
  refine aN rfl rfl (by constructor) ?_
  refine sE ?_
  show AW _ (.cond _ _ _) _ _ _
  refine cF' rfl ?_
  show AWl _ _ _ _ _
  refine aLdA st 1 rfl rfl (by first | decide | simp [*]) (by repeat constructor) ?_
  refine aSt st 0 rfl rfl rfl rfl (by first | rfl | simp [cellsOf, *]) (by first | decide | simp [*]) (by repeat constructor) fun H7 st => ?_
  refine aN rfl rfl (by constructor) ?_
  refine aN rfl rfl (by constructor) ?_
  refine sE ?_
  refine ⟨_, out3 (r_cellA st 0 rfl rfl (by first | decide | simp [*]) (by repeat constructor)) (r_tmp rfl (by constructor)) (r_tmp rfl (by constructor)) ⟨rfl, rfl, rfl⟩, ?_⟩
  try simp only [b_quo q1 (show (0 : Int) < 32 by decide), b_quorem 2 q1 (show (0 : Int) < 8 by decide), b_quorem 2 q1 (show (0 : Int) < 2 by decide), b_quo q1 (show (0 : Int) < 16 by decide), b_rem 2 q1, b_quo q2 (show (0 : Int) < 64 by decide), b_rem 64 q2, q4, q13]
  have hF : blocksF 11 16 xs = (-1, 0) := if_neg (fun hc => absurd hc.1 (by decide))
  exact ⟨by rw [hF]; rfl, st.drop⟩
theorem onb12_10 {H : Hp} {xs : List Int} {x : Value} (hx : Sl H 1 10 (xs.map (Value.int .u8)) x) (hb : ByteL xs) (hlen : xs.length = 10) (hq : True) :
    ACalls Try.prog 29 [.agg #[.int .u8 12, .bool false, .int .u64 0, .int .u64 0, .int .i64 0, .bool false, .int .u8 0, .bool false, .bool false, .int .u8 0, .int .u8 0, .bool false, .int .u8 0, .int .u8 0, .bool false], x] H (fun v H' => v = .tuple #[.agg #[.int .u8 (blocksC 12 10 xs).kind, .bool (blocksC 12 10 xs).long, .int .u64 (blocksC 12 10 xs).lba, .int .u64 (blocksC 12 10 xs).blocks, .int .i64 (blocksC 12 10 xs).alloc, .bool (blocksC 12 10 xs).fua, .int .u8 (blocksC 12 10 xs).prot, .bool (blocksC 12 10 xs).unmap, .bool (blocksC 12 10 xs).evpd, .int .u8 (blocksC 12 10 xs).page, .int .u8 (blocksC 12 10 xs).control, .bool (blocksC 12 10 xs).save, .int .u8 (blocksC 12 10 xs).service, .int .u8 (blocksC 12 10 xs).type, .bool (blocksC 12 10 xs).bytes], .int .i64 (blocksF 12 10 xs).1, .int .i64 (blocksF 12 10 xs).2] ∧ Stt [] H H' []) := by
  refine acallsW Try.func29 f29_ok (Nat.le_of_ble_eq_true rfl) fun hw => ?_
  have st : Stt [] H H [] := Stt.start hw
  have q1 := hb.getD ((1 : Int)).toNat
  have q2 := hb.getD ((2 : Int)).toNat
  have q4 : IntKind.i64.wrap (xs.getD ((4 : Int)).toNat 0) = xs.getD 4 0 := wi _ (by have := hb.getD ((4 : Int)).toNat; omega)
  have q13 : IntKind.u64.wrap (xs.getD ((4 : Int)).toNat 0) = xs.getD 4 0 := by have := hb.getD ((4 : Int)).toNat; rw [w64]; show (xs.getD ((4 : Int)).toNat 0) % _ = xs.getD ((4 : Int)).toNat 0; omega
  unfold f29c
  show AWl _ _ _ _ _
  refine aBoxN st rfl rfl (by repeat constructor) rfl fun b2 H1 st => ?_
  refine aNewP st rfl rfl (by repeat constructor) fun b4 H2 st => ?_
  refine aN rfl rfl (by constructor) ?_
  refine aN rfl rfl (by constructor) ?_
  refine sE ?_
  show AWl _ _ _ _ _
  refine aN rfl rfl (by constructor) ?_
  refine aLd st 1 rfl rfl rfl (by constructor) ?_
  refine aConvV (n := 12) (n' := 12) rfl (by decide) ?_
  refine aN rfl rfl (by constructor) ?_
  refine sE ?_
  show AWl _ _ _ _ _
  refine aN rfl rfl (by constructor) ?_
  refine sE ?_
  show AWl _ _ _ _ _
  refine aMovV x rfl ?_
  refine aLen (st.slc hx) rfl ?_
  refine sE ?_
  show AWl _ _ _ _ _
  refine aBinV (.bool false) rfl rfl rfl ?_
  refine aN rfl rfl (by constructor) ?_
  refine sE ?_
  show AW _ (.cond _ _ _) _ _ _
  refine cF' rfl ?_
  show AWl _ _ _ _ _
  refine aBinV (.bool true) rfl rfl rfl ?_
  refine aN rfl rfl (by constructor) ?_
  refine sE ?_
  show AW _ (.cond _ _ _) _ _ _
  refine cT rfl ?_
  show AWl _ _ _ _ _
  refine aN rfl rfl (by constructor) ?_
  refine sE ?_
  show AWl _ _ _ _ _
  refine aMovV x rfl ?_
  refine aC (rnum_call (by rw [hlen]; exact (st.slc hx)) hb (by omega) (by decide)) fun v39 H3 ⟨hv, st1⟩ => ?_
  subst hv
  replace st := st.call st1 rfl
  clear st1
  refine aN rfl rfl (by constructor) ?_
  refine aSt st 1 rfl rfl rfl rfl (by first | rfl | simp [cellsOf, *]) (by first | decide | simp [*]) (by repeat constructor) fun H4 st => ?_
  refine sE ?_
  show AWl _ _ _ _ _
  refine aMovV x rfl ?_
  refine aC (rnum_call (by rw [hlen]; exact (st.slc hx)) hb (by omega) (by decide)) fun v42 H5 ⟨hv, st1⟩ => ?_
  subst hv
  replace st := st.call st1 rfl
  clear st1
  refine aN rfl rfl (by constructor) ?_
  refine aSt st 1 rfl rfl rfl rfl (by first | rfl | simp [cellsOf, *]) (by first | decide | simp [*]) (by repeat constructor) fun H6 st => ?_
  refine sE ?_
  show AWl _ _ _ _ _
  refine aN rfl rfl (by constructor) ?_
  refine aBinV (.bool true) rfl rfl rfl ?_
  refine sE ?_
  show AW _ (.cond _ _ _) _ _ _
  refine cT rfl ?_
  show AWl _ _ _ _ _
  refine aMovV x rfl ?_
  refine aIxBK (st.slc hx) rfl rfl (by first | decide | omega) fun b47 o47 g47 => ?_
  refine aLdG rfl (g47 _ (st.slc hx)) ?_
  refine aN rfl rfl (by constructor) ?_
  refine aN rfl rfl (by constructor) ?_
  refine aSt st 1 rfl rfl rfl rfl (by first | rfl | simp [cellsOf, *]) (by first | decide | simp [*]) (by repeat constructor) fun H7 st => ?_
  refine sE ?_
  show AWl _ _ _ _ _
  refine aN rfl rfl (by constructor) ?_
  refine aBinV (.bool false) rfl rfl rfl ?_
  refine aN rfl rfl (by constructor) ?_
  refine gT rfl ?_
  refine aN rfl rfl (by constructor) ?_
  refine gT rfl ?_
  refine aBinV (.bool false) rfl rfl rfl ?_
  refine aN rfl rfl (by constructor) ?_
  refine sE ?_
  show AW _ (.cond _ _ _) _ _ _
  refine cF' rfl ?_
  show AWl _ _ _ _ _
  refine aN rfl rfl (by constructor) ?_
  refine aBinV (.bool false) rfl rfl rfl ?_
  refine sE ?_
  show AW _ (.cond _ _ _) _ _ _
  refine cF' rfl ?_
  show AWl _ _ _ _ _
  refine aN rfl rfl (by constructor) ?_
  refine aBinV (.bool true) rfl rfl rfl ?_
  refine sE ?_
  show AW _ (.cond _ _ _) _ _ _
  refine cT rfl ?_
  show AWl _ _ _ _ _
  refine aMovV x rfl ?_
  refine aIxBK (st.slc hx) rfl rfl (by first | decide | omega) fun b76 o76 g76 => ?_
  refine aLdG rfl (g76 _ (st.slc hx)) ?_
  refine aN rfl rfl (by constructor) ?_
  refine aN rfl rfl (by constructor) ?_
  refine aN rfl rfl (by constructor) ?_
  refine aN rfl rfl (by constructor) ?_
  refine aSt st 1 rfl rfl rfl rfl (by first | rfl | simp [cellsOf, *]) (by first | decide | simp [*]) (by repeat constructor) fun H8 st => ?_
  refine sE ?_
  show AWl _ _ _ _ _
  refine aN rfl rfl (by constructor) ?_
  refine aBinV (.bool false) rfl rfl rfl ?_
  refine aN rfl rfl (by constructor) ?_
  refine gF rfl (by decide) ?_
  refine gF rfl (by decide) ?_
  refine gF rfl (by decide) ?_
  refine aN rfl rfl (by constructor) ?_
  refine sE ?_
  show AW _ (.cond _ _ _) _ _ _
  refine cF' rfl ?_
  show AWl _ _ _ _ _
  refine aLdA st 1 rfl rfl (by first | decide | simp [*]) (by repeat constructor) ?_
  refine aSt st 0 rfl rfl rfl rfl (by first | rfl | simp [cellsOf, *]) (by first | decide | simp [*]) (by repeat constructor) fun H9 st => ?_
  refine aN rfl rfl (by constructor) ?_
  refine aN rfl rfl (by constructor) ?_
  refine sE ?_
  refine ⟨_, out3 (r_cellA st 0 rfl rfl (by first | decide | simp [*]) (by repeat constructor)) (r_tmp rfl (by constructor)) (r_tmp rfl (by constructor)) ⟨rfl, rfl, rfl⟩, ?_⟩
  try simp only [b_quo q1 (show (0 : Int) < 32 by decide), b_quorem 2 q1 (show (0 : Int) < 8 by decide), b_quorem 2 q1 (show (0 : Int) < 2 by decide), b_quo q1 (show (0 : Int) < 16 by decide), b_rem 2 q1, b_quo q2 (show (0 : Int) < 64 by decide), b_rem 64 q2, q4, q13]
  have hF : blocksF 12 10 xs = (-1, 0) := if_neg (fun hc => absurd hc.1 (by decide))
  exact ⟨by rw [hF]; rfl, st.drop⟩
theorem onb12_16 {H : Hp} {xs : List Int} {x : Value} (hx : Sl H 1 16 (xs.map (Value.int .u8)) x) (hb : ByteL xs) (hlen : xs.length = 16) (hq : True) :
    ACalls Try.prog 29 [.agg #[.int .u8 12, .bool false, .int .u64 0, .int .u64 0, .int .i64 0, .bool false, .int .u8 0, .bool false, .bool false, .int .u8 0, .int .u8 0, .bool false, .int .u8 0, .int .u8 0, .bool false], x] H (fun v H' => v = .tuple #[.agg #[.int .u8 (blocksC 12 16 xs).kind, .bool (blocksC 12 16 xs).long, .int .u64 (blocksC 12 16 xs).lba, .int .u64 (blocksC 12 16 xs).blocks, .int .i64 (blocksC 12 16 xs).alloc, .bool (blocksC 12 16 xs).fua, .int .u8 (blocksC 12 16 xs).prot, .bool (blocksC 12 16 xs).unmap, .bool (blocksC 12 16 xs).evpd, .int .u8 (blocksC 12 16 xs).page, .int .u8 (blocksC 12 16 xs).control, .bool (blocksC 12 16 xs).save, .int .u8 (blocksC 12 16 xs).service, .int .u8 (blocksC 12 16 xs).type, .bool (blocksC 12 16 xs).bytes], .int .i64 (blocksF 12 16 xs).1, .int .i64 (blocksF 12 16 xs).2] ∧ Stt [] H H' []) := by
  refine acallsW Try.func29 f29_ok (Nat.le_of_ble_eq_true rfl) fun hw => ?_
  have st : Stt [] H H [] := Stt.start hw
  have q1 := hb.getD ((1 : Int)).toNat
  have q2 := hb.getD ((2 : Int)).toNat
  have q4 : IntKind.i64.wrap (xs.getD ((4 : Int)).toNat 0) = xs.getD 4 0 := wi _ (by have := hb.getD ((4 : Int)).toNat; omega)
  have q13 : IntKind.u64.wrap (xs.getD ((4 : Int)).toNat 0) = xs.getD 4 0 := by have := hb.getD ((4 : Int)).toNat; rw [w64]; show (xs.getD ((4 : Int)).toNat 0) % _ = xs.getD ((4 : Int)).toNat 0; omega
  unfold f29c
  show AWl _ _ _ _ _
  refine aBoxN st rfl rfl (by repeat constructor) rfl fun b2 H1 st => ?_
  refine aNewP st rfl rfl (by repeat constructor) fun b4 H2 st => ?_
  refine aN rfl rfl (by constructor) ?_
  refine aN rfl rfl (by constructor) ?_
  refine sE ?_
  show AWl _ _ _ _ _
  refine aN rfl rfl (by constructor) ?_
  refine aLd st 1 rfl rfl rfl (by constructor) ?_
  refine aConvV (n := 12) (n' := 12) rfl (by decide) ?_
  refine aN rfl rfl (by constructor) ?_
  refine sE ?_
  show AWl _ _ _ _ _
  refine aN rfl rfl (by constructor) ?_
  refine sE ?_
  show AWl _ _ _ _ _
  refine aMovV x rfl ?_
  refine aLen (st.slc hx) rfl ?_
  refine sE ?_
  show AWl _ _ _ _ _
  refine aBinV (.bool false) rfl rfl rfl ?_
  refine aN rfl rfl (by constructor) ?_
  refine sE ?_
  show AW _ (.cond _ _ _) _ _ _
  refine cF' rfl ?_
  show AWl _ _ _ _ _
  refine aBinV (.bool false) rfl rfl rfl ?_
  refine aN rfl rfl (by constructor) ?_
  refine sE ?_
  show AW _ (.cond _ _ _) _ _ _
  refine cF' rfl ?_
  show AWl _ _ _ _ _
  refine aN rfl rfl (by constructor) ?_
  refine sE ?_
  show AWl _ _ _ _ _
  refine aMovV x rfl ?_
  refine aC (rnum_call (by rw [hlen]; exact (st.slc hx)) hb (by omega) (by decide)) fun v15 H3 ⟨hv, st1⟩ => ?_
  subst hv
  replace st := st.call st1 rfl
  clear st1
  refine aN rfl rfl (by constructor) ?_
  refine aSt st 1 rfl rfl rfl rfl (by first | rfl | simp [cellsOf, *]) (by first | decide | simp [*]) (by repeat constructor) fun H4 st => ?_
  refine sE ?_
  show AWl _ _ _ _ _
  refine aMovV x rfl ?_
  refine aC (rnum_call (by rw [hlen]; exact (st.slc hx)) hb (by omega) (by decide)) fun v18 H5 ⟨hv, st1⟩ => ?_
  subst hv
  replace st := st.call st1 rfl
  clear st1
  refine aN rfl rfl (by constructor) ?_
  refine aSt st 1 rfl rfl rfl rfl (by first | rfl | simp [cellsOf, *]) (by first | decide | simp [*]) (by repeat constructor) fun H6 st => ?_
  refine sE ?_
  show AWl _ _ _ _ _
  refine aN rfl rfl (by constructor) ?_
  refine aBinV (.bool true) rfl rfl rfl ?_
  refine sE ?_
  show AW _ (.cond _ _ _) _ _ _
  refine cT rfl ?_
  show AWl _ _ _ _ _
  refine aMovV x rfl ?_
  refine aIxBK (st.slc hx) rfl rfl (by first | decide | omega) fun b47 o47 g47 => ?_
  refine aLdG rfl (g47 _ (st.slc hx)) ?_
  refine aN rfl rfl (by constructor) ?_
  refine aN rfl rfl (by constructor) ?_
  refine aSt st 1 rfl rfl rfl rfl (by first | rfl | simp [cellsOf, *]) (by first | decide | simp [*]) (by repeat constructor) fun H7 st => ?_
  refine sE ?_
  show AWl _ _ _ _ _
  refine aN rfl rfl (by constructor) ?_
  refine aBinV (.bool false) rfl rfl rfl ?_
  refine aN rfl rfl (by constructor) ?_
  refine gT rfl ?_
  refine aN rfl rfl (by constructor) ?_
  refine gT rfl ?_
  refine aBinV (.bool false) rfl rfl rfl ?_
  refine aN rfl rfl (by constructor) ?_
  refine sE ?_
  show AW _ (.cond _ _ _) _ _ _
  refine cF' rfl ?_
  show AWl _ _ _ _ _
  refine aN rfl rfl (by constructor) ?_
  refine aBinV (.bool false) rfl rfl rfl ?_
  refine sE ?_
  show AW _ (.cond _ _ _) _ _ _
  refine cF' rfl ?_
  show AWl _ _ _ _ _
  refine aN rfl rfl (by constructor) ?_
  refine aBinV (.bool true) rfl rfl rfl ?_
  refine sE ?_
  show AW _ (.cond _ _ _) _ _ _
  refine cT rfl ?_
  show AWl _ _ _ _ _
  refine aMovV x rfl ?_
  refine aIxBK (st.slc hx) rfl rfl (by first | decide | omega) fun b76 o76 g76 => ?_
  refine aLdG rfl (g76 _ (st.slc hx)) ?_
  refine aN rfl rfl (by constructor) ?_
  refine aN rfl rfl (by constructor) ?_
  refine aN rfl rfl (by constructor) ?_
  refine aN rfl rfl (by constructor) ?_
  refine aSt st 1 rfl rfl rfl rfl (by first | rfl | simp [cellsOf, *]) (by first | decide | simp [*]) (by repeat constructor) fun H8 st => ?_
  refine sE ?_
  show AWl _ _ _ _ _
  refine aN rfl rfl (by constructor) ?_
  refine aBinV (.bool false) rfl rfl rfl ?_
  refine aN rfl rfl (by constructor) ?_
  refine gF rfl (by decide) ?_
  refine gF rfl (by decide) ?_
  refine gF rfl (by decide) ?_
  refine aN rfl rfl (by constructor) ?_
  refine sE ?_
  show AW _ (.cond _ _ _) _ _ _
  refine cF' rfl ?_
  show AWl _ _ _ _ _
  refine aLdA st 1 rfl rfl (by first | decide | simp [*]) (by repeat constructor) ?_
  refine aSt st 0 rfl rfl rfl rfl (by first | rfl | simp [cellsOf, *]) (by first | decide | simp [*]) (by repeat constructor) fun H9 st => ?_
  refine aN rfl rfl (by constructor) ?_
  refine aN rfl rfl (by constructor) ?_
  refine sE ?_
  refine ⟨_, out3 (r_cellA st 0 rfl rfl (by first | decide | simp [*]) (by repeat constructor)) (r_tmp rfl (by constructor)) (r_tmp rfl (by constructor)) ⟨rfl, rfl, rfl⟩, ?_⟩
  try simp only [b_quo q1 (show (0 : Int) < 32 by decide), b_quorem 2 q1 (show (0 : Int) < 8 by decide), b_quorem 2 q1 (show (0 : Int) < 2 by decide), b_quo q1 (show (0 : Int) < 16 by decide), b_rem 2 q1, b_quo q2 (show (0 : Int) < 64 by decide), b_rem 64 q2, q4, q13]
  have hF : blocksF 12 16 xs = (-1, 0) := if_neg (fun hc => absurd hc.1 (by decide))
  exact ⟨by rw [hF]; rfl, st.drop⟩
theorem told1_6 {H : Hp} {xs : List Int} {x : Value} {sv : Int} (hx : Sl H 1 6 (xs.map (Value.int .u8)) x) (hb : ByteL xs) (hlen : xs.length = 6) (hq : True) (hop : kindL (xs.getD 0 0) = 1) :
    ACalls Try.prog 22 [x, .int .u8 sv] H (fun v H' => v = .tuple #[.agg #[.int .u8 (fillC 1 6 xs sv).kind, .bool (fillC 1 6 xs sv).long, .int .u64 (fillC 1 6 xs sv).lba, .int .u64 (fillC 1 6 xs sv).blocks, .int .i64 (fillC 1 6 xs sv).alloc, .bool (fillC 1 6 xs sv).fua, .int .u8 (fillC 1 6 xs sv).prot, .bool (fillC 1 6 xs sv).unmap, .bool (fillC 1 6 xs sv).evpd, .int .u8 (fillC 1 6 xs sv).page, .int .u8 (fillC 1 6 xs sv).control, .bool (fillC 1 6 xs sv).save, .int .u8 (fillC 1 6 xs sv).service, .int .u8 (fillC 1 6 xs sv).type, .bool (fillC 1 6 xs sv).bytes], .int .i64 (fillF 1 6 xs).1, .int .i64 (fillF 1 6 xs).2] ∧ Stt [] H H' []) := by
  refine acallsW Try.func22 f22_ok (Nat.le_of_ble_eq_true rfl) fun hw => ?_
  have st : Stt [] H H [] := Stt.start hw
  have q1 := hb.getD ((1 : Int)).toNat
  have q2 := hb.getD ((2 : Int)).toNat
  have q4 : IntKind.i64.wrap (xs.getD ((4 : Int)).toNat 0) = xs.getD 4 0 := wi _ (by have := hb.getD ((4 : Int)).toNat; omega)
  have q13 : IntKind.u64.wrap (xs.getD ((4 : Int)).toNat 0) = xs.getD 4 0 := by have := hb.getD ((4 : Int)).toNat; rw [w64]; show (xs.getD ((4 : Int)).toNat 0) % _ = xs.getD ((4 : Int)).toNat 0; omega
  unfold f22c
  show AWl _ _ _ _ _
  refine aNewP st rfl rfl (by repeat constructor) fun b4 H1 st => ?_
  refine aN rfl rfl (by constructor) ?_
  refine aN rfl rfl (by constructor) ?_
  refine sE ?_
  show AWl _ _ _ _ _
  refine aMovV x rfl ?_
  refine aIxBK (st.slc hx) rfl rfl (by first | decide | omega) fun b10 o10 g10 => ?_
  refine aLdG rfl (g10 _ (st.slc hx)) ?_
  refine aC (rkind_call) fun v12 H2 ⟨hv, st1⟩ => ?_
  subst hv
  replace st := st.call st1 rfl
  clear st1
  rw [show kindL (xs.getD ((0 : Int)).toNat 0) = 1 from hop]
  refine aConvV (n := 1) (n' := 1) rfl (by decide) ?_
  refine aBld rfl (by repeat constructor) ?_
  refine aNewP st rfl rfl (by repeat constructor) fun b7 H3 st => ?_
  refine aSt st 0 rfl rfl rfl rfl (by first | rfl | simp [cellsOf, *]) (by first | decide | simp [*]) (by repeat constructor) fun H4 st => ?_
  refine sE ?_
  show AWl _ _ _ _ _
  refine aMovV x rfl ?_
  refine aLen (st.slc hx) rfl ?_
  refine aN rfl rfl (by constructor) ?_
  refine sE ?_
  show AWl _ _ _ _ _
  refine aN rfl rfl (by constructor) ?_
  refine aLd st 0 rfl rfl rfl (by constructor) ?_
  refine aConvV (n := 1) (n' := 1) rfl (by decide) ?_
  refine sE ?_
  show AWl _ _ _ _ _
  refine aBinV (.bool false) rfl rfl rfl ?_
  refine aN rfl rfl (by constructor) ?_
  refine sE ?_
  show AW _ (.cond _ _ _) _ _ _
  refine cF' rfl ?_
  show AWl _ _ _ _ _
  refine aBinV (.bool false) rfl rfl rfl ?_
  refine aN rfl rfl (by constructor) ?_
  refine sE ?_
  show AW _ (.cond _ _ _) _ _ _
  refine cF' rfl ?_
  show AWl _ _ _ _ _
  refine aBinV (.bool false) rfl rfl rfl ?_
  refine aN rfl rfl (by constructor) ?_
  refine sE ?_
  show AW _ (.cond _ _ _) _ _ _
  refine cF' rfl ?_
  show AWl _ _ _ _ _
  refine aBinV (.bool false) rfl rfl rfl ?_
  refine aN rfl rfl (by constructor) ?_
  refine sE ?_
  show AW _ (.cond _ _ _) _ _ _
  refine cF' rfl ?_
  show AWl _ _ _ _ _
  refine aBinV (.bool false) rfl rfl rfl ?_
  refine aN rfl rfl (by constructor) ?_
  refine sE ?_
  show AW _ (.cond _ _ _) _ _ _
  refine cF' rfl ?_
  show AWl _ _ _ _ _
  refine aBinV (.bool false) rfl rfl rfl ?_
  refine aN rfl rfl (by constructor) ?_
  refine sE ?_
  show AW _ (.cond _ _ _) _ _ _
  refine cF' rfl ?_
  show AWl _ _ _ _ _
  refine aBinV (.bool false) rfl rfl rfl ?_
  refine aN rfl rfl (by constructor) ?_
  refine sE ?_
  show AW _ (.cond _ _ _) _ _ _
  refine cF' rfl ?_
  show AWl _ _ _ _ _
  refine aBinV (.bool false) rfl rfl rfl ?_
  refine aN rfl rfl (by constructor) ?_
  refine sE ?_
  show AW _ (.cond _ _ _) _ _ _
  refine cF' rfl ?_
  show AWl _ _ _ _ _
  refine aBinV (.bool false) rfl rfl rfl ?_
  refine aN rfl rfl (by constructor) ?_
  refine sE ?_
  show AW _ (.cond _ _ _) _ _ _
  refine cF' rfl ?_
  show AWl _ _ _ _ _
  refine aBinV (.bool false) rfl rfl rfl ?_
  refine aN rfl rfl (by constructor) ?_
  refine sE ?_
  show AW _ (.cond _ _ _) _ _ _
  refine cF' rfl ?_
  show AWl _ _ _ _ _
  refine aBinV (.bool false) rfl rfl rfl ?_
  refine aN rfl rfl (by constructor) ?_
  refine sE ?_
  show AW _ (.cond _ _ _) _ _ _
  refine cF' rfl ?_
  show AWl _ _ _ _ _
  refine aBinV (.bool false) rfl rfl rfl ?_
  refine aN rfl rfl (by constructor) ?_
  refine sE ?_
  show AW _ (.cond _ _ _) _ _ _
  refine cF' rfl ?_
  show AWl _ _ _ _ _
  refine aBinV (.bool false) rfl rfl rfl ?_
  refine aN rfl rfl (by constructor) ?_
  refine sE ?_
  show AW _ (.cond _ _ _) _ _ _
  refine cF' rfl ?_
  show AWl _ _ _ _ _
  refine aBinV (.bool false) rfl rfl rfl ?_
  refine aN rfl rfl (by constructor) ?_
  refine sE ?_
  show AW _ (.cond _ _ _) _ _ _
  refine cF' rfl ?_
  show AWl _ _ _ _ _
  refine aBinV (.bool false) rfl rfl rfl ?_
  refine aN rfl rfl (by constructor) ?_
  refine sE ?_
  show AW _ (.cond _ _ _) _ _ _
  refine cF' rfl ?_
  show AWl _ _ _ _ _
  refine aBinV (.bool false) rfl rfl rfl ?_
  refine aN rfl rfl (by constructor) ?_
  refine sE ?_
  show AW _ (.cond _ _ _) _ _ _
  refine cF' rfl ?_
  show AWl _ _ _ _ _
  refine aBinV (.bool false) rfl rfl rfl ?_
  refine aN rfl rfl (by constructor) ?_
  refine sE ?_
  show AW _ (.cond _ _ _) _ _ _
  refine cF' rfl ?_
  show AWl _ _ _ _ _
  refine aLdA st 0 rfl rfl (by first | decide | simp [*]) (by repeat constructor) ?_
  refine aSt st 1 rfl rfl rfl rfl (by first | rfl | simp [cellsOf, *]) (by first | decide | simp [*]) (by repeat constructor) fun H5 st => ?_
  refine aN rfl rfl (by constructor) ?_
  refine aN rfl rfl (by constructor) ?_
  refine sE ?_
  refine ⟨_, out3 (r_cellA st 1 rfl rfl (by first | decide | simp [*]) (by repeat constructor)) (r_tmp rfl (by constructor)) (r_tmp rfl (by constructor)) ⟨rfl, rfl, rfl⟩, ?_⟩
  try simp only [b_quo q1 (show (0 : Int) < 32 by decide), b_quorem 2 q1 (show (0 : Int) < 8 by decide), b_quorem 2 q1 (show (0 : Int) < 2 by decide), b_quo q1 (show (0 : Int) < 16 by decide), b_rem 2 q1, b_quo q2 (show (0 : Int) < 64 by decide), b_rem 64 q2, q4, q13]
  have hF : fillF 1 6 xs = (-1, 0) := rfl
  exact ⟨by rw [hF]; rfl, st.drop⟩
theorem told2_6 {H : Hp} {xs : List Int} {x : Value} {sv : Int} (hx : Sl H 1 6 (xs.map (Value.int .u8)) x) (hb : ByteL xs) (hlen : xs.length = 6) (hq : xs.getD 1 0 < 2) (hop : kindL (xs.getD 0 0) = 2) :
    ACalls Try.prog 22 [x, .int .u8 sv] H (fun v H' => v = .tuple #[.agg #[.int .u8 (fillC 2 6 xs sv).kind, .bool (fillC 2 6 xs sv).long, .int .u64 (fillC 2 6 xs sv).lba, .int .u64 (fillC 2 6 xs sv).blocks, .int .i64 (fillC 2 6 xs sv).alloc, .bool (fillC 2 6 xs sv).fua, .int .u8 (fillC 2 6 xs sv).prot, .bool (fillC 2 6 xs sv).unmap, .bool (fillC 2 6 xs sv).evpd, .int .u8 (fillC 2 6 xs sv).page, .int .u8 (fillC 2 6 xs sv).control, .bool (fillC 2 6 xs sv).save, .int .u8 (fillC 2 6 xs sv).service, .int .u8 (fillC 2 6 xs sv).type, .bool (fillC 2 6 xs sv).bytes], .int .i64 (fillF 2 6 xs).1, .int .i64 (fillF 2 6 xs).2] ∧ Stt [] H H' []) := by
  refine acallsW Try.func22 f22_ok (Nat.le_of_ble_eq_true rfl) fun hw => ?_
  have st : Stt [] H H [] := Stt.start hw
  have q1 := hb.getD ((1 : Int)).toNat
  have q2 := hb.getD ((2 : Int)).toNat
  have q4 : IntKind.i64.wrap (xs.getD ((4 : Int)).toNat 0) = xs.getD 4 0 := wi _ (by have := hb.getD ((4 : Int)).toNat; omega)
  have q13 : IntKind.u64.wrap (xs.getD ((4 : Int)).toNat 0) = xs.getD 4 0 := by have := hb.getD ((4 : Int)).toNat; rw [w64]; show (xs.getD ((4 : Int)).toNat 0) % _ = xs.getD ((4 : Int)).toNat 0; omega
  unfold f22c
  show AWl _ _ _ _ _
  refine aNewP st rfl rfl (by repeat constructor) fun b4 H1 st => ?_
  refine aN rfl rfl (by constructor) ?_
  refine aN rfl rfl (by constructor) ?_
  refine sE ?_
  show AWl _ _ _ _ _
  refine aMovV x rfl ?_
  refine aIxBK (st.slc hx) rfl rfl (by first | decide | omega) fun b10 o10 g10 => ?_
  refine aLdG rfl (g10 _ (st.slc hx)) ?_
  refine aC (rkind_call) fun v12 H2 ⟨hv, st1⟩ => ?_
  subst hv
  replace st := st.call st1 rfl
  clear st1
  rw [show kindL (xs.getD ((0 : Int)).toNat 0) = 2 from hop]
  refine aConvV (n := 2) (n' := 2) rfl (by decide) ?_
  refine aBld rfl (by repeat constructor) ?_
  refine aNewP st rfl rfl (by repeat constructor) fun b7 H3 st => ?_
  refine aSt st 0 rfl rfl rfl rfl (by first | rfl | simp [cellsOf, *]) (by first | decide | simp [*]) (by repeat constructor) fun H4 st => ?_
  refine sE ?_
  show AWl _ _ _ _ _
  refine aMovV x rfl ?_
  refine aLen (st.slc hx) rfl ?_
  refine aN rfl rfl (by constructor) ?_
  refine sE ?_
  show AWl _ _ _ _ _
  refine aN rfl rfl (by constructor) ?_
  refine aLd st 0 rfl rfl rfl (by constructor) ?_
  refine aConvV (n := 2) (n' := 2) rfl (by decide) ?_
  refine sE ?_
  show AWl _ _ _ _ _
  refine aBinV (.bool true) rfl rfl rfl ?_
  refine aN rfl rfl (by constructor) ?_
  refine sE ?_
  show AW _ (.cond _ _ _) _ _ _
  refine cT rfl ?_
  show AWl _ _ _ _ _
  refine aMovV x rfl ?_
  refine aIxBK (st.slc hx) rfl rfl (by first | decide | omega) fun b23 o23 g23 => ?_
  refine aLdG rfl (g23 _ (st.slc hx)) ?_
  refine aN rfl rfl (by constructor) ?_
  refine aN rfl rfl (by constructor) ?_
  refine aSt st 0 rfl rfl rfl rfl (by first | rfl | simp [cellsOf, *]) (by first | decide | simp [*]) (by repeat constructor) fun H5 st => ?_
  refine sE ?_
  show AWl _ _ _ _ _
  refine aMovV x rfl ?_
  refine aIxBK (st.slc hx) rfl rfl (by first | decide | omega) fun b28 o28 g28 => ?_
  refine aLdG rfl (g28 _ (st.slc hx)) ?_
  refine aN rfl rfl (by constructor) ?_
  refine aN rfl rfl (by constructor) ?_
  refine aSt st 0 rfl rfl rfl rfl (by first | rfl | simp [cellsOf, *]) (by first | decide | simp [*]) (by repeat constructor) fun H6 st => ?_
  refine sE ?_
  show AWl _ _ _ _ _
  refine aLdA st 0 rfl rfl (by first | decide | simp [*]) (by repeat constructor) ?_
  refine aSt st 1 rfl rfl rfl rfl (by first | rfl | simp [cellsOf, *]) (by first | decide | simp [*]) (by repeat constructor) fun H7 st => ?_
  refine aN rfl rfl (by constructor) ?_
  refine aN rfl rfl (by constructor) ?_
  refine sE ?_
  refine ⟨_, out3 (r_cellA st 1 rfl rfl (by first | decide | simp [*]) (by repeat constructor)) (r_tmp rfl (by constructor)) (r_tmp rfl (by constructor)) ⟨rfl, rfl, rfl⟩, ?_⟩
  try simp only [b_quo q1 (show (0 : Int) < 32 by decide), b_quorem 2 q1 (show (0 : Int) < 8 by decide), b_quorem 2 q1 (show (0 : Int) < 2 by decide), b_quo q1 (show (0 : Int) < 16 by decide), b_rem 2 q1, b_quo q2 (show (0 : Int) < 64 by decide), b_rem 64 q2, q4, q13, one_lt q1 hq]
  have hF : fillF 2 6 xs = (-1, 0) := rfl
  exact ⟨by rw [hF]; rfl, st.drop⟩
theorem told3_6 {H : Hp} {xs : List Int} {x : Value} {sv : Int} (hx : Sl H 1 6 (xs.map (Value.int .u8)) x) (hb : ByteL xs) (hlen : xs.length = 6) (hq : xs.getD 1 0 < 2) (hop : kindL (xs.getD 0 0) = 3) :
    ACalls Try.prog 22 [x, .int .u8 sv] H (fun v H' => v = .tuple #[.agg #[.int .u8 (fillC 3 6 xs sv).kind, .bool (fillC 3 6 xs sv).long, .int .u64 (fillC 3 6 xs sv).lba, .int .u64 (fillC 3 6 xs sv).blocks, .int .i64 (fillC 3 6 xs sv).alloc, .bool (fillC 3 6 xs sv).fua, .int .u8 (fillC 3 6 xs sv).prot, .bool (fillC 3 6 xs sv).unmap, .bool (fillC 3 6 xs sv).evpd, .int .u8 (fillC 3 6 xs sv).page, .int .u8 (fillC 3 6 xs sv).control, .bool (fillC 3 6 xs sv).save, .int .u8 (fillC 3 6 xs sv).service, .int .u8 (fillC 3 6 xs sv).type, .bool (fillC 3 6 xs sv).bytes], .int .i64 (fillF 3 6 xs).1, .int .i64 (fillF 3 6 xs).2] ∧ Stt [] H H' []) := by
  refine acallsW Try.func22 f22_ok (Nat.le_of_ble_eq_true rfl) fun hw => ?_
  have st : Stt [] H H [] := Stt.start hw
  have q1 := hb.getD ((1 : Int)).toNat
  have q2 := hb.getD ((2 : Int)).toNat
  have q4 : IntKind.i64.wrap (xs.getD ((4 : Int)).toNat 0) = xs.getD 4 0 := wi _ (by have := hb.getD ((4 : Int)).toNat; omega)
  have q13 : IntKind.u64.wrap (xs.getD ((4 : Int)).toNat 0) = xs.getD 4 0 := by have := hb.getD ((4 : Int)).toNat; rw [w64]; show (xs.getD ((4 : Int)).toNat 0) % _ = xs.getD ((4 : Int)).toNat 0; omega
  unfold f22c
  show AWl _ _ _ _ _
  refine aNewP st rfl rfl (by repeat constructor) fun b4 H1 st => ?_
  refine aN rfl rfl (by constructor) ?_
  refine aN rfl rfl (by constructor) ?_
  refine sE ?_
  show AWl _ _ _ _ _
  refine aMovV x rfl ?_
  refine aIxBK (st.slc hx) rfl rfl (by first | decide | omega) fun b10 o10 g10 => ?_
  refine aLdG rfl (g10 _ (st.slc hx)) ?_
  refine aC (rkind_call) fun v12 H2 ⟨hv, st1⟩ => ?_
  subst hv
  replace st := st.call st1 rfl
  clear st1
  rw [show kindL (xs.getD ((0 : Int)).toNat 0) = 3 from hop]
  refine aConvV (n := 3) (n' := 3) rfl (by decide) ?_
  refine aBld rfl (by repeat constructor) ?_
  refine aNewP st rfl rfl (by repeat constructor) fun b7 H3 st => ?_
  refine aSt st 0 rfl rfl rfl rfl (by first | rfl | simp [cellsOf, *]) (by first | decide | simp [*]) (by repeat constructor) fun H4 st => ?_
  refine sE ?_
  show AWl _ _ _ _ _
  refine aMovV x rfl ?_
  refine aLen (st.slc hx) rfl ?_
  refine aN rfl rfl (by constructor) ?_
  refine sE ?_
  show AWl _ _ _ _ _
  refine aN rfl rfl (by constructor) ?_
  refine aLd st 0 rfl rfl rfl (by constructor) ?_
  refine aConvV (n := 3) (n' := 3) rfl (by decide) ?_
  refine sE ?_
  show AWl _ _ _ _ _
  refine aBinV (.bool false) rfl rfl rfl ?_
  refine aN rfl rfl (by constructor) ?_
  refine sE ?_
  show AW _ (.cond _ _ _) _ _ _
  refine cF' rfl ?_
  show AWl _ _ _ _ _
  refine aBinV (.bool true) rfl rfl rfl ?_
  refine aN rfl rfl (by constructor) ?_
  refine sE ?_
  show AW _ (.cond _ _ _) _ _ _
  refine cT rfl ?_
  show AWl _ _ _ _ _
  refine aMovV x rfl ?_
  refine aIxBK (st.slc hx) rfl rfl (by first | decide | omega) fun b35 o35 g35 => ?_
  refine aLdG rfl (g35 _ (st.slc hx)) ?_
  refine aN rfl rfl (by constructor) ?_
  refine aN rfl rfl (by constructor) ?_
  refine aSt st 0 rfl rfl rfl rfl (by first | rfl | simp [cellsOf, *]) (by first | decide | simp [*]) (by repeat constructor) fun H5 st => ?_
  refine sE ?_
  show AWl _ _ _ _ _
  refine aMovV x rfl ?_
  refine aIxBK (st.slc hx) rfl rfl (by first | decide | omega) fun b40 o40 g40 => ?_
  refine aLdG rfl (g40 _ (st.slc hx)) ?_
  refine aN rfl rfl (by constructor) ?_
  refine aSt st 0 rfl rfl rfl rfl (by first | rfl | simp [cellsOf, *]) (by first | decide | simp [*]) (by repeat constructor) fun H6 st => ?_
  refine sE ?_
  show AWl _ _ _ _ _
  refine aMovV x rfl ?_
  refine aC (rnum_call (by rw [hlen]; exact (st.slc hx)) hb (by omega) (by decide)) fun v44 H7 ⟨hv, st1⟩ => ?_
  subst hv
  replace st := st.call st1 rfl
  clear st1
  refine aN rfl rfl (by constructor) ?_
  refine aN rfl rfl (by constructor) ?_
  refine aSt st 0 rfl rfl rfl rfl (by first | rfl | simp [cellsOf, *]) (by first | decide | simp [*]) (by repeat constructor) fun H8 st => ?_
  refine sE ?_
  show AWl _ _ _ _ _
  refine aN rfl rfl (by constructor) ?_
  refine aLd st 0 rfl rfl rfl (by constructor) ?_
  refine aN rfl rfl (by constructor) ?_
  refine aN rfl rfl (by constructor) ?_
  refine gCase 50 rfl (fun h9 => ?_) (fun h9 => ?_)
  · refine gT rfl ?_
    refine aN rfl rfl (by constructor) ?_
    refine gT rfl ?_
    refine aLd st 0 rfl rfl rfl (by constructor) ?_
    refine gT rfl ?_
    refine aN rfl rfl (by constructor) ?_
    refine aN rfl rfl (by constructor) ?_
    refine sE ?_
    show AW _ (.cond _ _ _) _ _ _
    refine cC' rfl (fun h10 => ?_) (fun h10 => ?_)
    · show AWl _ _ _ _ _
      refine aLdA st 0 rfl rfl (by first | decide | simp [*]) (by repeat constructor) ?_
      refine aSt st 1 rfl rfl rfl rfl (by first | rfl | simp [cellsOf, *]) (by first | decide | simp [*]) (by repeat constructor) fun H11 st => ?_
      refine aN rfl rfl (by constructor) ?_
      refine aN rfl rfl (by constructor) ?_
      refine sE ?_
      refine ⟨_, out3 (r_cellA st 1 rfl rfl (by first | decide | simp [*]) (by repeat constructor)) (r_tmp rfl (by constructor)) (r_tmp rfl (by constructor)) ⟨rfl, rfl, rfl⟩, ?_⟩
      try simp only [b_quo q1 (show (0 : Int) < 32 by decide), b_quorem 2 q1 (show (0 : Int) < 8 by decide), b_quorem 2 q1 (show (0 : Int) < 2 by decide), b_quo q1 (show (0 : Int) < 16 by decide), b_rem 2 q1, b_quo q2 (show (0 : Int) < 64 by decide), b_rem 64 q2, q4, q13, one_lt q1 hq] at h9
      try simp only [b_quo q1 (show (0 : Int) < 32 by decide), b_quorem 2 q1 (show (0 : Int) < 8 by decide), b_quorem 2 q1 (show (0 : Int) < 2 by decide), b_quo q1 (show (0 : Int) < 16 by decide), b_rem 2 q1, b_quo q2 (show (0 : Int) < 64 by decide), b_rem 64 q2, q4, q13, one_lt q1 hq] at h10
      try simp only [b_quo q1 (show (0 : Int) < 32 by decide), b_quorem 2 q1 (show (0 : Int) < 8 by decide), b_quorem 2 q1 (show (0 : Int) < 2 by decide), b_quo q1 (show (0 : Int) < 16 by decide), b_rem 2 q1, b_quo q2 (show (0 : Int) < 64 by decide), b_rem 64 q2, q4, q13, one_lt q1 hq]
      have hF : fillF 3 6 xs = (2, 7) := by show (if (xs.getD 1 0 % 2 == 1) = false ∧ xs.getD 2 0 ≠ 0 then ((2 : Int), (7 : Int)) else (-1, 0)) = _; rw [if_pos ⟨by simpa using h9, by simpa using h10⟩]
      exact ⟨by rw [hF]; rfl, st.drop⟩
    · show AWl _ _ _ _ _
      refine aLdA st 0 rfl rfl (by first | decide | simp [*]) (by repeat constructor) ?_
      refine aSt st 1 rfl rfl rfl rfl (by first | rfl | simp [cellsOf, *]) (by first | decide | simp [*]) (by repeat constructor) fun H12 st => ?_
      refine aN rfl rfl (by constructor) ?_
      refine aN rfl rfl (by constructor) ?_
      refine sE ?_
      refine ⟨_, out3 (r_cellA st 1 rfl rfl (by first | decide | simp [*]) (by repeat constructor)) (r_tmp rfl (by constructor)) (r_tmp rfl (by constructor)) ⟨rfl, rfl, rfl⟩, ?_⟩
      try simp only [b_quo q1 (show (0 : Int) < 32 by decide), b_quorem 2 q1 (show (0 : Int) < 8 by decide), b_quorem 2 q1 (show (0 : Int) < 2 by decide), b_quo q1 (show (0 : Int) < 16 by decide), b_rem 2 q1, b_quo q2 (show (0 : Int) < 64 by decide), b_rem 64 q2, q4, q13, one_lt q1 hq] at h9
      try simp only [b_quo q1 (show (0 : Int) < 32 by decide), b_quorem 2 q1 (show (0 : Int) < 8 by decide), b_quorem 2 q1 (show (0 : Int) < 2 by decide), b_quo q1 (show (0 : Int) < 16 by decide), b_rem 2 q1, b_quo q2 (show (0 : Int) < 64 by decide), b_rem 64 q2, q4, q13, one_lt q1 hq] at h10
      try simp only [b_quo q1 (show (0 : Int) < 32 by decide), b_quorem 2 q1 (show (0 : Int) < 8 by decide), b_quorem 2 q1 (show (0 : Int) < 2 by decide), b_quo q1 (show (0 : Int) < 16 by decide), b_rem 2 q1, b_quo q2 (show (0 : Int) < 64 by decide), b_rem 64 q2, q4, q13, one_lt q1 hq]
      have hF : fillF 3 6 xs = (-1, 0) := by show (if (xs.getD 1 0 % 2 == 1) = false ∧ xs.getD 2 0 ≠ 0 then ((2 : Int), (7 : Int)) else (-1, 0)) = _; rw [if_neg (fun hc => hc.2 (by simpa using h10))]
      exact ⟨by rw [hF]; rfl, st.drop⟩
  · refine gF rfl (by decide) ?_
    refine gF rfl (by decide) ?_
    refine gF rfl (by decide) ?_
    refine aN rfl rfl (by constructor) ?_
    refine sE ?_
    show AW _ (.cond _ _ _) _ _ _
    refine cF' rfl ?_
    show AWl _ _ _ _ _
    refine aLdA st 0 rfl rfl (by first | decide | simp [*]) (by repeat constructor) ?_
    refine aSt st 1 rfl rfl rfl rfl (by first | rfl | simp [cellsOf, *]) (by first | decide | simp [*]) (by repeat constructor) fun H13 st => ?_
    refine aN rfl rfl (by constructor) ?_
    refine aN rfl rfl (by constructor) ?_
    refine sE ?_
    refine ⟨_, out3 (r_cellA st 1 rfl rfl (by first | decide | simp [*]) (by repeat constructor)) (r_tmp rfl (by constructor)) (r_tmp rfl (by constructor)) ⟨rfl, rfl, rfl⟩, ?_⟩
    try simp only [b_quo q1 (show (0 : Int) < 32 by decide), b_quorem 2 q1 (show (0 : Int) < 8 by decide), b_quorem 2 q1 (show (0 : Int) < 2 by decide), b_quo q1 (show (0 : Int) < 16 by decide), b_rem 2 q1, b_quo q2 (show (0 : Int) < 64 by decide), b_rem 64 q2, q4, q13, one_lt q1 hq] at h9
    try simp only [b_quo q1 (show (0 : Int) < 32 by decide), b_quorem 2 q1 (show (0 : Int) < 8 by decide), b_quorem 2 q1 (show (0 : Int) < 2 by decide), b_quo q1 (show (0 : Int) < 16 by decide), b_rem 2 q1, b_quo q2 (show (0 : Int) < 64 by decide), b_rem 64 q2, q4, q13, one_lt q1 hq]
    have hF : fillF 3 6 xs = (-1, 0) := by show (if (xs.getD 1 0 % 2 == 1) = false ∧ xs.getD 2 0 ≠ 0 then ((2 : Int), (7 : Int)) else (-1, 0)) = _; rw [if_neg (fun hc => by have h1 := h9; rw [show ((1 : Int)).toNat = 1 from rfl, hc.1] at h1; cases h1)]
    exact ⟨by rw [hF]; rfl, st.drop⟩
theorem told4_6 {H : Hp} {xs : List Int} {x : Value} {sv : Int} (hx : Sl H 1 6 (xs.map (Value.int .u8)) x) (hb : ByteL xs) (hlen : xs.length = 6) (hq : xs.getD 1 0 < 32) (hop : kindL (xs.getD 0 0) = 4) :
    ACalls Try.prog 22 [x, .int .u8 sv] H (fun v H' => v = .tuple #[.agg #[.int .u8 (fillC 4 6 xs sv).kind, .bool (fillC 4 6 xs sv).long, .int .u64 (fillC 4 6 xs sv).lba, .int .u64 (fillC 4 6 xs sv).blocks, .int .i64 (fillC 4 6 xs sv).alloc, .bool (fillC 4 6 xs sv).fua, .int .u8 (fillC 4 6 xs sv).prot, .bool (fillC 4 6 xs sv).unmap, .bool (fillC 4 6 xs sv).evpd, .int .u8 (fillC 4 6 xs sv).page, .int .u8 (fillC 4 6 xs sv).control, .bool (fillC 4 6 xs sv).save, .int .u8 (fillC 4 6 xs sv).service, .int .u8 (fillC 4 6 xs sv).type, .bool (fillC 4 6 xs sv).bytes], .int .i64 (fillF 4 6 xs).1, .int .i64 (fillF 4 6 xs).2] ∧ Stt [] H H' []) := by
  refine acallsW Try.func22 f22_ok (Nat.le_of_ble_eq_true rfl) fun hw => ?_
  have st : Stt [] H H [] := Stt.start hw
  have q1 := hb.getD ((1 : Int)).toNat
  have q2 := hb.getD ((2 : Int)).toNat
  have q4 : IntKind.i64.wrap (xs.getD ((4 : Int)).toNat 0) = xs.getD 4 0 := wi _ (by have := hb.getD ((4 : Int)).toNat; omega)
  have q13 : IntKind.u64.wrap (xs.getD ((4 : Int)).toNat 0) = xs.getD 4 0 := by have := hb.getD ((4 : Int)).toNat; rw [w64]; show (xs.getD ((4 : Int)).toNat 0) % _ = xs.getD ((4 : Int)).toNat 0; omega
  unfold f22c
  show AWl _ _ _ _ _
  refine aNewP st rfl rfl (by repeat constructor) fun b4 H1 st => ?_
  refine aN rfl rfl (by constructor) ?_
  refine aN rfl rfl (by constructor) ?_
  refine sE ?_
  show AWl _ _ _ _ _
  refine aMovV x rfl ?_
  refine aIxBK (st.slc hx) rfl rfl (by first | decide | omega) fun b10 o10 g10 => ?_
  refine aLdG rfl (g10 _ (st.slc hx)) ?_
  refine aC (rkind_call) fun v12 H2 ⟨hv, st1⟩ => ?_
  subst hv
  replace st := st.call st1 rfl
  clear st1
  rw [show kindL (xs.getD ((0 : Int)).toNat 0) = 4 from hop]
  refine aConvV (n := 4) (n' := 4) rfl (by decide) ?_
  refine aBld rfl (by repeat constructor) ?_
  refine aNewP st rfl rfl (by repeat constructor) fun b7 H3 st => ?_
  refine aSt st 0 rfl rfl rfl rfl (by first | rfl | simp [cellsOf, *]) (by first | decide | simp [*]) (by repeat constructor) fun H4 st => ?_
  refine sE ?_
  show AWl _ _ _ _ _
  refine aMovV x rfl ?_
  refine aLen (st.slc hx) rfl ?_
  refine aN rfl rfl (by constructor) ?_
  refine sE ?_
  show AWl _ _ _ _ _
  refine aN rfl rfl (by constructor) ?_
  refine aLd st 0 rfl rfl rfl (by constructor) ?_
  refine aConvV (n := 4) (n' := 4) rfl (by decide) ?_
  refine sE ?_
  show AWl _ _ _ _ _
  refine aBinV (.bool false) rfl rfl rfl ?_
  refine aN rfl rfl (by constructor) ?_
  refine sE ?_
  show AW _ (.cond _ _ _) _ _ _
  refine cF' rfl ?_
  show AWl _ _ _ _ _
  refine aBinV (.bool false) rfl rfl rfl ?_
  refine aN rfl rfl (by constructor) ?_
  refine sE ?_
  show AW _ (.cond _ _ _) _ _ _
  refine cF' rfl ?_
  show AWl _ _ _ _ _
  refine aBinV (.bool true) rfl rfl rfl ?_
  refine aN rfl rfl (by constructor) ?_
  refine sE ?_
  show AW _ (.cond _ _ _) _ _ _
  refine cT rfl ?_
  show AW _ (.cond _ _ _) _ _ _
  refine cT rfl ?_
  show AWl _ _ _ _ _
  refine aN rfl rfl (by constructor) ?_
  refine aBinV (.bool false) rfl rfl rfl ?_
  refine aN rfl rfl (by constructor) ?_
  refine aSt st 0 rfl rfl rfl rfl (by first | rfl | simp [cellsOf, *]) (by first | decide | simp [*]) (by repeat constructor) fun H5 st => ?_
  refine sE ?_
  show AWl _ _ _ _ _
  refine aMovV x rfl ?_
  refine aIxBK (st.slc hx) rfl rfl (by first | decide | omega) fun b63 o63 g63 => ?_
  refine aLdG rfl (g63 _ (st.slc hx)) ?_
  refine aN rfl rfl (by constructor) ?_
  refine aN rfl rfl (by constructor) ?_
  refine aSt st 0 rfl rfl rfl rfl (by first | rfl | simp [cellsOf, *]) (by first | decide | simp [*]) (by repeat constructor) fun H6 st => ?_
  refine sE ?_
  show AWl _ _ _ _ _
  refine aN rfl rfl (by constructor) ?_
  refine aBinV (.bool false) rfl rfl rfl ?_
  refine sE ?_
  show AW _ (.cond _ _ _) _ _ _
  refine cF' rfl ?_
  show AWl _ _ _ _ _
  refine aN rfl rfl (by constructor) ?_
  refine aLd st 0 rfl rfl rfl (by constructor) ?_
  refine aConvV (n := 4) (n' := 4) rfl (by decide) ?_
  refine aBinV (.bool false) rfl rfl rfl ?_
  refine sE ?_
  show AW _ (.cond _ _ _) _ _ _
  refine cF' rfl ?_
  show AWl _ _ _ _ _
  refine aMovV x rfl ?_
  refine aIxBK (st.slc hx) rfl rfl (by first | decide | omega) fun b89 o89 g89 => ?_
  refine aLdG rfl (g89 _ (st.slc hx)) ?_
  refine aN rfl rfl (by constructor) ?_
  refine aN rfl rfl (by constructor) ?_
  refine aN rfl rfl (by constructor) ?_
  refine aSt st 0 rfl rfl rfl rfl (by first | rfl | simp [cellsOf, *]) (by first | decide | simp [*]) (by repeat constructor) fun H7 st => ?_
  refine sE ?_
  show AWl _ _ _ _ _
  refine aMovV x rfl ?_
  refine aIxBK (st.slc hx) rfl rfl (by first | decide | omega) fun b95 o95 g95 => ?_
  refine aLdG rfl (g95 _ (st.slc hx)) ?_
  refine aN rfl rfl (by constructor) ?_
  refine aN rfl rfl (by constructor) ?_
  refine sE ?_
  show AW _ (.cond _ _ _) _ _ _
  refine cC' rfl (fun h8 => ?_) (fun h8 => ?_)
  · show AWl _ _ _ _ _
    refine aLdA st 0 rfl rfl (by first | decide | simp [*]) (by repeat constructor) ?_
    refine aSt st 1 rfl rfl rfl rfl (by first | rfl | simp [cellsOf, *]) (by first | decide | simp [*]) (by repeat constructor) fun H9 st => ?_
    refine aN rfl rfl (by constructor) ?_
    refine aN rfl rfl (by constructor) ?_
    refine sE ?_
    refine ⟨_, out3 (r_cellA st 1 rfl rfl (by first | decide | simp [*]) (by repeat constructor)) (r_tmp rfl (by constructor)) (r_tmp rfl (by constructor)) ⟨rfl, rfl, rfl⟩, ?_⟩
    try simp only [b_quo q1 (show (0 : Int) < 32 by decide), b_quorem 2 q1 (show (0 : Int) < 8 by decide), b_quorem 2 q1 (show (0 : Int) < 2 by decide), b_quo q1 (show (0 : Int) < 16 by decide), b_rem 2 q1, b_quo q2 (show (0 : Int) < 64 by decide), b_rem 64 q2, q4, q13] at h8
    try simp only [b_quo q1 (show (0 : Int) < 32 by decide), b_quorem 2 q1 (show (0 : Int) < 8 by decide), b_quorem 2 q1 (show (0 : Int) < 2 by decide), b_quo q1 (show (0 : Int) < 16 by decide), b_rem 2 q1, b_quo q2 (show (0 : Int) < 64 by decide), b_rem 64 q2, q4, q13]
    have hF : fillF 4 6 xs = (1, 4) := by show (if xs.getD 1 0 / 16 % 2 = 0 then ((1 : Int), (4 : Int)) else (-1, 0)) = _; have hd : xs.getD 1 0 / 16 % 2 = xs.getD 1 0 / 16 := d16_lt q1 hq; rw [hd, if_pos (by simpa using h8)]
    exact ⟨by rw [hF]; rfl, st.drop⟩
  · show AWl _ _ _ _ _
    refine aLdA st 0 rfl rfl (by first | decide | simp [*]) (by repeat constructor) ?_
    refine aSt st 1 rfl rfl rfl rfl (by first | rfl | simp [cellsOf, *]) (by first | decide | simp [*]) (by repeat constructor) fun H10 st => ?_
    refine aN rfl rfl (by constructor) ?_
    refine aN rfl rfl (by constructor) ?_
    refine sE ?_
    refine ⟨_, out3 (r_cellA st 1 rfl rfl (by first | decide | simp [*]) (by repeat constructor)) (r_tmp rfl (by constructor)) (r_tmp rfl (by constructor)) ⟨rfl, rfl, rfl⟩, ?_⟩
    try simp only [b_quo q1 (show (0 : Int) < 32 by decide), b_quorem 2 q1 (show (0 : Int) < 8 by decide), b_quorem 2 q1 (show (0 : Int) < 2 by decide), b_quo q1 (show (0 : Int) < 16 by decide), b_rem 2 q1, b_quo q2 (show (0 : Int) < 64 by decide), b_rem 64 q2, q4, q13] at h8
    try simp only [b_quo q1 (show (0 : Int) < 32 by decide), b_quorem 2 q1 (show (0 : Int) < 8 by decide), b_quorem 2 q1 (show (0 : Int) < 2 by decide), b_quo q1 (show (0 : Int) < 16 by decide), b_rem 2 q1, b_quo q2 (show (0 : Int) < 64 by decide), b_rem 64 q2, q4, q13]
    have hF : fillF 4 6 xs = (-1, 0) := by show (if xs.getD 1 0 / 16 % 2 = 0 then ((1 : Int), (4 : Int)) else (-1, 0)) = _; have hd : xs.getD 1 0 / 16 % 2 = xs.getD 1 0 / 16 := d16_lt q1 hq; rw [hd, if_neg (by simpa using h8)]
    exact ⟨by rw [hF]; rfl, st.drop⟩
theorem told4_10 {H : Hp} {xs : List Int} {x : Value} {sv : Int} (hx : Sl H 1 10 (xs.map (Value.int .u8)) x) (hb : ByteL xs) (hlen : xs.length = 10) (hq : xs.getD 1 0 < 32) (hop : kindL (xs.getD 0 0) = 4) :
    ACalls Try.prog 22 [x, .int .u8 sv] H (fun v H' => v = .tuple #[.agg #[.int .u8 (fillC 4 10 xs sv).kind, .bool (fillC 4 10 xs sv).long, .int .u64 (fillC 4 10 xs sv).lba, .int .u64 (fillC 4 10 xs sv).blocks, .int .i64 (fillC 4 10 xs sv).alloc, .bool (fillC 4 10 xs sv).fua, .int .u8 (fillC 4 10 xs sv).prot, .bool (fillC 4 10 xs sv).unmap, .bool (fillC 4 10 xs sv).evpd, .int .u8 (fillC 4 10 xs sv).page, .int .u8 (fillC 4 10 xs sv).control, .bool (fillC 4 10 xs sv).save, .int .u8 (fillC 4 10 xs sv).service, .int .u8 (fillC 4 10 xs sv).type, .bool (fillC 4 10 xs sv).bytes], .int .i64 (fillF 4 10 xs).1, .int .i64 (fillF 4 10 xs).2] ∧ Stt [] H H' []) := by
  refine acallsW Try.func22 f22_ok (Nat.le_of_ble_eq_true rfl) fun hw => ?_
  have st : Stt [] H H [] := Stt.start hw
  have q1 := hb.getD ((1 : Int)).toNat
  have q2 := hb.getD ((2 : Int)).toNat
  have q4 : IntKind.i64.wrap (xs.getD ((4 : Int)).toNat 0) = xs.getD 4 0 := wi _ (by have := hb.getD ((4 : Int)).toNat; omega)
  have q13 : IntKind.u64.wrap (xs.getD ((4 : Int)).toNat 0) = xs.getD 4 0 := by have := hb.getD ((4 : Int)).toNat; rw [w64]; show (xs.getD ((4 : Int)).toNat 0) % _ = xs.getD ((4 : Int)).toNat 0; omega
  unfold f22c
  show AWl _ _ _ _ _
  refine aNewP st rfl rfl (by repeat constructor) fun b4 H1 st => ?_
  refine aN rfl rfl (by constructor) ?_
  refine aN rfl rfl (by constructor) ?_
  refine sE ?_
  show AWl _ _ _ _ _
  refine aMovV x rfl ?_
  refine aIxBK (st.slc hx) rfl rfl (by first | decide | omega) fun b10 o10 g10 => ?_
  refine aLdG rfl (g10 _ (st.slc hx)) ?_
  refine aC (rkind_call) fun v12 H2 ⟨hv, st1⟩ => ?_
  subst hv
  replace st := st.call st1 rfl
  clear st1
  rw [show kindL (xs.getD ((0 : Int)).toNat 0) = 4 from hop]
  refine aConvV (n := 4) (n' := 4) rfl (by decide) ?_
  refine aBld rfl (by repeat constructor) ?_
  refine aNewP st rfl rfl (by repeat constructor) fun b7 H3 st => ?_
  refine aSt st 0 rfl rfl rfl rfl (by first | rfl | simp [cellsOf, *]) (by first | decide | simp [*]) (by repeat constructor) fun H4 st => ?_
  refine sE ?_
  show AWl _ _ _ _ _
  refine aMovV x rfl ?_
  refine aLen (st.slc hx) rfl ?_
  refine aN rfl rfl (by constructor) ?_
  refine sE ?_
  show AWl _ _ _ _ _
  refine aN rfl rfl (by constructor) ?_
  refine aLd st 0 rfl rfl rfl (by constructor) ?_
  refine aConvV (n := 4) (n' := 4) rfl (by decide) ?_
  refine sE ?_
  show AWl _ _ _ _ _
  refine aBinV (.bool false) rfl rfl rfl ?_
  refine aN rfl rfl (by constructor) ?_
  refine sE ?_
  show AW _ (.cond _ _ _) _ _ _
  refine cF' rfl ?_
  show AWl _ _ _ _ _
  refine aBinV (.bool false) rfl rfl rfl ?_
  refine aN rfl rfl (by constructor) ?_
  refine sE ?_
  show AW _ (.cond _ _ _) _ _ _
  refine cF' rfl ?_
  show AWl _ _ _ _ _
  refine aBinV (.bool true) rfl rfl rfl ?_
  refine aN rfl rfl (by constructor) ?_
  refine sE ?_
  show AW _ (.cond _ _ _) _ _ _
  refine cT rfl ?_
  show AW _ (.cond _ _ _) _ _ _
  refine cT rfl ?_
  show AWl _ _ _ _ _
  refine aN rfl rfl (by constructor) ?_
  refine aBinV (.bool true) rfl rfl rfl ?_
  refine aN rfl rfl (by constructor) ?_
  refine aSt st 0 rfl rfl rfl rfl (by first | rfl | simp [cellsOf, *]) (by first | decide | simp [*]) (by repeat constructor) fun H5 st => ?_
  refine sE ?_
  show AWl _ _ _ _ _
  refine aMovV x rfl ?_
  refine aIxBK (st.slc hx) rfl rfl (by first | decide | omega) fun b63 o63 g63 => ?_
  refine aLdG rfl (g63 _ (st.slc hx)) ?_
  refine aN rfl rfl (by constructor) ?_
  refine aN rfl rfl (by constructor) ?_
  refine aSt st 0 rfl rfl rfl rfl (by first | rfl | simp [cellsOf, *]) (by first | decide | simp [*]) (by repeat constructor) fun H6 st => ?_
  refine sE ?_
  show AWl _ _ _ _ _
  refine aN rfl rfl (by constructor) ?_
  refine aBinV (.bool true) rfl rfl rfl ?_
  refine sE ?_
  show AW _ (.cond _ _ _) _ _ _
  refine cT rfl ?_
  show AWl _ _ _ _ _
  refine aMovV x rfl ?_
  refine aC (rnum_call (by rw [hlen]; exact (st.slc hx)) hb (by omega) (by decide)) fun v70 H7 ⟨hv, st1⟩ => ?_
  subst hv
  replace st := st.call st1 rfl
  clear st1
  refine aN rfl rfl (by constructor) ?_
  refine aN rfl rfl (by constructor) ?_
  refine aSt st 0 rfl rfl rfl rfl (by first | rfl | simp [cellsOf, *]) (by first | decide | simp [*]) (by repeat constructor) fun H8 st => ?_
  refine sE ?_
  show AWl _ _ _ _ _
  refine aN rfl rfl (by constructor) ?_
  refine aLd st 0 rfl rfl rfl (by constructor) ?_
  refine aConvV (n := 4) (n' := 4) rfl (by decide) ?_
  refine aBinV (.bool false) rfl rfl rfl ?_
  refine sE ?_
  show AW _ (.cond _ _ _) _ _ _
  refine cF' rfl ?_
  show AWl _ _ _ _ _
  refine aMovV x rfl ?_
  refine aIxBK (st.slc hx) rfl rfl (by first | decide | omega) fun b89 o89 g89 => ?_
  refine aLdG rfl (g89 _ (st.slc hx)) ?_
  refine aN rfl rfl (by constructor) ?_
  refine aN rfl rfl (by constructor) ?_
  refine aN rfl rfl (by constructor) ?_
  refine aSt st 0 rfl rfl rfl rfl (by first | rfl | simp [cellsOf, *]) (by first | decide | simp [*]) (by repeat constructor) fun H9 st => ?_
  refine sE ?_
  show AWl _ _ _ _ _
  refine aMovV x rfl ?_
  refine aIxBK (st.slc hx) rfl rfl (by first | decide | omega) fun b95 o95 g95 => ?_
  refine aLdG rfl (g95 _ (st.slc hx)) ?_
  refine aN rfl rfl (by constructor) ?_
  refine aN rfl rfl (by constructor) ?_
  refine sE ?_
  show AW _ (.cond _ _ _) _ _ _
  refine cC' rfl (fun h10 => ?_) (fun h10 => ?_)
  · show AWl _ _ _ _ _
    refine aLdA st 0 rfl rfl (by first | decide | simp [*]) (by repeat constructor) ?_
    refine aSt st 1 rfl rfl rfl rfl (by first | rfl | simp [cellsOf, *]) (by first | decide | simp [*]) (by repeat constructor) fun H11 st => ?_
    refine aN rfl rfl (by constructor) ?_
    refine aN rfl rfl (by constructor) ?_
    refine sE ?_
    refine ⟨_, out3 (r_cellA st 1 rfl rfl (by first | decide | simp [*]) (by repeat constructor)) (r_tmp rfl (by constructor)) (r_tmp rfl (by constructor)) ⟨rfl, rfl, rfl⟩, ?_⟩
    try simp only [b_quo q1 (show (0 : Int) < 32 by decide), b_quorem 2 q1 (show (0 : Int) < 8 by decide), b_quorem 2 q1 (show (0 : Int) < 2 by decide), b_quo q1 (show (0 : Int) < 16 by decide), b_rem 2 q1, b_quo q2 (show (0 : Int) < 64 by decide), b_rem 64 q2, q4, q13] at h10
    try simp only [b_quo q1 (show (0 : Int) < 32 by decide), b_quorem 2 q1 (show (0 : Int) < 8 by decide), b_quorem 2 q1 (show (0 : Int) < 2 by decide), b_quo q1 (show (0 : Int) < 16 by decide), b_rem 2 q1, b_quo q2 (show (0 : Int) < 64 by decide), b_rem 64 q2, q4, q13]
    have hF : fillF 4 10 xs = (1, 4) := by show (if xs.getD 1 0 / 16 % 2 = 0 then ((1 : Int), (4 : Int)) else (-1, 0)) = _; have hd : xs.getD 1 0 / 16 % 2 = xs.getD 1 0 / 16 := d16_lt q1 hq; rw [hd, if_pos (by simpa using h10)]
    exact ⟨by rw [hF]; rfl, st.drop⟩
  · show AWl _ _ _ _ _
    refine aLdA st 0 rfl rfl (by first | decide | simp [*]) (by repeat constructor) ?_
    refine aSt st 1 rfl rfl rfl rfl (by first | rfl | simp [cellsOf, *]) (by first | decide | simp [*]) (by repeat constructor) fun H12 st => ?_
    refine aN rfl rfl (by constructor) ?_
    refine aN rfl rfl (by constructor) ?_
    refine sE ?_
    refine ⟨_, out3 (r_cellA st 1 rfl rfl (by first | decide | simp [*]) (by repeat constructor)) (r_tmp rfl (by constructor)) (r_tmp rfl (by constructor)) ⟨rfl, rfl, rfl⟩, ?_⟩
    try simp only [b_quo q1 (show (0 : Int) < 32 by decide), b_quorem 2 q1 (show (0 : Int) < 8 by decide), b_quorem 2 q1 (show (0 : Int) < 2 by decide), b_quo q1 (show (0 : Int) < 16 by decide), b_rem 2 q1, b_quo q2 (show (0 : Int) < 64 by decide), b_rem 64 q2, q4, q13] at h10
    try simp only [b_quo q1 (show (0 : Int) < 32 by decide), b_quorem 2 q1 (show (0 : Int) < 8 by decide), b_quorem 2 q1 (show (0 : Int) < 2 by decide), b_quo q1 (show (0 : Int) < 16 by decide), b_rem 2 q1, b_quo q2 (show (0 : Int) < 64 by decide), b_rem 64 q2, q4, q13]
    have hF : fillF 4 10 xs = (-1, 0) := by show (if xs.getD 1 0 / 16 % 2 = 0 then ((1 : Int), (4 : Int)) else (-1, 0)) = _; have hd : xs.getD 1 0 / 16 % 2 = xs.getD 1 0 / 16 := d16_lt q1 hq; rw [hd, if_neg (by simpa using h10)]
    exact ⟨by rw [hF]; rfl, st.drop⟩
theorem told5_6 {H : Hp} {xs : List Int} {x : Value} {sv : Int} (hx : Sl H 1 6 (xs.map (Value.int .u8)) x) (hb : ByteL xs) (hlen : xs.length = 6) (hq : True) (hop : kindL (xs.getD 0 0) = 5) :
    ACalls Try.prog 22 [x, .int .u8 sv] H (fun v H' => v = .tuple #[.agg #[.int .u8 (fillC 5 6 xs sv).kind, .bool (fillC 5 6 xs sv).long, .int .u64 (fillC 5 6 xs sv).lba, .int .u64 (fillC 5 6 xs sv).blocks, .int .i64 (fillC 5 6 xs sv).alloc, .bool (fillC 5 6 xs sv).fua, .int .u8 (fillC 5 6 xs sv).prot, .bool (fillC 5 6 xs sv).unmap, .bool (fillC 5 6 xs sv).evpd, .int .u8 (fillC 5 6 xs sv).page, .int .u8 (fillC 5 6 xs sv).control, .bool (fillC 5 6 xs sv).save, .int .u8 (fillC 5 6 xs sv).service, .int .u8 (fillC 5 6 xs sv).type, .bool (fillC 5 6 xs sv).bytes], .int .i64 (fillF 5 6 xs).1, .int .i64 (fillF 5 6 xs).2] ∧ Stt [] H H' []) := by
  refine acallsW Try.func22 f22_ok (Nat.le_of_ble_eq_true rfl) fun hw => ?_
  have st : Stt [] H H [] := Stt.start hw
  have q1 := hb.getD ((1 : Int)).toNat
  have q2 := hb.getD ((2 : Int)).toNat
  have q4 : IntKind.i64.wrap (xs.getD ((4 : Int)).toNat 0) = xs.getD 4 0 := wi _ (by have := hb.getD ((4 : Int)).toNat; omega)
  have q13 : IntKind.u64.wrap (xs.getD ((4 : Int)).toNat 0) = xs.getD 4 0 := by have := hb.getD ((4 : Int)).toNat; rw [w64]; show (xs.getD ((4 : Int)).toNat 0) % _ = xs.getD ((4 : Int)).toNat 0; omega
  unfold f22c
  show AWl _ _ _ _ _
  refine aNewP st rfl rfl (by repeat constructor) fun b4 H1 st => ?_
  refine aN rfl rfl (by constructor) ?_
  refine aN rfl rfl (by constructor) ?_
  refine sE ?_
  show AWl _ _ _ _ _
  refine aMovV x rfl ?_
  refine aIxBK (st.slc hx) rfl rfl (by first | decide | omega) fun b10 o10 g10 => ?_
  refine aLdG rfl (g10 _ (st.slc hx)) ?_
  refine aC (rkind_call) fun v12 H2 ⟨hv, st1⟩ => ?_
  subst hv
  replace st := st.call st1 rfl
  clear st1
  rw [show kindL (xs.getD ((0 : Int)).toNat 0) = 5 from hop]
  refine aConvV (n := 5) (n' := 5) rfl (by decide) ?_
  refine aBld rfl (by repeat constructor) ?_
  refine aNewP st rfl rfl (by repeat constructor) fun b7 H3 st => ?_
  refine aSt st 0 rfl rfl rfl rfl (by first | rfl | simp [cellsOf, *]) (by first | decide | simp [*]) (by repeat constructor) fun H4 st => ?_
  refine sE ?_
  show AWl _ _ _ _ _
  refine aMovV x rfl ?_
  refine aLen (st.slc hx) rfl ?_
  refine aN rfl rfl (by constructor) ?_
  refine sE ?_
  show AWl _ _ _ _ _
  refine aN rfl rfl (by constructor) ?_
  refine aLd st 0 rfl rfl rfl (by constructor) ?_
  refine aConvV (n := 5) (n' := 5) rfl (by decide) ?_
  refine sE ?_
  show AWl _ _ _ _ _
  refine aBinV (.bool false) rfl rfl rfl ?_
  refine aN rfl rfl (by constructor) ?_
  refine sE ?_
  show AW _ (.cond _ _ _) _ _ _
  refine cF' rfl ?_
  show AWl _ _ _ _ _
  refine aBinV (.bool false) rfl rfl rfl ?_
  refine aN rfl rfl (by constructor) ?_
  refine sE ?_
  show AW _ (.cond _ _ _) _ _ _
  refine cF' rfl ?_
  show AWl _ _ _ _ _
  refine aBinV (.bool false) rfl rfl rfl ?_
  refine aN rfl rfl (by constructor) ?_
  refine sE ?_
  show AW _ (.cond _ _ _) _ _ _
  refine cF' rfl ?_
  show AWl _ _ _ _ _
  refine aBinV (.bool true) rfl rfl rfl ?_
  refine aN rfl rfl (by constructor) ?_
  refine sE ?_
  show AW _ (.cond _ _ _) _ _ _
  refine cT rfl ?_
  show AWl _ _ _ _ _
  refine aN rfl rfl (by constructor) ?_
  refine aBinV (.bool false) rfl rfl rfl ?_
  refine aN rfl rfl (by constructor) ?_
  refine aSt st 0 rfl rfl rfl rfl (by first | rfl | simp [cellsOf, *]) (by first | decide | simp [*]) (by repeat constructor) fun H5 st => ?_
  refine sE ?_
  show AWl _ _ _ _ _
  refine aMovV x rfl ?_
  refine aIxBK (st.slc hx) rfl rfl (by first | decide | omega) fun b63 o63 g63 => ?_
  refine aLdG rfl (g63 _ (st.slc hx)) ?_
  refine aN rfl rfl (by constructor) ?_
  refine aN rfl rfl (by constructor) ?_
  refine aSt st 0 rfl rfl rfl rfl (by first | rfl | simp [cellsOf, *]) (by first | decide | simp [*]) (by repeat constructor) fun H6 st => ?_
  refine sE ?_
  show AWl _ _ _ _ _
  refine aN rfl rfl (by constructor) ?_
  refine aBinV (.bool false) rfl rfl rfl ?_
  refine sE ?_
  show AW _ (.cond _ _ _) _ _ _
  refine cF' rfl ?_
  show AWl _ _ _ _ _
  refine aN rfl rfl (by constructor) ?_
  refine aLd st 0 rfl rfl rfl (by constructor) ?_
  refine aConvV (n := 5) (n' := 5) rfl (by decide) ?_
  refine aBinV (.bool true) rfl rfl rfl ?_
  refine sE ?_
  show AW _ (.cond _ _ _) _ _ _
  refine cT rfl ?_
  show AWl _ _ _ _ _
  refine aMovV x rfl ?_
  refine aIxBK (st.slc hx) rfl rfl (by first | decide | omega) fun b78 o78 g78 => ?_
  refine aLdG rfl (g78 _ (st.slc hx)) ?_
  refine aN rfl rfl (by constructor) ?_
  refine aN rfl rfl (by constructor) ?_
  refine aSt st 0 rfl rfl rfl rfl (by first | rfl | simp [cellsOf, *]) (by first | decide | simp [*]) (by repeat constructor) fun H7 st => ?_
  refine sE ?_
  show AWl _ _ _ _ _
  refine aMovV x rfl ?_
  refine aIxBK (st.slc hx) rfl rfl (by first | decide | omega) fun b83 o83 g83 => ?_
  refine aLdG rfl (g83 _ (st.slc hx)) ?_
  refine aN rfl rfl (by constructor) ?_
  refine aN rfl rfl (by constructor) ?_
  refine aSt st 0 rfl rfl rfl rfl (by first | rfl | simp [cellsOf, *]) (by first | decide | simp [*]) (by repeat constructor) fun H8 st => ?_
  refine sE ?_
  show AWl _ _ _ _ _
  refine aLdA st 0 rfl rfl (by first | decide | simp [*]) (by repeat constructor) ?_
  refine aSt st 1 rfl rfl rfl rfl (by first | rfl | simp [cellsOf, *]) (by first | decide | simp [*]) (by repeat constructor) fun H9 st => ?_
  refine aN rfl rfl (by constructor) ?_
  refine aN rfl rfl (by constructor) ?_
  refine sE ?_
  refine ⟨_, out3 (r_cellA st 1 rfl rfl (by first | decide | simp [*]) (by repeat constructor)) (r_tmp rfl (by constructor)) (r_tmp rfl (by constructor)) ⟨rfl, rfl, rfl⟩, ?_⟩
  try simp only [b_quo q1 (show (0 : Int) < 32 by decide), b_quorem 2 q1 (show (0 : Int) < 8 by decide), b_quorem 2 q1 (show (0 : Int) < 2 by decide), b_quo q1 (show (0 : Int) < 16 by decide), b_rem 2 q1, b_quo q2 (show (0 : Int) < 64 by decide), b_rem 64 q2, q4, q13]
  have hF : fillF 5 6 xs = (-1, 0) := rfl
  exact ⟨by rw [hF]; rfl, st.drop⟩
theorem told5_10 {H : Hp} {xs : List Int} {x : Value} {sv : Int} (hx : Sl H 1 10 (xs.map (Value.int .u8)) x) (hb : ByteL xs) (hlen : xs.length = 10) (hq : True) (hop : kindL (xs.getD 0 0) = 5) :
    ACalls Try.prog 22 [x, .int .u8 sv] H (fun v H' => v = .tuple #[.agg #[.int .u8 (fillC 5 10 xs sv).kind, .bool (fillC 5 10 xs sv).long, .int .u64 (fillC 5 10 xs sv).lba, .int .u64 (fillC 5 10 xs sv).blocks, .int .i64 (fillC 5 10 xs sv).alloc, .bool (fillC 5 10 xs sv).fua, .int .u8 (fillC 5 10 xs sv).prot, .bool (fillC 5 10 xs sv).unmap, .bool (fillC 5 10 xs sv).evpd, .int .u8 (fillC 5 10 xs sv).page, .int .u8 (fillC 5 10 xs sv).control, .bool (fillC 5 10 xs sv).save, .int .u8 (fillC 5 10 xs sv).service, .int .u8 (fillC 5 10 xs sv).type, .bool (fillC 5 10 xs sv).bytes], .int .i64 (fillF 5 10 xs).1, .int .i64 (fillF 5 10 xs).2] ∧ Stt [] H H' []) := by
  refine acallsW Try.func22 f22_ok (Nat.le_of_ble_eq_true rfl) fun hw => ?_
  have st : Stt [] H H [] := Stt.start hw
  have q1 := hb.getD ((1 : Int)).toNat
  have q2 := hb.getD ((2 : Int)).toNat
  have q4 : IntKind.i64.wrap (xs.getD ((4 : Int)).toNat 0) = xs.getD 4 0 := wi _ (by have := hb.getD ((4 : Int)).toNat; omega)
  have q13 : IntKind.u64.wrap (xs.getD ((4 : Int)).toNat 0) = xs.getD 4 0 := by have := hb.getD ((4 : Int)).toNat; rw [w64]; show (xs.getD ((4 : Int)).toNat 0) % _ = xs.getD ((4 : Int)).toNat 0; omega
  unfold f22c
  show AWl _ _ _ _ _
  refine aNewP st rfl rfl (by repeat constructor) fun b4 H1 st => ?_
  refine aN rfl rfl (by constructor) ?_
  refine aN rfl rfl (by constructor) ?_
  refine sE ?_
  show AWl _ _ _ _ _
  refine aMovV x rfl ?_
  refine aIxBK (st.slc hx) rfl rfl (by first | decide | omega) fun b10 o10 g10 => ?_
  refine aLdG rfl (g10 _ (st.slc hx)) ?_
  refine aC (rkind_call) fun v12 H2 ⟨hv, st1⟩ => ?_
  subst hv
  replace st := st.call st1 rfl
  clear st1
  rw [show kindL (xs.getD ((0 : Int)).toNat 0) = 5 from hop]
  refine aConvV (n := 5) (n' := 5) rfl (by decide) ?_
  refine aBld rfl (by repeat constructor) ?_
  refine aNewP st rfl rfl (by repeat constructor) fun b7 H3 st => ?_
  refine aSt st 0 rfl rfl rfl rfl (by first | rfl | simp [cellsOf, *]) (by first | decide | simp [*]) (by repeat constructor) fun H4 st => ?_
  refine sE ?_
  show AWl _ _ _ _ _
  refine aMovV x rfl ?_
  refine aLen (st.slc hx) rfl ?_
  refine aN rfl rfl (by constructor) ?_
  refine sE ?_
  show AWl _ _ _ _ _
  refine aN rfl rfl (by constructor) ?_
  refine aLd st 0 rfl rfl rfl (by constructor) ?_
  refine aConvV (n := 5) (n' := 5) rfl (by decide) ?_
  refine sE ?_
  show AWl _ _ _ _ _
  refine aBinV (.bool false) rfl rfl rfl ?_
  refine aN rfl rfl (by constructor) ?_
  refine sE ?_
  show AW _ (.cond _ _ _) _ _ _
  refine cF' rfl ?_
  show AWl _ _ _ _ _
  refine aBinV (.bool false) rfl rfl rfl ?_
  refine aN rfl rfl (by constructor) ?_
  refine sE ?_
  show AW _ (.cond _ _ _) _ _ _
  refine cF' rfl ?_
  show AWl _ _ _ _ _
  refine aBinV (.bool false) rfl rfl rfl ?_
  refine aN rfl rfl (by constructor) ?_
  refine sE ?_
  show AW _ (.cond _ _ _) _ _ _
  refine cF' rfl ?_
  show AWl _ _ _ _ _
  refine aBinV (.bool true) rfl rfl rfl ?_
  refine aN rfl rfl (by constructor) ?_
  refine sE ?_
  show AW _ (.cond _ _ _) _ _ _
  refine cT rfl ?_
  show AWl _ _ _ _ _
  refine aN rfl rfl (by constructor) ?_
  refine aBinV (.bool true) rfl rfl rfl ?_
  refine aN rfl rfl (by constructor) ?_
  refine aSt st 0 rfl rfl rfl rfl (by first | rfl | simp [cellsOf, *]) (by first | decide | simp [*]) (by repeat constructor) fun H5 st => ?_
  refine sE ?_
  show AWl _ _ _ _ _
  refine aMovV x rfl ?_
  refine aIxBK (st.slc hx) rfl rfl (by first | decide | omega) fun b63 o63 g63 => ?_
  refine aLdG rfl (g63 _ (st.slc hx)) ?_
  refine aN rfl rfl (by constructor) ?_
  refine aN rfl rfl (by constructor) ?_
  refine aSt st 0 rfl rfl rfl rfl (by first | rfl | simp [cellsOf, *]) (by first | decide | simp [*]) (by repeat constructor) fun H6 st => ?_
  refine sE ?_
  show AWl _ _ _ _ _
  refine aN rfl rfl (by constructor) ?_
  refine aBinV (.bool true) rfl rfl rfl ?_
  refine sE ?_
  show AW _ (.cond _ _ _) _ _ _
  refine cT rfl ?_
  show AWl _ _ _ _ _
  refine aMovV x rfl ?_
  refine aC (rnum_call (by rw [hlen]; exact (st.slc hx)) hb (by omega) (by decide)) fun v70 H7 ⟨hv, st1⟩ => ?_
  subst hv
  replace st := st.call st1 rfl
  clear st1
  refine aN rfl rfl (by constructor) ?_
  refine aN rfl rfl (by constructor) ?_
  refine aSt st 0 rfl rfl rfl rfl (by first | rfl | simp [cellsOf, *]) (by first | decide | simp [*]) (by repeat constructor) fun H8 st => ?_
  refine sE ?_
  show AWl _ _ _ _ _
  refine aN rfl rfl (by constructor) ?_
  refine aLd st 0 rfl rfl rfl (by constructor) ?_
  refine aConvV (n := 5) (n' := 5) rfl (by decide) ?_
  refine aBinV (.bool true) rfl rfl rfl ?_
  refine sE ?_
  show AW _ (.cond _ _ _) _ _ _
  refine cT rfl ?_
  show AWl _ _ _ _ _
  refine aMovV x rfl ?_
  refine aIxBK (st.slc hx) rfl rfl (by first | decide | omega) fun b78 o78 g78 => ?_
  refine aLdG rfl (g78 _ (st.slc hx)) ?_
  refine aN rfl rfl (by constructor) ?_
  refine aN rfl rfl (by constructor) ?_
  refine aSt st 0 rfl rfl rfl rfl (by first | rfl | simp [cellsOf, *]) (by first | decide | simp [*]) (by repeat constructor) fun H9 st => ?_
  refine sE ?_
  show AWl _ _ _ _ _
  refine aMovV x rfl ?_
  refine aIxBK (st.slc hx) rfl rfl (by first | decide | omega) fun b83 o83 g83 => ?_
  refine aLdG rfl (g83 _ (st.slc hx)) ?_
  refine aN rfl rfl (by constructor) ?_
  refine aN rfl rfl (by constructor) ?_
  refine aSt st 0 rfl rfl rfl rfl (by first | rfl | simp [cellsOf, *]) (by first | decide | simp [*]) (by repeat constructor) fun H10 st => ?_
  refine sE ?_
  show AWl _ _ _ _ _
  refine aLdA st 0 rfl rfl (by first | decide | simp [*]) (by repeat constructor) ?_
  refine aSt st 1 rfl rfl rfl rfl (by first | rfl | simp [cellsOf, *]) (by first | decide | simp [*]) (by repeat constructor) fun H11 st => ?_
  refine aN rfl rfl (by constructor) ?_
  refine aN rfl rfl (by constructor) ?_
  refine sE ?_
  refine ⟨_, out3 (r_cellA st 1 rfl rfl (by first | decide | simp [*]) (by repeat constructor)) (r_tmp rfl (by constructor)) (r_tmp rfl (by constructor)) ⟨rfl, rfl, rfl⟩, ?_⟩
  try simp only [b_quo q1 (show (0 : Int) < 32 by decide), b_quorem 2 q1 (show (0 : Int) < 8 by decide), b_quorem 2 q1 (show (0 : Int) < 2 by decide), b_quo q1 (show (0 : Int) < 16 by decide), b_rem 2 q1, b_quo q2 (show (0 : Int) < 64 by decide), b_rem 64 q2, q4, q13]
  have hF : fillF 5 10 xs = (-1, 0) := rfl
  exact ⟨by rw [hF]; rfl, st.drop⟩
theorem told6_10 {H : Hp} {xs : List Int} {x : Value} {sv : Int} (hx : Sl H 1 10 (xs.map (Value.int .u8)) x) (hb : ByteL xs) (hlen : xs.length = 10) (hq : True) (hop : kindL (xs.getD 0 0) = 6) :
    ACalls Try.prog 22 [x, .int .u8 sv] H (fun v H' => v = .tuple #[.agg #[.int .u8 (fillC 6 10 xs sv).kind, .bool (fillC 6 10 xs sv).long, .int .u64 (fillC 6 10 xs sv).lba, .int .u64 (fillC 6 10 xs sv).blocks, .int .i64 (fillC 6 10 xs sv).alloc, .bool (fillC 6 10 xs sv).fua, .int .u8 (fillC 6 10 xs sv).prot, .bool (fillC 6 10 xs sv).unmap, .bool (fillC 6 10 xs sv).evpd, .int .u8 (fillC 6 10 xs sv).page, .int .u8 (fillC 6 10 xs sv).control, .bool (fillC 6 10 xs sv).save, .int .u8 (fillC 6 10 xs sv).service, .int .u8 (fillC 6 10 xs sv).type, .bool (fillC 6 10 xs sv).bytes], .int .i64 (fillF 6 10 xs).1, .int .i64 (fillF 6 10 xs).2] ∧ Stt [] H H' []) := by
  refine acallsW Try.func22 f22_ok (Nat.le_of_ble_eq_true rfl) fun hw => ?_
  have st : Stt [] H H [] := Stt.start hw
  have q1 := hb.getD ((1 : Int)).toNat
  have q2 := hb.getD ((2 : Int)).toNat
  have q4 : IntKind.i64.wrap (xs.getD ((4 : Int)).toNat 0) = xs.getD 4 0 := wi _ (by have := hb.getD ((4 : Int)).toNat; omega)
  have q13 : IntKind.u64.wrap (xs.getD ((4 : Int)).toNat 0) = xs.getD 4 0 := by have := hb.getD ((4 : Int)).toNat; rw [w64]; show (xs.getD ((4 : Int)).toNat 0) % _ = xs.getD ((4 : Int)).toNat 0; omega
  unfold f22c
  show AWl _ _ _ _ _
  refine aNewP st rfl rfl (by repeat constructor) fun b4 H1 st => ?_
  refine aN rfl rfl (by constructor) ?_
  refine aN rfl rfl (by constructor) ?_
  refine sE ?_
  show AWl _ _ _ _ _
  refine aMovV x rfl ?_
  refine aIxBK (st.slc hx) rfl rfl (by first | decide | omega) fun b10 o10 g10 => ?_
  refine aLdG rfl (g10 _ (st.slc hx)) ?_
  refine aC (rkind_call) fun v12 H2 ⟨hv, st1⟩ => ?_
  subst hv
  replace st := st.call st1 rfl
  clear st1
  rw [show kindL (xs.getD ((0 : Int)).toNat 0) = 6 from hop]
  refine aConvV (n := 6) (n' := 6) rfl (by decide) ?_
  refine aBld rfl (by repeat constructor) ?_
  refine aNewP st rfl rfl (by repeat constructor) fun b7 H3 st => ?_
  refine aSt st 0 rfl rfl rfl rfl (by first | rfl | simp [cellsOf, *]) (by first | decide | simp [*]) (by repeat constructor) fun H4 st => ?_
  refine sE ?_
  show AWl _ _ _ _ _
  refine aMovV x rfl ?_
  refine aLen (st.slc hx) rfl ?_
  refine aN rfl rfl (by constructor) ?_
  refine sE ?_
  show AWl _ _ _ _ _
  refine aN rfl rfl (by constructor) ?_
  refine aLd st 0 rfl rfl rfl (by constructor) ?_
  refine aConvV (n := 6) (n' := 6) rfl (by decide) ?_
  refine sE ?_
  show AWl _ _ _ _ _
  refine aBinV (.bool false) rfl rfl rfl ?_
  refine aN rfl rfl (by constructor) ?_
  refine sE ?_
  show AW _ (.cond _ _ _) _ _ _
  refine cF' rfl ?_
  show AWl _ _ _ _ _
  refine aBinV (.bool false) rfl rfl rfl ?_
  refine aN rfl rfl (by constructor) ?_
  refine sE ?_
  show AW _ (.cond _ _ _) _ _ _
  refine cF' rfl ?_
  show AWl _ _ _ _ _
  refine aBinV (.bool false) rfl rfl rfl ?_
  refine aN rfl rfl (by constructor) ?_
  refine sE ?_
  show AW _ (.cond _ _ _) _ _ _
  refine cF' rfl ?_
  show AWl _ _ _ _ _
  refine aBinV (.bool false) rfl rfl rfl ?_
  refine aN rfl rfl (by constructor) ?_
  refine sE ?_
  show AW _ (.cond _ _ _) _ _ _
  refine cF' rfl ?_
  show AWl _ _ _ _ _
  refine aBinV (.bool true) rfl rfl rfl ?_
  refine aN rfl rfl (by constructor) ?_
  refine sE ?_
  show AW _ (.cond _ _ _) _ _ _
  refine cT rfl ?_
  show AWl _ _ _ _ _
  refine aN rfl rfl (by constructor) ?_
  refine aBinV (.bool false) rfl rfl rfl ?_
  refine aN rfl rfl (by constructor) ?_
  refine aSt st 0 rfl rfl rfl rfl (by first | rfl | simp [cellsOf, *]) (by first | decide | simp [*]) (by repeat constructor) fun H5 st => ?_
  refine sE ?_
  show AWl _ _ _ _ _
  refine aN rfl rfl (by constructor) ?_
  refine aBinV (.bool false) rfl rfl rfl ?_
  refine sE ?_
  show AW _ (.cond _ _ _) _ _ _
  refine cF' rfl ?_
  show AWl _ _ _ _ _
  refine aLdA st 0 rfl rfl (by first | decide | simp [*]) (by repeat constructor) ?_
  refine aSt st 1 rfl rfl rfl rfl (by first | rfl | simp [cellsOf, *]) (by first | decide | simp [*]) (by repeat constructor) fun H6 st => ?_
  refine aN rfl rfl (by constructor) ?_
  refine aN rfl rfl (by constructor) ?_
  refine sE ?_
  refine ⟨_, out3 (r_cellA st 1 rfl rfl (by first | decide | simp [*]) (by repeat constructor)) (r_tmp rfl (by constructor)) (r_tmp rfl (by constructor)) ⟨rfl, rfl, rfl⟩, ?_⟩
  try simp only [b_quo q1 (show (0 : Int) < 32 by decide), b_quorem 2 q1 (show (0 : Int) < 8 by decide), b_quorem 2 q1 (show (0 : Int) < 2 by decide), b_quo q1 (show (0 : Int) < 16 by decide), b_rem 2 q1, b_quo q2 (show (0 : Int) < 64 by decide), b_rem 64 q2, q4, q13]
  have hF : fillF 6 10 xs = (-1, 0) := rfl
  exact ⟨by rw [hF]; rfl, st.drop⟩
theorem told6_16 {H : Hp} {xs : List Int} {x : Value} {sv : Int} (hx : Sl H 1 16 (xs.map (Value.int .u8)) x) (hb : ByteL xs) (hlen : xs.length = 16) (hq : True) (hop : kindL (xs.getD 0 0) = 6) :
    ACalls Try.prog 22 [x, .int .u8 sv] H (fun v H' => v = .tuple #[.agg #[.int .u8 (fillC 6 16 xs sv).kind, .bool (fillC 6 16 xs sv).long, .int .u64 (fillC 6 16 xs sv).lba, .int .u64 (fillC 6 16 xs sv).blocks, .int .i64 (fillC 6 16 xs sv).alloc, .bool (fillC 6 16 xs sv).fua, .int .u8 (fillC 6 16 xs sv).prot, .bool (fillC 6 16 xs sv).unmap, .bool (fillC 6 16 xs sv).evpd, .int .u8 (fillC 6 16 xs sv).page, .int .u8 (fillC 6 16 xs sv).control, .bool (fillC 6 16 xs sv).save, .int .u8 (fillC 6 16 xs sv).service, .int .u8 (fillC 6 16 xs sv).type, .bool (fillC 6 16 xs sv).bytes], .int .i64 (fillF 6 16 xs).1, .int .i64 (fillF 6 16 xs).2] ∧ Stt [] H H' []) := by
  refine acallsW Try.func22 f22_ok (Nat.le_of_ble_eq_true rfl) fun hw => ?_
  have st : Stt [] H H [] := Stt.start hw
  have q1 := hb.getD ((1 : Int)).toNat
  have q2 := hb.getD ((2 : Int)).toNat
  have q4 : IntKind.i64.wrap (xs.getD ((4 : Int)).toNat 0) = xs.getD 4 0 := wi _ (by have := hb.getD ((4 : Int)).toNat; omega)
  have q13 : IntKind.u64.wrap (xs.getD ((4 : Int)).toNat 0) = xs.getD 4 0 := by have := hb.getD ((4 : Int)).toNat; rw [w64]; show (xs.getD ((4 : Int)).toNat 0) % _ = xs.getD ((4 : Int)).toNat 0; omega
  unfold f22c
  show AWl _ _ _ _ _
  refine aNewP st rfl rfl (by repeat constructor) fun b4 H1 st => ?_
  refine aN rfl rfl (by constructor) ?_
  refine aN rfl rfl (by constructor) ?_
  refine sE ?_
  show AWl _ _ _ _ _
  refine aMovV x rfl ?_
  refine aIxBK (st.slc hx) rfl rfl (by first | decide | omega) fun b10 o10 g10 => ?_
  refine aLdG rfl (g10 _ (st.slc hx)) ?_
  refine aC (rkind_call) fun v12 H2 ⟨hv, st1⟩ => ?_
  subst hv
  replace st := st.call st1 rfl
  clear st1
  rw [show kindL (xs.getD ((0 : Int)).toNat 0) = 6 from hop]
  refine aConvV (n := 6) (n' := 6) rfl (by decide) ?_
  refine aBld rfl (by repeat constructor) ?_
  refine aNewP st rfl rfl (by repeat constructor) fun b7 H3 st => ?_
  refine aSt st 0 rfl rfl rfl rfl (by first | rfl | simp [cellsOf, *]) (by first | decide | simp [*]) (by repeat constructor) fun H4 st => ?_
  refine sE ?_
  show AWl _ _ _ _ _
  refine aMovV x rfl ?_
  refine aLen (st.slc hx) rfl ?_
  refine aN rfl rfl (by constructor) ?_
  refine sE ?_
  show AWl _ _ _ _ _
  refine aN rfl rfl (by constructor) ?_
  refine aLd st 0 rfl rfl rfl (by constructor) ?_
  refine aConvV (n := 6) (n' := 6) rfl (by decide) ?_
  refine sE ?_
  show AWl _ _ _ _ _
  refine aBinV (.bool false) rfl rfl rfl ?_
  refine aN rfl rfl (by constructor) ?_
  refine sE ?_
  show AW _ (.cond _ _ _) _ _ _
  refine cF' rfl ?_
  show AWl _ _ _ _ _
  refine aBinV (.bool false) rfl rfl rfl ?_
  refine aN rfl rfl (by constructor) ?_
  refine sE ?_
  show AW _ (.cond _ _ _) _ _ _
  refine cF' rfl ?_
  show AWl _ _ _ _ _
  refine aBinV (.bool false) rfl rfl rfl ?_
  refine aN rfl rfl (by constructor) ?_
  refine sE ?_
  show AW _ (.cond _ _ _) _ _ _
  refine cF' rfl ?_
  show AWl _ _ _ _ _
  refine aBinV (.bool false) rfl rfl rfl ?_
  refine aN rfl rfl (by constructor) ?_
  refine sE ?_
  show AW _ (.cond _ _ _) _ _ _
  refine cF' rfl ?_
  show AWl _ _ _ _ _
  refine aBinV (.bool true) rfl rfl rfl ?_
  refine aN rfl rfl (by constructor) ?_
  refine sE ?_
  show AW _ (.cond _ _ _) _ _ _
  refine cT rfl ?_
  show AWl _ _ _ _ _
  refine aN rfl rfl (by constructor) ?_
  refine aBinV (.bool true) rfl rfl rfl ?_
  refine aN rfl rfl (by constructor) ?_
  refine aSt st 0 rfl rfl rfl rfl (by first | rfl | simp [cellsOf, *]) (by first | decide | simp [*]) (by repeat constructor) fun H5 st => ?_
  refine sE ?_
  show AWl _ _ _ _ _
  refine aN rfl rfl (by constructor) ?_
  refine aBinV (.bool true) rfl rfl rfl ?_
  refine sE ?_
  show AW _ (.cond _ _ _) _ _ _
  refine cT rfl ?_
  show AWl _ _ _ _ _
  refine aMovV x rfl ?_
  refine aC (rnum_call (by rw [hlen]; exact (st.slc hx)) hb (by omega) (by decide)) fun v108 H6 ⟨hv, st1⟩ => ?_
  subst hv
  replace st := st.call st1 rfl
  clear st1
  refine aN rfl rfl (by constructor) ?_
  refine aN rfl rfl (by constructor) ?_
  refine aSt st 0 rfl rfl rfl rfl (by first | rfl | simp [cellsOf, *]) (by first | decide | simp [*]) (by repeat constructor) fun H7 st => ?_
  refine sE ?_
  show AWl _ _ _ _ _
  refine aLdA st 0 rfl rfl (by first | decide | simp [*]) (by repeat constructor) ?_
  refine aSt st 1 rfl rfl rfl rfl (by first | rfl | simp [cellsOf, *]) (by first | decide | simp [*]) (by repeat constructor) fun H8 st => ?_
  refine aN rfl rfl (by constructor) ?_
  refine aN rfl rfl (by constructor) ?_
  refine sE ?_
  refine ⟨_, out3 (r_cellA st 1 rfl rfl (by first | decide | simp [*]) (by repeat constructor)) (r_tmp rfl (by constructor)) (r_tmp rfl (by constructor)) ⟨rfl, rfl, rfl⟩, ?_⟩
  try simp only [b_quo q1 (show (0 : Int) < 32 by decide), b_quorem 2 q1 (show (0 : Int) < 8 by decide), b_quorem 2 q1 (show (0 : Int) < 2 by decide), b_quo q1 (show (0 : Int) < 16 by decide), b_rem 2 q1, b_quo q2 (show (0 : Int) < 64 by decide), b_rem 64 q2, q4, q13]
  have hF : fillF 6 16 xs = (-1, 0) := rfl
  exact ⟨by rw [hF]; rfl, st.drop⟩
theorem told13_10 {H : Hp} {xs : List Int} {x : Value} {sv : Int} (hx : Sl H 1 10 (xs.map (Value.int .u8)) x) (hb : ByteL xs) (hlen : xs.length = 10) (hq : True) (hop : kindL (xs.getD 0 0) = 13) :
    ACalls Try.prog 22 [x, .int .u8 sv] H (fun v H' => v = .tuple #[.agg #[.int .u8 (fillC 13 10 xs sv).kind, .bool (fillC 13 10 xs sv).long, .int .u64 (fillC 13 10 xs sv).lba, .int .u64 (fillC 13 10 xs sv).blocks, .int .i64 (fillC 13 10 xs sv).alloc, .bool (fillC 13 10 xs sv).fua, .int .u8 (fillC 13 10 xs sv).prot, .bool (fillC 13 10 xs sv).unmap, .bool (fillC 13 10 xs sv).evpd, .int .u8 (fillC 13 10 xs sv).page, .int .u8 (fillC 13 10 xs sv).control, .bool (fillC 13 10 xs sv).save, .int .u8 (fillC 13 10 xs sv).service, .int .u8 (fillC 13 10 xs sv).type, .bool (fillC 13 10 xs sv).bytes], .int .i64 (fillF 13 10 xs).1, .int .i64 (fillF 13 10 xs).2] ∧ Stt [] H H' []) := by
  refine acallsW Try.func22 f22_ok (Nat.le_of_ble_eq_true rfl) fun hw => ?_
  have st : Stt [] H H [] := Stt.start hw
  have q1 := hb.getD ((1 : Int)).toNat
  have q2 := hb.getD ((2 : Int)).toNat
  have q4 : IntKind.i64.wrap (xs.getD ((4 : Int)).toNat 0) = xs.getD 4 0 := wi _ (by have := hb.getD ((4 : Int)).toNat; omega)
  have q13 : IntKind.u64.wrap (xs.getD ((4 : Int)).toNat 0) = xs.getD 4 0 := by have := hb.getD ((4 : Int)).toNat; rw [w64]; show (xs.getD ((4 : Int)).toNat 0) % _ = xs.getD ((4 : Int)).toNat 0; omega
  unfold f22c
  show AWl _ _ _ _ _
  refine aNewP st rfl rfl (by repeat constructor) fun b4 H1 st => ?_
  refine aN rfl rfl (by constructor) ?_
  refine aN rfl rfl (by constructor) ?_
  refine sE ?_
  show AWl _ _ _ _ _
  refine aMovV x rfl ?_
  refine aIxBK (st.slc hx) rfl rfl (by first | decide | omega) fun b10 o10 g10 => ?_
  refine aLdG rfl (g10 _ (st.slc hx)) ?_
  refine aC (rkind_call) fun v12 H2 ⟨hv, st1⟩ => ?_
  subst hv
  replace st := st.call st1 rfl
  clear st1
  rw [show kindL (xs.getD ((0 : Int)).toNat 0) = 13 from hop]
  refine aConvV (n := 13) (n' := 13) rfl (by decide) ?_
  refine aBld rfl (by repeat constructor) ?_
  refine aNewP st rfl rfl (by repeat constructor) fun b7 H3 st => ?_
  refine aSt st 0 rfl rfl rfl rfl (by first | rfl | simp [cellsOf, *]) (by first | decide | simp [*]) (by repeat constructor) fun H4 st => ?_
  refine sE ?_
  show AWl _ _ _ _ _
  refine aMovV x rfl ?_
  refine aLen (st.slc hx) rfl ?_
  refine aN rfl rfl (by constructor) ?_
  refine sE ?_
  show AWl _ _ _ _ _
  refine aN rfl rfl (by constructor) ?_
  refine aLd st 0 rfl rfl rfl (by constructor) ?_
  refine aConvV (n := 13) (n' := 13) rfl (by decide) ?_
  refine sE ?_
  show AWl _ _ _ _ _
  refine aBinV (.bool false) rfl rfl rfl ?_
  refine aN rfl rfl (by constructor) ?_
  refine sE ?_
  show AW _ (.cond _ _ _) _ _ _
  refine cF' rfl ?_
  show AWl _ _ _ _ _
  refine aBinV (.bool false) rfl rfl rfl ?_
  refine aN rfl rfl (by constructor) ?_
  refine sE ?_
  show AW _ (.cond _ _ _) _ _ _
  refine cF' rfl ?_
  show AWl _ _ _ _ _
  refine aBinV (.bool false) rfl rfl rfl ?_
  refine aN rfl rfl (by constructor) ?_
  refine sE ?_
  show AW _ (.cond _ _ _) _ _ _
  refine cF' rfl ?_
  show AWl _ _ _ _ _
  refine aBinV (.bool false) rfl rfl rfl ?_
  refine aN rfl rfl (by constructor) ?_
  refine sE ?_
  show AW _ (.cond _ _ _) _ _ _
  refine cF' rfl ?_
  show AWl _ _ _ _ _
  refine aBinV (.bool false) rfl rfl rfl ?_
  refine aN rfl rfl (by constructor) ?_
  refine sE ?_
  show AW _ (.cond _ _ _) _ _ _
  refine cF' rfl ?_
  show AWl _ _ _ _ _
  refine aBinV (.bool true) rfl rfl rfl ?_
  refine aN rfl rfl (by constructor) ?_
  refine sE ?_
  show AW _ (.cond _ _ _) _ _ _
  refine cT rfl ?_
  show AWl _ _ _ _ _
  refine aMovV x rfl ?_
  refine aC (rnum_call (by rw [hlen]; exact (st.slc hx)) hb (by omega) (by decide)) fun v114 H5 ⟨hv, st1⟩ => ?_
  subst hv
  replace st := st.call st1 rfl
  clear st1
  refine aN rfl rfl (by constructor) ?_
  refine aN rfl rfl (by constructor) ?_
  refine aSt st 0 rfl rfl rfl rfl (by first | rfl | simp [cellsOf, *]) (by first | decide | simp [*]) (by repeat constructor) fun H6 st => ?_
  refine sE ?_
  show AWl _ _ _ _ _
  refine aLdA st 0 rfl rfl (by first | decide | simp [*]) (by repeat constructor) ?_
  refine aSt st 1 rfl rfl rfl rfl (by first | rfl | simp [cellsOf, *]) (by first | decide | simp [*]) (by repeat constructor) fun H7 st => ?_
  refine aN rfl rfl (by constructor) ?_
  refine aN rfl rfl (by constructor) ?_
  refine sE ?_
  refine ⟨_, out3 (r_cellA st 1 rfl rfl (by first | decide | simp [*]) (by repeat constructor)) (r_tmp rfl (by constructor)) (r_tmp rfl (by constructor)) ⟨rfl, rfl, rfl⟩, ?_⟩
  try simp only [b_quo q1 (show (0 : Int) < 32 by decide), b_quorem 2 q1 (show (0 : Int) < 8 by decide), b_quorem 2 q1 (show (0 : Int) < 2 by decide), b_quo q1 (show (0 : Int) < 16 by decide), b_rem 2 q1, b_quo q2 (show (0 : Int) < 64 by decide), b_rem 64 q2, q4, q13]
  have hF : fillF 13 10 xs = (-1, 0) := rfl
  exact ⟨by rw [hF]; rfl, st.drop⟩
theorem told14_16 {H : Hp} {xs : List Int} {x : Value} {sv : Int} (hx : Sl H 1 16 (xs.map (Value.int .u8)) x) (hb : ByteL xs) (hlen : xs.length = 16) (hq : True) (hop : kindL (xs.getD 0 0) = 14) :
    ACalls Try.prog 22 [x, .int .u8 sv] H (fun v H' => v = .tuple #[.agg #[.int .u8 (fillC 14 16 xs sv).kind, .bool (fillC 14 16 xs sv).long, .int .u64 (fillC 14 16 xs sv).lba, .int .u64 (fillC 14 16 xs sv).blocks, .int .i64 (fillC 14 16 xs sv).alloc, .bool (fillC 14 16 xs sv).fua, .int .u8 (fillC 14 16 xs sv).prot, .bool (fillC 14 16 xs sv).unmap, .bool (fillC 14 16 xs sv).evpd, .int .u8 (fillC 14 16 xs sv).page, .int .u8 (fillC 14 16 xs sv).control, .bool (fillC 14 16 xs sv).save, .int .u8 (fillC 14 16 xs sv).service, .int .u8 (fillC 14 16 xs sv).type, .bool (fillC 14 16 xs sv).bytes], .int .i64 (fillF 14 16 xs).1, .int .i64 (fillF 14 16 xs).2] ∧ Stt [] H H' []) := by
  refine acallsW Try.func22 f22_ok (Nat.le_of_ble_eq_true rfl) fun hw => ?_
  have st : Stt [] H H [] := Stt.start hw
  have q1 := hb.getD ((1 : Int)).toNat
  have q2 := hb.getD ((2 : Int)).toNat
  have q4 : IntKind.i64.wrap (xs.getD ((4 : Int)).toNat 0) = xs.getD 4 0 := wi _ (by have := hb.getD ((4 : Int)).toNat; omega)
  have q13 : IntKind.u64.wrap (xs.getD ((4 : Int)).toNat 0) = xs.getD 4 0 := by have := hb.getD ((4 : Int)).toNat; rw [w64]; show (xs.getD ((4 : Int)).toNat 0) % _ = xs.getD ((4 : Int)).toNat 0; omega
  unfold f22c
  show AWl _ _ _ _ _
  refine aNewP st rfl rfl (by repeat constructor) fun b4 H1 st => ?_
  refine aN rfl rfl (by constructor) ?_
  refine aN rfl rfl (by constructor) ?_
  refine sE ?_
  show AWl _ _ _ _ _
  refine aMovV x rfl ?_
  refine aIxBK (st.slc hx) rfl rfl (by first | decide | omega) fun b10 o10 g10 => ?_
  refine aLdG rfl (g10 _ (st.slc hx)) ?_
  refine aC (rkind_call) fun v12 H2 ⟨hv, st1⟩ => ?_
  subst hv
  replace st := st.call st1 rfl
  clear st1
  rw [show kindL (xs.getD ((0 : Int)).toNat 0) = 14 from hop]
  refine aConvV (n := 14) (n' := 14) rfl (by decide) ?_
  refine aBld rfl (by repeat constructor) ?_
  refine aNewP st rfl rfl (by repeat constructor) fun b7 H3 st => ?_
  refine aSt st 0 rfl rfl rfl rfl (by first | rfl | simp [cellsOf, *]) (by first | decide | simp [*]) (by repeat constructor) fun H4 st => ?_
  refine sE ?_
  show AWl _ _ _ _ _
  refine aMovV x rfl ?_
  refine aLen (st.slc hx) rfl ?_
  refine aN rfl rfl (by constructor) ?_
  refine sE ?_
  show AWl _ _ _ _ _
  refine aN rfl rfl (by constructor) ?_
  refine aLd st 0 rfl rfl rfl (by constructor) ?_
  refine aConvV (n := 14) (n' := 14) rfl (by decide) ?_
  refine sE ?_
  show AWl _ _ _ _ _
  refine aBinV (.bool false) rfl rfl rfl ?_
  refine aN rfl rfl (by constructor) ?_
  refine sE ?_
  show AW _ (.cond _ _ _) _ _ _
  refine cF' rfl ?_
  show AWl _ _ _ _ _
  refine aBinV (.bool false) rfl rfl rfl ?_
  refine aN rfl rfl (by constructor) ?_
  refine sE ?_
  show AW _ (.cond _ _ _) _ _ _
  refine cF' rfl ?_
  show AWl _ _ _ _ _
  refine aBinV (.bool false) rfl rfl rfl ?_
  refine aN rfl rfl (by constructor) ?_
  refine sE ?_
  show AW _ (.cond _ _ _) _ _ _
  refine cF' rfl ?_
  show AWl _ _ _ _ _
  refine aBinV (.bool false) rfl rfl rfl ?_
  refine aN rfl rfl (by constructor) ?_
  refine sE ?_
  show AW _ (.cond _ _ _) _ _ _
  refine cF' rfl ?_
  show AWl _ _ _ _ _
  refine aBinV (.bool false) rfl rfl rfl ?_
  refine aN rfl rfl (by constructor) ?_
  refine sE ?_
  show AW _ (.cond _ _ _) _ _ _
  refine cF' rfl ?_
  show AWl _ _ _ _ _
  refine aBinV (.bool false) rfl rfl rfl ?_
  refine aN rfl rfl (by constructor) ?_
  refine sE ?_
  show AW _ (.cond _ _ _) _ _ _
  refine cF' rfl ?_
  show AWl _ _ _ _ _
  refine aBinV (.bool true) rfl rfl rfl ?_
  refine aN rfl rfl (by constructor) ?_
  refine sE ?_
  show AW _ (.cond _ _ _) _ _ _
  refine cT rfl ?_
  show AWl _ _ _ _ _
  refine aMovV x rfl ?_
  refine aC (rnum_call (by rw [hlen]; exact (st.slc hx)) hb (by omega) (by decide)) fun v120 H5 ⟨hv, st1⟩ => ?_
  subst hv
  replace st := st.call st1 rfl
  clear st1
  refine aN rfl rfl (by constructor) ?_
  refine aSt st 0 rfl rfl rfl rfl (by first | rfl | simp [cellsOf, *]) (by first | decide | simp [*]) (by repeat constructor) fun H6 st => ?_
  refine sE ?_
  show AWl _ _ _ _ _
  refine aMovV x rfl ?_
  refine aC (rnum_call (by rw [hlen]; exact (st.slc hx)) hb (by omega) (by decide)) fun v123 H7 ⟨hv, st1⟩ => ?_
  subst hv
  replace st := st.call st1 rfl
  clear st1
  refine aN rfl rfl (by constructor) ?_
  refine aSt st 0 rfl rfl rfl rfl (by first | rfl | simp [cellsOf, *]) (by first | decide | simp [*]) (by repeat constructor) fun H8 st => ?_
  refine sE ?_
  show AWl _ _ _ _ _
  refine aMovV x rfl ?_
  refine aIxBK (st.slc hx) rfl rfl (by first | decide | omega) fun b126 o126 g126 => ?_
  refine aLdG rfl (g126 _ (st.slc hx)) ?_
  refine aN rfl rfl (by constructor) ?_
  refine aN rfl rfl (by constructor) ?_
  refine aSt st 0 rfl rfl rfl rfl (by first | rfl | simp [cellsOf, *]) (by first | decide | simp [*]) (by repeat constructor) fun H9 st => ?_
  refine sE ?_
  show AWl _ _ _ _ _
  refine aMovV x rfl ?_
  refine aIxBK (st.slc hx) rfl rfl (by first | decide | omega) fun b131 o131 g131 => ?_
  refine aLdG rfl (g131 _ (st.slc hx)) ?_
  refine aN rfl rfl (by constructor) ?_
  refine aN rfl rfl (by constructor) ?_
  refine aN rfl rfl (by constructor) ?_
  refine aN rfl rfl (by constructor) ?_
  refine aSt st 0 rfl rfl rfl rfl (by first | rfl | simp [cellsOf, *]) (by first | decide | simp [*]) (by repeat constructor) fun H10 st => ?_
  refine sE ?_
  show AWl _ _ _ _ _
  refine aLdA st 0 rfl rfl (by first | decide | simp [*]) (by repeat constructor) ?_
  refine aSt st 1 rfl rfl rfl rfl (by first | rfl | simp [cellsOf, *]) (by first | decide | simp [*]) (by repeat constructor) fun H11 st => ?_
  refine aN rfl rfl (by constructor) ?_
  refine aN rfl rfl (by constructor) ?_
  refine sE ?_
  refine ⟨_, out3 (r_cellA st 1 rfl rfl (by first | decide | simp [*]) (by repeat constructor)) (r_tmp rfl (by constructor)) (r_tmp rfl (by constructor)) ⟨rfl, rfl, rfl⟩, ?_⟩
  try simp only [b_quo q1 (show (0 : Int) < 32 by decide), b_quorem 2 q1 (show (0 : Int) < 8 by decide), b_quorem 2 q1 (show (0 : Int) < 2 by decide), b_quo q1 (show (0 : Int) < 16 by decide), b_rem 2 q1, b_quo q2 (show (0 : Int) < 64 by decide), b_rem 64 q2, q4, q13]
  have hF : fillF 14 16 xs = (-1, 0) := rfl
  rw [show rgetV xs 13 1 = xs.getD 13 0 from one_byte (a := 13) (by omega)]
  exact ⟨by rw [hF]; rfl, st.drop⟩
theorem told15_10 {H : Hp} {xs : List Int} {x : Value} {sv : Int} (hx : Sl H 1 10 (xs.map (Value.int .u8)) x) (hb : ByteL xs) (hlen : xs.length = 10) (hq : True) (hop : kindL (xs.getD 0 0) = 15) :
    ACalls Try.prog 22 [x, .int .u8 sv] H (fun v H' => v = .tuple #[.agg #[.int .u8 (fillC 15 10 xs sv).kind, .bool (fillC 15 10 xs sv).long, .int .u64 (fillC 15 10 xs sv).lba, .int .u64 (fillC 15 10 xs sv).blocks, .int .i64 (fillC 15 10 xs sv).alloc, .bool (fillC 15 10 xs sv).fua, .int .u8 (fillC 15 10 xs sv).prot, .bool (fillC 15 10 xs sv).unmap, .bool (fillC 15 10 xs sv).evpd, .int .u8 (fillC 15 10 xs sv).page, .int .u8 (fillC 15 10 xs sv).control, .bool (fillC 15 10 xs sv).save, .int .u8 (fillC 15 10 xs sv).service, .int .u8 (fillC 15 10 xs sv).type, .bool (fillC 15 10 xs sv).bytes], .int .i64 (fillF 15 10 xs).1, .int .i64 (fillF 15 10 xs).2] ∧ Stt [] H H' []) := by
  refine acallsW Try.func22 f22_ok (Nat.le_of_ble_eq_true rfl) fun hw => ?_
  have st : Stt [] H H [] := Stt.start hw
  have q1 := hb.getD ((1 : Int)).toNat
  have q2 := hb.getD ((2 : Int)).toNat
  have q4 : IntKind.i64.wrap (xs.getD ((4 : Int)).toNat 0) = xs.getD 4 0 := wi _ (by have := hb.getD ((4 : Int)).toNat; omega)
  have q13 : IntKind.u64.wrap (xs.getD ((4 : Int)).toNat 0) = xs.getD 4 0 := by have := hb.getD ((4 : Int)).toNat; rw [w64]; show (xs.getD ((4 : Int)).toNat 0) % _ = xs.getD ((4 : Int)).toNat 0; omega
  unfold f22c
  show AWl _ _ _ _ _
  refine aNewP st rfl rfl (by repeat constructor) fun b4 H1 st => ?_
  refine aN rfl rfl (by constructor) ?_
  refine aN rfl rfl (by constructor) ?_
  refine sE ?_
  show AWl _ _ _ _ _
  refine aMovV x rfl ?_
  refine aIxBK (st.slc hx) rfl rfl (by first | decide | omega) fun b10 o10 g10 => ?_
  refine aLdG rfl (g10 _ (st.slc hx)) ?_
  refine aC (rkind_call) fun v12 H2 ⟨hv, st1⟩ => ?_
  subst hv
  replace st := st.call st1 rfl
  clear st1
  rw [show kindL (xs.getD ((0 : Int)).toNat 0) = 15 from hop]
  refine aConvV (n := 15) (n' := 15) rfl (by decide) ?_
  refine aBld rfl (by repeat constructor) ?_
  refine aNewP st rfl rfl (by repeat constructor) fun b7 H3 st => ?_
  refine aSt st 0 rfl rfl rfl rfl (by first | rfl | simp [cellsOf, *]) (by first | decide | simp [*]) (by repeat constructor) fun H4 st => ?_
  refine sE ?_
  show AWl _ _ _ _ _
  refine aMovV x rfl ?_
  refine aLen (st.slc hx) rfl ?_
  refine aN rfl rfl (by constructor) ?_
  refine sE ?_
  show AWl _ _ _ _ _
  refine aN rfl rfl (by constructor) ?_
  refine aLd st 0 rfl rfl rfl (by constructor) ?_
  refine aConvV (n := 15) (n' := 15) rfl (by decide) ?_
  refine sE ?_
  show AWl _ _ _ _ _
  refine aBinV (.bool false) rfl rfl rfl ?_
  refine aN rfl rfl (by constructor) ?_
  refine sE ?_
  show AW _ (.cond _ _ _) _ _ _
  refine cF' rfl ?_
  show AWl _ _ _ _ _
  refine aBinV (.bool false) rfl rfl rfl ?_
  refine aN rfl rfl (by constructor) ?_
  refine sE ?_
  show AW _ (.cond _ _ _) _ _ _
  refine cF' rfl ?_
  show AWl _ _ _ _ _
  refine aBinV (.bool false) rfl rfl rfl ?_
  refine aN rfl rfl (by constructor) ?_
  refine sE ?_
  show AW _ (.cond _ _ _) _ _ _
  refine cF' rfl ?_
  show AWl _ _ _ _ _
  refine aBinV (.bool false) rfl rfl rfl ?_
  refine aN rfl rfl (by constructor) ?_
  refine sE ?_
  show AW _ (.cond _ _ _) _ _ _
  refine cF' rfl ?_
  show AWl _ _ _ _ _
  refine aBinV (.bool false) rfl rfl rfl ?_
  refine aN rfl rfl (by constructor) ?_
  refine sE ?_
  show AW _ (.cond _ _ _) _ _ _
  refine cF' rfl ?_
  show AWl _ _ _ _ _
  refine aBinV (.bool false) rfl rfl rfl ?_
  refine aN rfl rfl (by constructor) ?_
  refine sE ?_
  show AW _ (.cond _ _ _) _ _ _
  refine cF' rfl ?_
  show AWl _ _ _ _ _
  refine aBinV (.bool false) rfl rfl rfl ?_
  refine aN rfl rfl (by constructor) ?_
  refine sE ?_
  show AW _ (.cond _ _ _) _ _ _
  refine cF' rfl ?_
  show AWl _ _ _ _ _
  refine aBinV (.bool true) rfl rfl rfl ?_
  refine aN rfl rfl (by constructor) ?_
  refine sE ?_
  show AW _ (.cond _ _ _) _ _ _
  refine cT rfl ?_
  show AWl _ _ _ _ _
  refine aN rfl rfl (by constructor) ?_
  refine aN rfl rfl (by constructor) ?_
  refine aSt st 0 rfl rfl rfl rfl (by first | rfl | simp [cellsOf, *]) (by first | decide | simp [*]) (by repeat constructor) fun H5 st => ?_
  refine sE ?_
  show AWl _ _ _ _ _
  refine aMovV x rfl ?_
  refine aC (rnum_call (by rw [hlen]; exact (st.slc hx)) hb (by omega) (by decide)) fun v142 H6 ⟨hv, st1⟩ => ?_
  subst hv
  replace st := st.call st1 rfl
  clear st1
  refine aN rfl rfl (by constructor) ?_
  refine aN rfl rfl (by constructor) ?_
  refine aSt st 0 rfl rfl rfl rfl (by first | rfl | simp [cellsOf, *]) (by first | decide | simp [*]) (by repeat constructor) fun H7 st => ?_
  refine sE ?_
  show AWl _ _ _ _ _
  refine aLdA st 0 rfl rfl (by first | decide | simp [*]) (by repeat constructor) ?_
  refine aSt st 1 rfl rfl rfl rfl (by first | rfl | simp [cellsOf, *]) (by first | decide | simp [*]) (by repeat constructor) fun H8 st => ?_
  refine aN rfl rfl (by constructor) ?_
  refine aN rfl rfl (by constructor) ?_
  refine sE ?_
  refine ⟨_, out3 (r_cellA st 1 rfl rfl (by first | decide | simp [*]) (by repeat constructor)) (r_tmp rfl (by constructor)) (r_tmp rfl (by constructor)) ⟨rfl, rfl, rfl⟩, ?_⟩
  try simp only [b_quo q1 (show (0 : Int) < 32 by decide), b_quorem 2 q1 (show (0 : Int) < 8 by decide), b_quorem 2 q1 (show (0 : Int) < 2 by decide), b_quo q1 (show (0 : Int) < 16 by decide), b_rem 2 q1, b_quo q2 (show (0 : Int) < 64 by decide), b_rem 64 q2, q4, q13]
  have hF : fillF 15 10 xs = (-1, 0) := rfl
  exact ⟨by rw [hF]; rfl, st.drop⟩
theorem told16_10 {H : Hp} {xs : List Int} {x : Value} {sv : Int} (hx : Sl H 1 10 (xs.map (Value.int .u8)) x) (hb : ByteL xs) (hlen : xs.length = 10) (hq : xs.getD 2 0 < 16) (hop : kindL (xs.getD 0 0) = 16) :
    ACalls Try.prog 22 [x, .int .u8 sv] H (fun v H' => v = .tuple #[.agg #[.int .u8 (fillC 16 10 xs sv).kind, .bool (fillC 16 10 xs sv).long, .int .u64 (fillC 16 10 xs sv).lba, .int .u64 (fillC 16 10 xs sv).blocks, .int .i64 (fillC 16 10 xs sv).alloc, .bool (fillC 16 10 xs sv).fua, .int .u8 (fillC 16 10 xs sv).prot, .bool (fillC 16 10 xs sv).unmap, .bool (fillC 16 10 xs sv).evpd, .int .u8 (fillC 16 10 xs sv).page, .int .u8 (fillC 16 10 xs sv).control, .bool (fillC 16 10 xs sv).save, .int .u8 (fillC 16 10 xs sv).service, .int .u8 (fillC 16 10 xs sv).type, .bool (fillC 16 10 xs sv).bytes], .int .i64 (fillF 16 10 xs).1, .int .i64 (fillF 16 10 xs).2] ∧ Stt [] H H' []) := by
  refine acallsW Try.func22 f22_ok (Nat.le_of_ble_eq_true rfl) fun hw => ?_
  have st : Stt [] H H [] := Stt.start hw
  have q1 := hb.getD ((1 : Int)).toNat
  have q2 := hb.getD ((2 : Int)).toNat
  have q4 : IntKind.i64.wrap (xs.getD ((4 : Int)).toNat 0) = xs.getD 4 0 := wi _ (by have := hb.getD ((4 : Int)).toNat; omega)
  have q13 : IntKind.u64.wrap (xs.getD ((4 : Int)).toNat 0) = xs.getD 4 0 := by have := hb.getD ((4 : Int)).toNat; rw [w64]; show (xs.getD ((4 : Int)).toNat 0) % _ = xs.getD ((4 : Int)).toNat 0; omega
  unfold f22c
  show AWl _ _ _ _ _
  refine aNewP st rfl rfl (by repeat constructor) fun b4 H1 st => ?_
  refine aN rfl rfl (by constructor) ?_
  refine aN rfl rfl (by constructor) ?_
  refine sE ?_
  show AWl _ _ _ _ _
  refine aMovV x rfl ?_
  refine aIxBK (st.slc hx) rfl rfl (by first | decide | omega) fun b10 o10 g10 => ?_
  refine aLdG rfl (g10 _ (st.slc hx)) ?_
  refine aC (rkind_call) fun v12 H2 ⟨hv, st1⟩ => ?_
  subst hv
  replace st := st.call st1 rfl
  clear st1
  rw [show kindL (xs.getD ((0 : Int)).toNat 0) = 16 from hop]
  refine aConvV (n := 16) (n' := 16) rfl (by decide) ?_
  refine aBld rfl (by repeat constructor) ?_
  refine aNewP st rfl rfl (by repeat constructor) fun b7 H3 st => ?_
  refine aSt st 0 rfl rfl rfl rfl (by first | rfl | simp [cellsOf, *]) (by first | decide | simp [*]) (by repeat constructor) fun H4 st => ?_
  refine sE ?_
  show AWl _ _ _ _ _
  refine aMovV x rfl ?_
  refine aLen (st.slc hx) rfl ?_
  refine aN rfl rfl (by constructor) ?_
  refine sE ?_
  show AWl _ _ _ _ _
  refine aN rfl rfl (by constructor) ?_
  refine aLd st 0 rfl rfl rfl (by constructor) ?_
  refine aConvV (n := 16) (n' := 16) rfl (by decide) ?_
  refine sE ?_
  show AWl _ _ _ _ _
  refine aBinV (.bool false) rfl rfl rfl ?_
  refine aN rfl rfl (by constructor) ?_
  refine sE ?_
  show AW _ (.cond _ _ _) _ _ _
  refine cF' rfl ?_
  show AWl _ _ _ _ _
  refine aBinV (.bool false) rfl rfl rfl ?_
  refine aN rfl rfl (by constructor) ?_
  refine sE ?_
  show AW _ (.cond _ _ _) _ _ _
  refine cF' rfl ?_
  show AWl _ _ _ _ _
  refine aBinV (.bool false) rfl rfl rfl ?_
  refine aN rfl rfl (by constructor) ?_
  refine sE ?_
  show AW _ (.cond _ _ _) _ _ _
  refine cF' rfl ?_
  show AWl _ _ _ _ _
  refine aBinV (.bool false) rfl rfl rfl ?_
  refine aN rfl rfl (by constructor) ?_
  refine sE ?_
  show AW _ (.cond _ _ _) _ _ _
  refine cF' rfl ?_
  show AWl _ _ _ _ _
  refine aBinV (.bool false) rfl rfl rfl ?_
  refine aN rfl rfl (by constructor) ?_
  refine sE ?_
  show AW _ (.cond _ _ _) _ _ _
  refine cF' rfl ?_
  show AWl _ _ _ _ _
  refine aBinV (.bool false) rfl rfl rfl ?_
  refine aN rfl rfl (by constructor) ?_
  refine sE ?_
  show AW _ (.cond _ _ _) _ _ _
  refine cF' rfl ?_
  show AWl _ _ _ _ _
  refine aBinV (.bool false) rfl rfl rfl ?_
  refine aN rfl rfl (by constructor) ?_
  refine sE ?_
  show AW _ (.cond _ _ _) _ _ _
  refine cF' rfl ?_
  show AWl _ _ _ _ _
  refine aBinV (.bool false) rfl rfl rfl ?_
  refine aN rfl rfl (by constructor) ?_
  refine sE ?_
  show AW _ (.cond _ _ _) _ _ _
  refine cF' rfl ?_
  show AWl _ _ _ _ _
  refine aBinV (.bool true) rfl rfl rfl ?_
  refine aN rfl rfl (by constructor) ?_
  refine sE ?_
  show AW _ (.cond _ _ _) _ _ _
  refine cT rfl ?_
  show AWl _ _ _ _ _
  refine aN rfl rfl (by constructor) ?_
  refine aN rfl rfl (by constructor) ?_
  refine aSt st 0 rfl rfl rfl rfl (by first | rfl | simp [cellsOf, *]) (by first | decide | simp [*]) (by repeat constructor) fun H5 st => ?_
  refine sE ?_
  show AWl _ _ _ _ _
  refine aMovV x rfl ?_
  refine aIxBK (st.slc hx) rfl rfl (by first | decide | omega) fun b150 o150 g150 => ?_
  refine aLdG rfl (g150 _ (st.slc hx)) ?_
  refine aN rfl rfl (by constructor) ?_
  refine aSt st 0 rfl rfl rfl rfl (by first | rfl | simp [cellsOf, *]) (by first | decide | simp [*]) (by repeat constructor) fun H6 st => ?_
  refine sE ?_
  show AWl _ _ _ _ _
  refine aMovV x rfl ?_
  refine aC (rnum_call (by rw [hlen]; exact (st.slc hx)) hb (by omega) (by decide)) fun v154 H7 ⟨hv, st1⟩ => ?_
  subst hv
  replace st := st.call st1 rfl
  clear st1
  refine aN rfl rfl (by constructor) ?_
  refine aN rfl rfl (by constructor) ?_
  refine aSt st 0 rfl rfl rfl rfl (by first | rfl | simp [cellsOf, *]) (by first | decide | simp [*]) (by repeat constructor) fun H8 st => ?_
  refine sE ?_
  show AWl _ _ _ _ _
  refine aLdA st 0 rfl rfl (by first | decide | simp [*]) (by repeat constructor) ?_
  refine aSt st 1 rfl rfl rfl rfl (by first | rfl | simp [cellsOf, *]) (by first | decide | simp [*]) (by repeat constructor) fun H9 st => ?_
  refine aN rfl rfl (by constructor) ?_
  refine aN rfl rfl (by constructor) ?_
  refine sE ?_
  refine ⟨_, out3 (r_cellA st 1 rfl rfl (by first | decide | simp [*]) (by repeat constructor)) (r_tmp rfl (by constructor)) (r_tmp rfl (by constructor)) ⟨rfl, rfl, rfl⟩, ?_⟩
  try simp only [b_quo q1 (show (0 : Int) < 32 by decide), b_quorem 2 q1 (show (0 : Int) < 8 by decide), b_quorem 2 q1 (show (0 : Int) < 2 by decide), b_quo q1 (show (0 : Int) < 16 by decide), b_rem 2 q1, b_quo q2 (show (0 : Int) < 64 by decide), b_rem 64 q2, q4, q13]
  have hF : fillF 16 10 xs = (-1, 0) := rfl
  have hC : (fillC 16 10 xs sv).type = xs.getD 2 0 := m16_lt q2 hq
  rw [hC]
  exact ⟨by rw [hF]; rfl, st.drop⟩
theorem told17_12 {H : Hp} {xs : List Int} {x : Value} {sv : Int} (hx : Sl H 1 12 (xs.map (Value.int .u8)) x) (hb : ByteL xs) (hlen : xs.length = 12) (hq : True) (hop : kindL (xs.getD 0 0) = 17) :
    ACalls Try.prog 22 [x, .int .u8 sv] H (fun v H' => v = .tuple #[.agg #[.int .u8 (fillC 17 12 xs sv).kind, .bool (fillC 17 12 xs sv).long, .int .u64 (fillC 17 12 xs sv).lba, .int .u64 (fillC 17 12 xs sv).blocks, .int .i64 (fillC 17 12 xs sv).alloc, .bool (fillC 17 12 xs sv).fua, .int .u8 (fillC 17 12 xs sv).prot, .bool (fillC 17 12 xs sv).unmap, .bool (fillC 17 12 xs sv).evpd, .int .u8 (fillC 17 12 xs sv).page, .int .u8 (fillC 17 12 xs sv).control, .bool (fillC 17 12 xs sv).save, .int .u8 (fillC 17 12 xs sv).service, .int .u8 (fillC 17 12 xs sv).type, .bool (fillC 17 12 xs sv).bytes], .int .i64 (fillF 17 12 xs).1, .int .i64 (fillF 17 12 xs).2] ∧ Stt [] H H' []) := by
  refine acallsW Try.func22 f22_ok (Nat.le_of_ble_eq_true rfl) fun hw => ?_
  have st : Stt [] H H [] := Stt.start hw
  have q1 := hb.getD ((1 : Int)).toNat
  have q2 := hb.getD ((2 : Int)).toNat
  have q4 : IntKind.i64.wrap (xs.getD ((4 : Int)).toNat 0) = xs.getD 4 0 := wi _ (by have := hb.getD ((4 : Int)).toNat; omega)
  have q13 : IntKind.u64.wrap (xs.getD ((4 : Int)).toNat 0) = xs.getD 4 0 := by have := hb.getD ((4 : Int)).toNat; rw [w64]; show (xs.getD ((4 : Int)).toNat 0) % _ = xs.getD ((4 : Int)).toNat 0; omega
  unfold f22c
  show AWl _ _ _ _ _
  refine aNewP st rfl rfl (by repeat constructor) fun b4 H1 st => ?_
  refine aN rfl rfl (by constructor) ?_
  refine aN rfl rfl (by constructor) ?_
  refine sE ?_
  show AWl _ _ _ _ _
  refine aMovV x rfl ?_
  refine aIxBK (st.slc hx) rfl rfl (by first | decide | omega) fun b10 o10 g10 => ?_
  refine aLdG rfl (g10 _ (st.slc hx)) ?_
  refine aC (rkind_call) fun v12 H2 ⟨hv, st1⟩ => ?_
  subst hv
  replace st := st.call st1 rfl
  clear st1
  rw [show kindL (xs.getD ((0 : Int)).toNat 0) = 17 from hop]
  refine aConvV (n := 17) (n' := 17) rfl (by decide) ?_
  refine aBld rfl (by repeat constructor) ?_
  refine aNewP st rfl rfl (by repeat constructor) fun b7 H3 st => ?_
  refine aSt st 0 rfl rfl rfl rfl (by first | rfl | simp [cellsOf, *]) (by first | decide | simp [*]) (by repeat constructor) fun H4 st => ?_
  refine sE ?_
  show AWl _ _ _ _ _
  refine aMovV x rfl ?_
  refine aLen (st.slc hx) rfl ?_
  refine aN rfl rfl (by constructor) ?_
  refine sE ?_
  show AWl _ _ _ _ _
  refine aN rfl rfl (by constructor) ?_
  refine aLd st 0 rfl rfl rfl (by constructor) ?_
  refine aConvV (n := 17) (n' := 17) rfl (by decide) ?_
  refine sE ?_
  show AWl _ _ _ _ _
  refine aBinV (.bool false) rfl rfl rfl ?_
  refine aN rfl rfl (by constructor) ?_
  refine sE ?_
  show AW _ (.cond _ _ _) _ _ _
  refine cF' rfl ?_
  show AWl _ _ _ _ _
  refine aBinV (.bool false) rfl rfl rfl ?_
  refine aN rfl rfl (by constructor) ?_
  refine sE ?_
  show AW _ (.cond _ _ _) _ _ _
  refine cF' rfl ?_
  show AWl _ _ _ _ _
  refine aBinV (.bool false) rfl rfl rfl ?_
  refine aN rfl rfl (by constructor) ?_
  refine sE ?_
  show AW _ (.cond _ _ _) _ _ _
  refine cF' rfl ?_
  show AWl _ _ _ _ _
  refine aBinV (.bool false) rfl rfl rfl ?_
  refine aN rfl rfl (by constructor) ?_
  refine sE ?_
  show AW _ (.cond _ _ _) _ _ _
  refine cF' rfl ?_
  show AWl _ _ _ _ _
  refine aBinV (.bool false) rfl rfl rfl ?_
  refine aN rfl rfl (by constructor) ?_
  refine sE ?_
  show AW _ (.cond _ _ _) _ _ _
  refine cF' rfl ?_
  show AWl _ _ _ _ _
  refine aBinV (.bool false) rfl rfl rfl ?_
  refine aN rfl rfl (by constructor) ?_
  refine sE ?_
  show AW _ (.cond _ _ _) _ _ _
  refine cF' rfl ?_
  show AWl _ _ _ _ _
  refine aBinV (.bool false) rfl rfl rfl ?_
  refine aN rfl rfl (by constructor) ?_
  refine sE ?_
  show AW _ (.cond _ _ _) _ _ _
  refine cF' rfl ?_
  show AWl _ _ _ _ _
  refine aBinV (.bool false) rfl rfl rfl ?_
  refine aN rfl rfl (by constructor) ?_
  refine sE ?_
  show AW _ (.cond _ _ _) _ _ _
  refine cF' rfl ?_
  show AWl _ _ _ _ _
  refine aBinV (.bool false) rfl rfl rfl ?_
  refine aN rfl rfl (by constructor) ?_
  refine sE ?_
  show AW _ (.cond _ _ _) _ _ _
  refine cF' rfl ?_
  show AWl _ _ _ _ _
  refine aBinV (.bool true) rfl rfl rfl ?_
  refine aN rfl rfl (by constructor) ?_
  refine sE ?_
  show AW _ (.cond _ _ _) _ _ _
  refine cT rfl ?_
  show AWl _ _ _ _ _
  refine aMovV x rfl ?_
  refine aIxBK (st.slc hx) rfl rfl (by first | decide | omega) fun b160 o160 g160 => ?_
  refine aLdG rfl (g160 _ (st.slc hx)) ?_
  refine aN rfl rfl (by constructor) ?_
  refine aSt st 0 rfl rfl rfl rfl (by first | rfl | simp [cellsOf, *]) (by first | decide | simp [*]) (by repeat constructor) fun H5 st => ?_
  refine sE ?_
  show AWl _ _ _ _ _
  refine aMovV x rfl ?_
  refine aC (rnum_call (by rw [hlen]; exact (st.slc hx)) hb (by omega) (by decide)) fun v164 H6 ⟨hv, st1⟩ => ?_
  subst hv
  replace st := st.call st1 rfl
  clear st1
  refine aN rfl rfl (by constructor) ?_
  refine aN rfl rfl (by constructor) ?_
  refine aSt st 0 rfl rfl rfl rfl (by first | rfl | simp [cellsOf, *]) (by first | decide | simp [*]) (by repeat constructor) fun H7 st => ?_
  refine sE ?_
  show AWl _ _ _ _ _
  refine aMovV x rfl ?_
  refine aIxBK (st.slc hx) rfl rfl (by first | decide | omega) fun b168 o168 g168 => ?_
  refine aLdG rfl (g168 _ (st.slc hx)) ?_
  refine aN rfl rfl (by constructor) ?_
  refine sE ?_
  show AW _ (.cond _ _ _) _ _ _
  refine cC' rfl (fun h8 => ?_) (fun h8 => ?_)
  · show AWl _ _ _ _ _
    refine aLdA st 0 rfl rfl (by first | decide | simp [*]) (by repeat constructor) ?_
    refine aSt st 1 rfl rfl rfl rfl (by first | rfl | simp [cellsOf, *]) (by first | decide | simp [*]) (by repeat constructor) fun H9 st => ?_
    refine aN rfl rfl (by constructor) ?_
    refine aN rfl rfl (by constructor) ?_
    refine sE ?_
    refine ⟨_, out3 (r_cellA st 1 rfl rfl (by first | decide | simp [*]) (by repeat constructor)) (r_tmp rfl (by constructor)) (r_tmp rfl (by constructor)) ⟨rfl, rfl, rfl⟩, ?_⟩
    try simp only [b_quo q1 (show (0 : Int) < 32 by decide), b_quorem 2 q1 (show (0 : Int) < 8 by decide), b_quorem 2 q1 (show (0 : Int) < 2 by decide), b_quo q1 (show (0 : Int) < 16 by decide), b_rem 2 q1, b_quo q2 (show (0 : Int) < 64 by decide), b_rem 64 q2, q4, q13] at h8
    try simp only [b_quo q1 (show (0 : Int) < 32 by decide), b_quorem 2 q1 (show (0 : Int) < 8 by decide), b_quorem 2 q1 (show (0 : Int) < 2 by decide), b_quo q1 (show (0 : Int) < 16 by decide), b_rem 2 q1, b_quo q2 (show (0 : Int) < 64 by decide), b_rem 64 q2, q4, q13]
    have hF : fillF 17 12 xs = (2, 1) := by show (if xs.getD 2 0 = 3 then ((2 : Int), (1 : Int)) else (-1, 0)) = _; rw [if_pos (by simpa using h8)]
    exact ⟨by rw [hF]; rfl, st.drop⟩
  · show AWl _ _ _ _ _
    refine aLdA st 0 rfl rfl (by first | decide | simp [*]) (by repeat constructor) ?_
    refine aSt st 1 rfl rfl rfl rfl (by first | rfl | simp [cellsOf, *]) (by first | decide | simp [*]) (by repeat constructor) fun H10 st => ?_
    refine aN rfl rfl (by constructor) ?_
    refine aN rfl rfl (by constructor) ?_
    refine sE ?_
    refine ⟨_, out3 (r_cellA st 1 rfl rfl (by first | decide | simp [*]) (by repeat constructor)) (r_tmp rfl (by constructor)) (r_tmp rfl (by constructor)) ⟨rfl, rfl, rfl⟩, ?_⟩
    try simp only [b_quo q1 (show (0 : Int) < 32 by decide), b_quorem 2 q1 (show (0 : Int) < 8 by decide), b_quorem 2 q1 (show (0 : Int) < 2 by decide), b_quo q1 (show (0 : Int) < 16 by decide), b_rem 2 q1, b_quo q2 (show (0 : Int) < 64 by decide), b_rem 64 q2, q4, q13] at h8
    try simp only [b_quo q1 (show (0 : Int) < 32 by decide), b_quorem 2 q1 (show (0 : Int) < 8 by decide), b_quorem 2 q1 (show (0 : Int) < 2 by decide), b_quo q1 (show (0 : Int) < 16 by decide), b_rem 2 q1, b_quo q2 (show (0 : Int) < 64 by decide), b_rem 64 q2, q4, q13]
    have hF : fillF 17 12 xs = (-1, 0) := by show (if xs.getD 2 0 = 3 then ((2 : Int), (1 : Int)) else (-1, 0)) = _; rw [if_neg (by simpa using h8)]
    exact ⟨by rw [hF]; rfl, st.drop⟩
theorem told18_16 {H : Hp} {xs : List Int} {x : Value} {sv : Int} (hx : Sl H 1 16 (xs.map (Value.int .u8)) x) (hb : ByteL xs) (hlen : xs.length = 16) (hq : True) (hop : kindL (xs.getD 0 0) = 18) :
    ACalls Try.prog 22 [x, .int .u8 sv] H (fun v H' => v = .tuple #[.agg #[.int .u8 (fillC 18 16 xs sv).kind, .bool (fillC 18 16 xs sv).long, .int .u64 (fillC 18 16 xs sv).lba, .int .u64 (fillC 18 16 xs sv).blocks, .int .i64 (fillC 18 16 xs sv).alloc, .bool (fillC 18 16 xs sv).fua, .int .u8 (fillC 18 16 xs sv).prot, .bool (fillC 18 16 xs sv).unmap, .bool (fillC 18 16 xs sv).evpd, .int .u8 (fillC 18 16 xs sv).page, .int .u8 (fillC 18 16 xs sv).control, .bool (fillC 18 16 xs sv).save, .int .u8 (fillC 18 16 xs sv).service, .int .u8 (fillC 18 16 xs sv).type, .bool (fillC 18 16 xs sv).bytes], .int .i64 (fillF 18 16 xs).1, .int .i64 (fillF 18 16 xs).2] ∧ Stt [] H H' []) := by
  refine acallsW Try.func22 f22_ok (Nat.le_of_ble_eq_true rfl) fun hw => ?_
  have st : Stt [] H H [] := Stt.start hw
  have q1 := hb.getD ((1 : Int)).toNat
  have q2 := hb.getD ((2 : Int)).toNat
  have q4 : IntKind.i64.wrap (xs.getD ((4 : Int)).toNat 0) = xs.getD 4 0 := wi _ (by have := hb.getD ((4 : Int)).toNat; omega)
  have q13 : IntKind.u64.wrap (xs.getD ((4 : Int)).toNat 0) = xs.getD 4 0 := by have := hb.getD ((4 : Int)).toNat; rw [w64]; show (xs.getD ((4 : Int)).toNat 0) % _ = xs.getD ((4 : Int)).toNat 0; omega
  unfold f22c
  show AWl _ _ _ _ _
  refine aNewP st rfl rfl (by repeat constructor) fun b4 H1 st => ?_
  refine aN rfl rfl (by constructor) ?_
  refine aN rfl rfl (by constructor) ?_
  refine sE ?_
  show AWl _ _ _ _ _
  refine aMovV x rfl ?_
  refine aIxBK (st.slc hx) rfl rfl (by first | decide | omega) fun b10 o10 g10 => ?_
  refine aLdG rfl (g10 _ (st.slc hx)) ?_
  refine aC (rkind_call) fun v12 H2 ⟨hv, st1⟩ => ?_
  subst hv
  replace st := st.call st1 rfl
  clear st1
  rw [show kindL (xs.getD ((0 : Int)).toNat 0) = 18 from hop]
  refine aConvV (n := 18) (n' := 18) rfl (by decide) ?_
  refine aBld rfl (by repeat constructor) ?_
  refine aNewP st rfl rfl (by repeat constructor) fun b7 H3 st => ?_
  refine aSt st 0 rfl rfl rfl rfl (by first | rfl | simp [cellsOf, *]) (by first | decide | simp [*]) (by repeat constructor) fun H4 st => ?_
  refine sE ?_
  show AWl _ _ _ _ _
  refine aMovV x rfl ?_
  refine aLen (st.slc hx) rfl ?_
  refine aN rfl rfl (by constructor) ?_
  refine sE ?_
  show AWl _ _ _ _ _
  refine aN rfl rfl (by constructor) ?_
  refine aLd st 0 rfl rfl rfl (by constructor) ?_
  refine aConvV (n := 18) (n' := 18) rfl (by decide) ?_
  refine sE ?_
  show AWl _ _ _ _ _
  refine aBinV (.bool false) rfl rfl rfl ?_
  refine aN rfl rfl (by constructor) ?_
  refine sE ?_
  show AW _ (.cond _ _ _) _ _ _
  refine cF' rfl ?_
  show AWl _ _ _ _ _
  refine aBinV (.bool false) rfl rfl rfl ?_
  refine aN rfl rfl (by constructor) ?_
  refine sE ?_
  show AW _ (.cond _ _ _) _ _ _
  refine cF' rfl ?_
  show AWl _ _ _ _ _
  refine aBinV (.bool false) rfl rfl rfl ?_
  refine aN rfl rfl (by constructor) ?_
  refine sE ?_
  show AW _ (.cond _ _ _) _ _ _
  refine cF' rfl ?_
  show AWl _ _ _ _ _
  refine aBinV (.bool false) rfl rfl rfl ?_
  refine aN rfl rfl (by constructor) ?_
  refine sE ?_
  show AW _ (.cond _ _ _) _ _ _
  refine cF' rfl ?_
  show AWl _ _ _ _ _
  refine aBinV (.bool false) rfl rfl rfl ?_
  refine aN rfl rfl (by constructor) ?_
  refine sE ?_
  show AW _ (.cond _ _ _) _ _ _
  refine cF' rfl ?_
  show AWl _ _ _ _ _
  refine aBinV (.bool false) rfl rfl rfl ?_
  refine aN rfl rfl (by constructor) ?_
  refine sE ?_
  show AW _ (.cond _ _ _) _ _ _
  refine cF' rfl ?_
  show AWl _ _ _ _ _
  refine aBinV (.bool false) rfl rfl rfl ?_
  refine aN rfl rfl (by constructor) ?_
  refine sE ?_
  show AW _ (.cond _ _ _) _ _ _
  refine cF' rfl ?_
  show AWl _ _ _ _ _
  refine aBinV (.bool false) rfl rfl rfl ?_
  refine aN rfl rfl (by constructor) ?_
  refine sE ?_
  show AW _ (.cond _ _ _) _ _ _
  refine cF' rfl ?_
  show AWl _ _ _ _ _
  refine aBinV (.bool false) rfl rfl rfl ?_
  refine aN rfl rfl (by constructor) ?_
  refine sE ?_
  show AW _ (.cond _ _ _) _ _ _
  refine cF' rfl ?_
  show AWl _ _ _ _ _
  refine aBinV (.bool false) rfl rfl rfl ?_
  refine aN rfl rfl (by constructor) ?_
  refine sE ?_
  show AW _ (.cond _ _ _) _ _ _
  refine cF' rfl ?_
  show AWl _ _ _ _ _
  refine aBinV (.bool true) rfl rfl rfl ?_
  refine aN rfl rfl (by constructor) ?_
  refine sE ?_
  show AW _ (.cond _ _ _) _ _ _
  refine cT rfl ?_
  show AWl _ _ _ _ _
  refine aMovV x rfl ?_
  refine aC (rnum_call (by rw [hlen]; exact (st.slc hx)) hb (by omega) (by decide)) fun v175 H5 ⟨hv, st1⟩ => ?_
  subst hv
  replace st := st.call st1 rfl
  clear st1
  refine aN rfl rfl (by constructor) ?_
  refine aN rfl rfl (by constructor) ?_
  refine aSt st 0 rfl rfl rfl rfl (by first | rfl | simp [cellsOf, *]) (by first | decide | simp [*]) (by repeat constructor) fun H6 st => ?_
  refine sE ?_
  show AWl _ _ _ _ _
  refine aLdA st 0 rfl rfl (by first | decide | simp [*]) (by repeat constructor) ?_
  refine aSt st 1 rfl rfl rfl rfl (by first | rfl | simp [cellsOf, *]) (by first | decide | simp [*]) (by repeat constructor) fun H7 st => ?_
  refine aN rfl rfl (by constructor) ?_
  refine aN rfl rfl (by constructor) ?_
  refine sE ?_
  refine ⟨_, out3 (r_cellA st 1 rfl rfl (by first | decide | simp [*]) (by repeat constructor)) (r_tmp rfl (by constructor)) (r_tmp rfl (by constructor)) ⟨rfl, rfl, rfl⟩, ?_⟩
  try simp only [b_quo q1 (show (0 : Int) < 32 by decide), b_quorem 2 q1 (show (0 : Int) < 8 by decide), b_quorem 2 q1 (show (0 : Int) < 2 by decide), b_quo q1 (show (0 : Int) < 16 by decide), b_rem 2 q1, b_quo q2 (show (0 : Int) < 64 by decide), b_rem 64 q2, q4, q13]
  have hF : fillF 18 16 xs = (-1, 0) := rfl
  exact ⟨by rw [hF]; rfl, st.drop⟩
theorem told7_6 {H : Hp} {xs : List Int} {x : Value} {sv : Int} (hx : Sl H 1 6 (xs.map (Value.int .u8)) x) (hb : ByteL xs) (hlen : xs.length = 6) (hq : xs.getD 1 0 < 32) (hop : kindL (xs.getD 0 0) = 7) :
    ACalls Try.prog 22 [x, .int .u8 sv] H (fun v H' => v = .tuple #[.agg #[.int .u8 (fillC 7 6 xs sv).kind, .bool (fillC 7 6 xs sv).long, .int .u64 (fillC 7 6 xs sv).lba, .int .u64 (fillC 7 6 xs sv).blocks, .int .i64 (fillC 7 6 xs sv).alloc, .bool (fillC 7 6 xs sv).fua, .int .u8 (fillC 7 6 xs sv).prot, .bool (fillC 7 6 xs sv).unmap, .bool (fillC 7 6 xs sv).evpd, .int .u8 (fillC 7 6 xs sv).page, .int .u8 (fillC 7 6 xs sv).control, .bool (fillC 7 6 xs sv).save, .int .u8 (fillC 7 6 xs sv).service, .int .u8 (fillC 7 6 xs sv).type, .bool (fillC 7 6 xs sv).bytes], .int .i64 (fillF 7 6 xs).1, .int .i64 (fillF 7 6 xs).2] ∧ Stt [] H H' []) := by
  refine acallsW Try.func22 f22_ok (Nat.le_of_ble_eq_true rfl) fun hw => ?_
  have st : Stt [] H H [] := Stt.start hw
  have q1 := hb.getD ((1 : Int)).toNat
  have q2 := hb.getD ((2 : Int)).toNat
  have q4 : IntKind.i64.wrap (xs.getD ((4 : Int)).toNat 0) = xs.getD 4 0 := wi _ (by have := hb.getD ((4 : Int)).toNat; omega)
  have q13 : IntKind.u64.wrap (xs.getD ((4 : Int)).toNat 0) = xs.getD 4 0 := by have := hb.getD ((4 : Int)).toNat; rw [w64]; show (xs.getD ((4 : Int)).toNat 0) % _ = xs.getD ((4 : Int)).toNat 0; omega
  unfold f22c
  show AWl _ _ _ _ _
  refine aNewP st rfl rfl (by repeat constructor) fun b4 H1 st => ?_
  refine aN rfl rfl (by constructor) ?_
  refine aN rfl rfl (by constructor) ?_
  refine sE ?_
  show AWl _ _ _ _ _
  refine aMovV x rfl ?_
  refine aIxBK (st.slc hx) rfl rfl (by first | decide | omega) fun b10 o10 g10 => ?_
  refine aLdG rfl (g10 _ (st.slc hx)) ?_
  refine aC (rkind_call) fun v12 H2 ⟨hv, st1⟩ => ?_
  subst hv
  replace st := st.call st1 rfl
  clear st1
  rw [show kindL (xs.getD ((0 : Int)).toNat 0) = 7 from hop]
  refine aConvV (n := 7) (n' := 7) rfl (by decide) ?_
  refine aBld rfl (by repeat constructor) ?_
  refine aNewP st rfl rfl (by repeat constructor) fun b7 H3 st => ?_
  refine aSt st 0 rfl rfl rfl rfl (by first | rfl | simp [cellsOf, *]) (by first | decide | simp [*]) (by repeat constructor) fun H4 st => ?_
  refine sE ?_
  show AWl _ _ _ _ _
  refine aMovV x rfl ?_
  refine aLen (st.slc hx) rfl ?_
  refine aN rfl rfl (by constructor) ?_
  refine sE ?_
  show AWl _ _ _ _ _
  refine aN rfl rfl (by constructor) ?_
  refine aLd st 0 rfl rfl rfl (by constructor) ?_
  refine aConvV (n := 7) (n' := 7) rfl (by decide) ?_
  refine sE ?_
  show AWl _ _ _ _ _
  refine aBinV (.bool false) rfl rfl rfl ?_
  refine aN rfl rfl (by constructor) ?_
  refine sE ?_
  show AW _ (.cond _ _ _) _ _ _
  refine cF' rfl ?_
  show AWl _ _ _ _ _
  refine aBinV (.bool false) rfl rfl rfl ?_
  refine aN rfl rfl (by constructor) ?_
  refine sE ?_
  show AW _ (.cond _ _ _) _ _ _
  refine cF' rfl ?_
  show AWl _ _ _ _ _
  refine aBinV (.bool false) rfl rfl rfl ?_
  refine aN rfl rfl (by constructor) ?_
  refine sE ?_
  show AW _ (.cond _ _ _) _ _ _
  refine cF' rfl ?_
  show AWl _ _ _ _ _
  refine aBinV (.bool false) rfl rfl rfl ?_
  refine aN rfl rfl (by constructor) ?_
  refine sE ?_
  show AW _ (.cond _ _ _) _ _ _
  refine cF' rfl ?_
  show AWl _ _ _ _ _
  refine aBinV (.bool false) rfl rfl rfl ?_
  refine aN rfl rfl (by constructor) ?_
  refine sE ?_
  show AW _ (.cond _ _ _) _ _ _
  refine cF' rfl ?_
  show AWl _ _ _ _ _
  refine aBinV (.bool false) rfl rfl rfl ?_
  refine aN rfl rfl (by constructor) ?_
  refine sE ?_
  show AW _ (.cond _ _ _) _ _ _
  refine cF' rfl ?_
  show AWl _ _ _ _ _
  refine aBinV (.bool false) rfl rfl rfl ?_
  refine aN rfl rfl (by constructor) ?_
  refine sE ?_
  show AW _ (.cond _ _ _) _ _ _
  refine cF' rfl ?_
  show AWl _ _ _ _ _
  refine aBinV (.bool false) rfl rfl rfl ?_
  refine aN rfl rfl (by constructor) ?_
  refine sE ?_
  show AW _ (.cond _ _ _) _ _ _
  refine cF' rfl ?_
  show AWl _ _ _ _ _
  refine aBinV (.bool false) rfl rfl rfl ?_
  refine aN rfl rfl (by constructor) ?_
  refine sE ?_
  show AW _ (.cond _ _ _) _ _ _
  refine cF' rfl ?_
  show AWl _ _ _ _ _
  refine aBinV (.bool false) rfl rfl rfl ?_
  refine aN rfl rfl (by constructor) ?_
  refine sE ?_
  show AW _ (.cond _ _ _) _ _ _
  refine cF' rfl ?_
  show AWl _ _ _ _ _
  refine aBinV (.bool false) rfl rfl rfl ?_
  refine aN rfl rfl (by constructor) ?_
  refine sE ?_
  show AW _ (.cond _ _ _) _ _ _
  refine cF' rfl ?_
  show AWl _ _ _ _ _
  refine aBinV (.bool true) rfl rfl rfl ?_
  refine aN rfl rfl (by constructor) ?_
  refine sE ?_
  show AW _ (.cond _ _ _) _ _ _
  refine cT rfl ?_
  show AW _ (.cond _ _ _) _ _ _
  refine cT rfl ?_
  show AWl _ _ _ _ _
  refine aLdA st 0 rfl rfl (by first | decide | simp [*]) (by repeat constructor) ?_
  refine aMovV x rfl ?_
  refine aC (onb7_6 (st.slc hx) hb hlen hq) fun v187 H5 ⟨hv, st1⟩ => ?_
  subst hv
  replace st := st.call st1 rfl
  clear st1
  refine aN rfl rfl (by constructor) ?_
  refine aN rfl rfl (by constructor) ?_
  refine aN rfl rfl (by constructor) ?_
  refine aSt st 1 rfl rfl rfl rfl (by first | rfl | simp [cellsOf, *]) (by first | decide | simp [*]) (by repeat constructor) fun H6 st => ?_
  refine aN rfl rfl (by constructor) ?_
  refine aN rfl rfl (by constructor) ?_
  refine sE ?_
  refine ⟨_, out3 (r_cellA st 1 rfl rfl (by first | decide | simp [*]) (by repeat constructor)) (r_tmp rfl (by constructor)) (r_tmp rfl (by constructor)) ⟨rfl, rfl, rfl⟩, ?_⟩
  exact ⟨rfl, st.drop⟩
theorem told7_10 {H : Hp} {xs : List Int} {x : Value} {sv : Int} (hx : Sl H 1 10 (xs.map (Value.int .u8)) x) (hb : ByteL xs) (hlen : xs.length = 10) (hq : True) (hop : kindL (xs.getD 0 0) = 7) :
    ACalls Try.prog 22 [x, .int .u8 sv] H (fun v H' => v = .tuple #[.agg #[.int .u8 (fillC 7 10 xs sv).kind, .bool (fillC 7 10 xs sv).long, .int .u64 (fillC 7 10 xs sv).lba, .int .u64 (fillC 7 10 xs sv).blocks, .int .i64 (fillC 7 10 xs sv).alloc, .bool (fillC 7 10 xs sv).fua, .int .u8 (fillC 7 10 xs sv).prot, .bool (fillC 7 10 xs sv).unmap, .bool (fillC 7 10 xs sv).evpd, .int .u8 (fillC 7 10 xs sv).page, .int .u8 (fillC 7 10 xs sv).control, .bool (fillC 7 10 xs sv).save, .int .u8 (fillC 7 10 xs sv).service, .int .u8 (fillC 7 10 xs sv).type, .bool (fillC 7 10 xs sv).bytes], .int .i64 (fillF 7 10 xs).1, .int .i64 (fillF 7 10 xs).2] ∧ Stt [] H H' []) := by
  refine acallsW Try.func22 f22_ok (Nat.le_of_ble_eq_true rfl) fun hw => ?_
  have st : Stt [] H H [] := Stt.start hw
  have q1 := hb.getD ((1 : Int)).toNat
  have q2 := hb.getD ((2 : Int)).toNat
  have q4 : IntKind.i64.wrap (xs.getD ((4 : Int)).toNat 0) = xs.getD 4 0 := wi _ (by have := hb.getD ((4 : Int)).toNat; omega)
  have q13 : IntKind.u64.wrap (xs.getD ((4 : Int)).toNat 0) = xs.getD 4 0 := by have := hb.getD ((4 : Int)).toNat; rw [w64]; show (xs.getD ((4 : Int)).toNat 0) % _ = xs.getD ((4 : Int)).toNat 0; omega
  unfold f22c
  show AWl _ _ _ _ _
  refine aNewP st rfl rfl (by repeat constructor) fun b4 H1 st => ?_
  refine aN rfl rfl (by constructor) ?_
  refine aN rfl rfl (by constructor) ?_
  refine sE ?_
  show AWl _ _ _ _ _
  refine aMovV x rfl ?_
  refine aIxBK (st.slc hx) rfl rfl (by first | decide | omega) fun b10 o10 g10 => ?_
  refine aLdG rfl (g10 _ (st.slc hx)) ?_
  refine aC (rkind_call) fun v12 H2 ⟨hv, st1⟩ => ?_
  subst hv
  replace st := st.call st1 rfl
  clear st1
  rw [show kindL (xs.getD ((0 : Int)).toNat 0) = 7 from hop]
  refine aConvV (n := 7) (n' := 7) rfl (by decide) ?_
  refine aBld rfl (by repeat constructor) ?_
  refine aNewP st rfl rfl (by repeat constructor) fun b7 H3 st => ?_
  refine aSt st 0 rfl rfl rfl rfl (by first | rfl | simp [cellsOf, *]) (by first | decide | simp [*]) (by repeat constructor) fun H4 st => ?_
  refine sE ?_
  show AWl _ _ _ _ _
  refine aMovV x rfl ?_
  refine aLen (st.slc hx) rfl ?_
  refine aN rfl rfl (by constructor) ?_
  refine sE ?_
  show AWl _ _ _ _ _
  refine aN rfl rfl (by constructor) ?_
  refine aLd st 0 rfl rfl rfl (by constructor) ?_
  refine aConvV (n := 7) (n' := 7) rfl (by decide) ?_
  refine sE ?_
  show AWl _ _ _ _ _
  refine aBinV (.bool false) rfl rfl rfl ?_
  refine aN rfl rfl (by constructor) ?_
  refine sE ?_
  show AW _ (.cond _ _ _) _ _ _
  refine cF' rfl ?_
  show AWl _ _ _ _ _
  refine aBinV (.bool false) rfl rfl rfl ?_
  refine aN rfl rfl (by constructor) ?_
  refine sE ?_
  show AW _ (.cond _ _ _) _ _ _
  refine cF' rfl ?_
  show AWl _ _ _ _ _
  refine aBinV (.bool false) rfl rfl rfl ?_
  refine aN rfl rfl (by constructor) ?_
  refine sE ?_
  show AW _ (.cond _ _ _) _ _ _
  refine cF' rfl ?_
  show AWl _ _ _ _ _
  refine aBinV (.bool false) rfl rfl rfl ?_
  refine aN rfl rfl (by constructor) ?_
  refine sE ?_
  show AW _ (.cond _ _ _) _ _ _
  refine cF' rfl ?_
  show AWl _ _ _ _ _
  refine aBinV (.bool false) rfl rfl rfl ?_
  refine aN rfl rfl (by constructor) ?_
  refine sE ?_
  show AW _ (.cond _ _ _) _ _ _
  refine cF' rfl ?_
  show AWl _ _ _ _ _
  refine aBinV (.bool false) rfl rfl rfl ?_
  refine aN rfl rfl (by constructor) ?_
  refine sE ?_
  show AW _ (.cond _ _ _) _ _ _
  refine cF' rfl ?_
  show AWl _ _ _ _ _
  refine aBinV (.bool false) rfl rfl rfl ?_
  refine aN rfl rfl (by constructor) ?_
  refine sE ?_
  show AW _ (.cond _ _ _) _ _ _
  refine cF' rfl ?_
  show AWl _ _ _ _ _
  refine aBinV (.bool false) rfl rfl rfl ?_
  refine aN rfl rfl (by constructor) ?_
  refine sE ?_
  show AW _ (.cond _ _ _) _ _ _
  refine cF' rfl ?_
  show AWl _ _ _ _ _
  refine aBinV (.bool false) rfl rfl rfl ?_
  refine aN rfl rfl (by constructor) ?_
  refine sE ?_
  show AW _ (.cond _ _ _) _ _ _
  refine cF' rfl ?_
  show AWl _ _ _ _ _
  refine aBinV (.bool false) rfl rfl rfl ?_
  refine aN rfl rfl (by constructor) ?_
  refine sE ?_
  show AW _ (.cond _ _ _) _ _ _
  refine cF' rfl ?_
  show AWl _ _ _ _ _
  refine aBinV (.bool false) rfl rfl rfl ?_
  refine aN rfl rfl (by constructor) ?_
  refine sE ?_
  show AW _ (.cond _ _ _) _ _ _
  refine cF' rfl ?_
  show AWl _ _ _ _ _
  refine aBinV (.bool true) rfl rfl rfl ?_
  refine aN rfl rfl (by constructor) ?_
  refine sE ?_
  show AW _ (.cond _ _ _) _ _ _
  refine cT rfl ?_
  show AW _ (.cond _ _ _) _ _ _
  refine cT rfl ?_
  show AWl _ _ _ _ _
  refine aLdA st 0 rfl rfl (by first | decide | simp [*]) (by repeat constructor) ?_
  refine aMovV x rfl ?_
  refine aC (onb7_10 (st.slc hx) hb hlen hq) fun v187 H5 ⟨hv, st1⟩ => ?_
  subst hv
  replace st := st.call st1 rfl
  clear st1
  refine aN rfl rfl (by constructor) ?_
  refine aN rfl rfl (by constructor) ?_
  refine aN rfl rfl (by constructor) ?_
  refine aSt st 1 rfl rfl rfl rfl (by first | rfl | simp [cellsOf, *]) (by first | decide | simp [*]) (by repeat constructor) fun H6 st => ?_
  refine aN rfl rfl (by constructor) ?_
  refine aN rfl rfl (by constructor) ?_
  refine sE ?_
  refine ⟨_, out3 (r_cellA st 1 rfl rfl (by first | decide | simp [*]) (by repeat constructor)) (r_tmp rfl (by constructor)) (r_tmp rfl (by constructor)) ⟨rfl, rfl, rfl⟩, ?_⟩
  exact ⟨rfl, st.drop⟩
theorem told7_16 {H : Hp} {xs : List Int} {x : Value} {sv : Int} (hx : Sl H 1 16 (xs.map (Value.int .u8)) x) (hb : ByteL xs) (hlen : xs.length = 16) (hq : True) (hop : kindL (xs.getD 0 0) = 7) :
    ACalls Try.prog 22 [x, .int .u8 sv] H (fun v H' => v = .tuple #[.agg #[.int .u8 (fillC 7 16 xs sv).kind, .bool (fillC 7 16 xs sv).long, .int .u64 (fillC 7 16 xs sv).lba, .int .u64 (fillC 7 16 xs sv).blocks, .int .i64 (fillC 7 16 xs sv).alloc, .bool (fillC 7 16 xs sv).fua, .int .u8 (fillC 7 16 xs sv).prot, .bool (fillC 7 16 xs sv).unmap, .bool (fillC 7 16 xs sv).evpd, .int .u8 (fillC 7 16 xs sv).page, .int .u8 (fillC 7 16 xs sv).control, .bool (fillC 7 16 xs sv).save, .int .u8 (fillC 7 16 xs sv).service, .int .u8 (fillC 7 16 xs sv).type, .bool (fillC 7 16 xs sv).bytes], .int .i64 (fillF 7 16 xs).1, .int .i64 (fillF 7 16 xs).2] ∧ Stt [] H H' []) := by
  refine acallsW Try.func22 f22_ok (Nat.le_of_ble_eq_true rfl) fun hw => ?_
  have st : Stt [] H H [] := Stt.start hw
  have q1 := hb.getD ((1 : Int)).toNat
  have q2 := hb.getD ((2 : Int)).toNat
  have q4 : IntKind.i64.wrap (xs.getD ((4 : Int)).toNat 0) = xs.getD 4 0 := wi _ (by have := hb.getD ((4 : Int)).toNat; omega)
  have q13 : IntKind.u64.wrap (xs.getD ((4 : Int)).toNat 0) = xs.getD 4 0 := by have := hb.getD ((4 : Int)).toNat; rw [w64]; show (xs.getD ((4 : Int)).toNat 0) % _ = xs.getD ((4 : Int)).toNat 0; omega
  unfold f22c
  show AWl _ _ _ _ _
  refine aNewP st rfl rfl (by repeat constructor) fun b4 H1 st => ?_
  refine aN rfl rfl (by constructor) ?_
  refine aN rfl rfl (by constructor) ?_
  refine sE ?_
  show AWl _ _ _ _ _
  refine aMovV x rfl ?_
  refine aIxBK (st.slc hx) rfl rfl (by first | decide | omega) fun b10 o10 g10 => ?_
  refine aLdG rfl (g10 _ (st.slc hx)) ?_
  refine aC (rkind_call) fun v12 H2 ⟨hv, st1⟩ => ?_
  subst hv
  replace st := st.call st1 rfl
  clear st1
  rw [show kindL (xs.getD ((0 : Int)).toNat 0) = 7 from hop]
  refine aConvV (n := 7) (n' := 7) rfl (by decide) ?_
  refine aBld rfl (by repeat constructor) ?_
  refine aNewP st rfl rfl (by repeat constructor) fun b7 H3 st => ?_
  refine aSt st 0 rfl rfl rfl rfl (by first | rfl | simp [cellsOf, *]) (by first | decide | simp [*]) (by repeat constructor) fun H4 st => ?_
  refine sE ?_
  show AWl _ _ _ _ _
  refine aMovV x rfl ?_
  refine aLen (st.slc hx) rfl ?_
  refine aN rfl rfl (by constructor) ?_
  refine sE ?_
  show AWl _ _ _ _ _
  refine aN rfl rfl (by constructor) ?_
  refine aLd st 0 rfl rfl rfl (by constructor) ?_
  refine aConvV (n := 7) (n' := 7) rfl (by decide) ?_
  refine sE ?_
  show AWl _ _ _ _ _
  refine aBinV (.bool false) rfl rfl rfl ?_
  refine aN rfl rfl (by constructor) ?_
  refine sE ?_
  show AW _ (.cond _ _ _) _ _ _
  refine cF' rfl ?_
  show AWl _ _ _ _ _
  refine aBinV (.bool false) rfl rfl rfl ?_
  refine aN rfl rfl (by constructor) ?_
  refine sE ?_
  show AW _ (.cond _ _ _) _ _ _
  refine cF' rfl ?_
  show AWl _ _ _ _ _
  refine aBinV (.bool false) rfl rfl rfl ?_
  refine aN rfl rfl (by constructor) ?_
  refine sE ?_
  show AW _ (.cond _ _ _) _ _ _
  refine cF' rfl ?_
  show AWl _ _ _ _ _
  refine aBinV (.bool false) rfl rfl rfl ?_
  refine aN rfl rfl (by constructor) ?_
  refine sE ?_
  show AW _ (.cond _ _ _) _ _ _
  refine cF' rfl ?_
  show AWl _ _ _ _ _
  refine aBinV (.bool false) rfl rfl rfl ?_
  refine aN rfl rfl (by constructor) ?_
  refine sE ?_
  show AW _ (.cond _ _ _) _ _ _
  refine cF' rfl ?_
  show AWl _ _ _ _ _
  refine aBinV (.bool false) rfl rfl rfl ?_
  refine aN rfl rfl (by constructor) ?_
  refine sE ?_
  show AW _ (.cond _ _ _) _ _ _
  refine cF' rfl ?_
  show AWl _ _ _ _ _
  refine aBinV (.bool false) rfl rfl rfl ?_
  refine aN rfl rfl (by constructor) ?_
  refine sE ?_
  show AW _ (.cond _ _ _) _ _ _
  refine cF' rfl ?_
  show AWl _ _ _ _ _
  refine aBinV (.bool false) rfl rfl rfl ?_
  refine aN rfl rfl (by constructor) ?_
  refine sE ?_
  show AW _ (.cond _ _ _) _ _ _
  refine cF' rfl ?_
  show AWl _ _ _ _ _
  refine aBinV (.bool false) rfl rfl rfl ?_
  refine aN rfl rfl (by constructor) ?_
  refine sE ?_
  show AW _ (.cond _ _ _) _ _ _
  refine cF' rfl ?_
  show AWl _ _ _ _ _
  refine aBinV (.bool false) rfl rfl rfl ?_
  refine aN rfl rfl (by constructor) ?_
  refine sE ?_
  show AW _ (.cond _ _ _) _ _ _
  refine cF' rfl ?_
  show AWl _ _ _ _ _
  refine aBinV (.bool false) rfl rfl rfl ?_
  refine aN rfl rfl (by constructor) ?_
  refine sE ?_
  show AW _ (.cond _ _ _) _ _ _
  refine cF' rfl ?_
  show AWl _ _ _ _ _
  refine aBinV (.bool true) rfl rfl rfl ?_
  refine aN rfl rfl (by constructor) ?_
  refine sE ?_
  show AW _ (.cond _ _ _) _ _ _
  refine cT rfl ?_
  show AW _ (.cond _ _ _) _ _ _
  refine cT rfl ?_
  show AWl _ _ _ _ _
  refine aLdA st 0 rfl rfl (by first | decide | simp [*]) (by repeat constructor) ?_
  refine aMovV x rfl ?_
  refine aC (onb7_16 (st.slc hx) hb hlen hq) fun v187 H5 ⟨hv, st1⟩ => ?_
  subst hv
  replace st := st.call st1 rfl
  clear st1
  refine aN rfl rfl (by constructor) ?_
  refine aN rfl rfl (by constructor) ?_
  refine aN rfl rfl (by constructor) ?_
  refine aSt st 1 rfl rfl rfl rfl (by first | rfl | simp [cellsOf, *]) (by first | decide | simp [*]) (by repeat constructor) fun H6 st => ?_
  refine aN rfl rfl (by constructor) ?_
  refine aN rfl rfl (by constructor) ?_
  refine sE ?_
  refine ⟨_, out3 (r_cellA st 1 rfl rfl (by first | decide | simp [*]) (by repeat constructor)) (r_tmp rfl (by constructor)) (r_tmp rfl (by constructor)) ⟨rfl, rfl, rfl⟩, ?_⟩
  exact ⟨rfl, st.drop⟩
theorem told8_6 {H : Hp} {xs : List Int} {x : Value} {sv : Int} (hx : Sl H 1 6 (xs.map (Value.int .u8)) x) (hb : ByteL xs) (hlen : xs.length = 6) (hq : xs.getD 1 0 < 32) (hop : kindL (xs.getD 0 0) = 8) :
    ACalls Try.prog 22 [x, .int .u8 sv] H (fun v H' => v = .tuple #[.agg #[.int .u8 (fillC 8 6 xs sv).kind, .bool (fillC 8 6 xs sv).long, .int .u64 (fillC 8 6 xs sv).lba, .int .u64 (fillC 8 6 xs sv).blocks, .int .i64 (fillC 8 6 xs sv).alloc, .bool (fillC 8 6 xs sv).fua, .int .u8 (fillC 8 6 xs sv).prot, .bool (fillC 8 6 xs sv).unmap, .bool (fillC 8 6 xs sv).evpd, .int .u8 (fillC 8 6 xs sv).page, .int .u8 (fillC 8 6 xs sv).control, .bool (fillC 8 6 xs sv).save, .int .u8 (fillC 8 6 xs sv).service, .int .u8 (fillC 8 6 xs sv).type, .bool (fillC 8 6 xs sv).bytes], .int .i64 (fillF 8 6 xs).1, .int .i64 (fillF 8 6 xs).2] ∧ Stt [] H H' []) := by
  refine acallsW Try.func22 f22_ok (Nat.le_of_ble_eq_true rfl) fun hw => ?_
  have st : Stt [] H H [] := Stt.start hw
  have q1 := hb.getD ((1 : Int)).toNat
  have q2 := hb.getD ((2 : Int)).toNat
  have q4 : IntKind.i64.wrap (xs.getD ((4 : Int)).toNat 0) = xs.getD 4 0 := wi _ (by have := hb.getD ((4 : Int)).toNat; omega)
  have q13 : IntKind.u64.wrap (xs.getD ((4 : Int)).toNat 0) = xs.getD 4 0 := by have := hb.getD ((4 : Int)).toNat; rw [w64]; show (xs.getD ((4 : Int)).toNat 0) % _ = xs.getD ((4 : Int)).toNat 0; omega
  unfold f22c
  show AWl _ _ _ _ _
  refine aNewP st rfl rfl (by repeat constructor) fun b4 H1 st => ?_
  refine aN rfl rfl (by constructor) ?_
  refine aN rfl rfl (by constructor) ?_
  refine sE ?_
  show AWl _ _ _ _ _
  refine aMovV x rfl ?_
  refine aIxBK (st.slc hx) rfl rfl (by first | decide | omega) fun b10 o10 g10 => ?_
  refine aLdG rfl (g10 _ (st.slc hx)) ?_
  refine aC (rkind_call) fun v12 H2 ⟨hv, st1⟩ => ?_
  subst hv
  replace st := st.call st1 rfl
  clear st1
  rw [show kindL (xs.getD ((0 : Int)).toNat 0) = 8 from hop]
  refine aConvV (n := 8) (n' := 8) rfl (by decide) ?_
  refine aBld rfl (by repeat constructor) ?_
  refine aNewP st rfl rfl (by repeat constructor) fun b7 H3 st => ?_
  refine aSt st 0 rfl rfl rfl rfl (by first | rfl | simp [cellsOf, *]) (by first | decide | simp [*]) (by repeat constructor) fun H4 st => ?_
  refine sE ?_
  show AWl _ _ _ _ _
  refine aMovV x rfl ?_
  refine aLen (st.slc hx) rfl ?_
  refine aN rfl rfl (by constructor) ?_
  refine sE ?_
  show AWl _ _ _ _ _
  refine aN rfl rfl (by constructor) ?_
  refine aLd st 0 rfl rfl rfl (by constructor) ?_
  refine aConvV (n := 8) (n' := 8) rfl (by decide) ?_
  refine sE ?_
  show AWl _ _ _ _ _
  refine aBinV (.bool false) rfl rfl rfl ?_
  refine aN rfl rfl (by constructor) ?_
  refine sE ?_
  show AW _ (.cond _ _ _) _ _ _
  refine cF' rfl ?_
  show AWl _ _ _ _ _
  refine aBinV (.bool false) rfl rfl rfl ?_
  refine aN rfl rfl (by constructor) ?_
  refine sE ?_
  show AW _ (.cond _ _ _) _ _ _
  refine cF' rfl ?_
  show AWl _ _ _ _ _
  refine aBinV (.bool false) rfl rfl rfl ?_
  refine aN rfl rfl (by constructor) ?_
  refine sE ?_
  show AW _ (.cond _ _ _) _ _ _
  refine cF' rfl ?_
  show AWl _ _ _ _ _
  refine aBinV (.bool false) rfl rfl rfl ?_
  refine aN rfl rfl (by constructor) ?_
  refine sE ?_
  show AW _ (.cond _ _ _) _ _ _
  refine cF' rfl ?_
  show AWl _ _ _ _ _
  refine aBinV (.bool false) rfl rfl rfl ?_
  refine aN rfl rfl (by constructor) ?_
  refine sE ?_
  show AW _ (.cond _ _ _) _ _ _
  refine cF' rfl ?_
  show AWl _ _ _ _ _
  refine aBinV (.bool false) rfl rfl rfl ?_
  refine aN rfl rfl (by constructor) ?_
  refine sE ?_
  show AW _ (.cond _ _ _) _ _ _
  refine cF' rfl ?_
  show AWl _ _ _ _ _
  refine aBinV (.bool false) rfl rfl rfl ?_
  refine aN rfl rfl (by constructor) ?_
  refine sE ?_
  show AW _ (.cond _ _ _) _ _ _
  refine cF' rfl ?_
  show AWl _ _ _ _ _
  refine aBinV (.bool false) rfl rfl rfl ?_
  refine aN rfl rfl (by constructor) ?_
  refine sE ?_
  show AW _ (.cond _ _ _) _ _ _
  refine cF' rfl ?_
  show AWl _ _ _ _ _
  refine aBinV (.bool false) rfl rfl rfl ?_
  refine aN rfl rfl (by constructor) ?_
  refine sE ?_
  show AW _ (.cond _ _ _) _ _ _
  refine cF' rfl ?_
  show AWl _ _ _ _ _
  refine aBinV (.bool false) rfl rfl rfl ?_
  refine aN rfl rfl (by constructor) ?_
  refine sE ?_
  show AW _ (.cond _ _ _) _ _ _
  refine cF' rfl ?_
  show AWl _ _ _ _ _
  refine aBinV (.bool false) rfl rfl rfl ?_
  refine aN rfl rfl (by constructor) ?_
  refine sE ?_
  show AW _ (.cond _ _ _) _ _ _
  refine cF' rfl ?_
  show AWl _ _ _ _ _
  refine aBinV (.bool false) rfl rfl rfl ?_
  refine aN rfl rfl (by constructor) ?_
  refine sE ?_
  show AW _ (.cond _ _ _) _ _ _
  refine cF' rfl ?_
  show AWl _ _ _ _ _
  refine aBinV (.bool true) rfl rfl rfl ?_
  refine aN rfl rfl (by constructor) ?_
  refine sE ?_
  show AW _ (.cond _ _ _) _ _ _
  refine cT rfl ?_
  show AW _ (.cond _ _ _) _ _ _
  refine cT rfl ?_
  show AWl _ _ _ _ _
  refine aLdA st 0 rfl rfl (by first | decide | simp [*]) (by repeat constructor) ?_
  refine aMovV x rfl ?_
  refine aC (onb8_6 (st.slc hx) hb hlen hq) fun v187 H5 ⟨hv, st1⟩ => ?_
  subst hv
  replace st := st.call st1 rfl
  clear st1
  refine aN rfl rfl (by constructor) ?_
  refine aN rfl rfl (by constructor) ?_
  refine aN rfl rfl (by constructor) ?_
  refine aSt st 1 rfl rfl rfl rfl (by first | rfl | simp [cellsOf, *]) (by first | decide | simp [*]) (by repeat constructor) fun H6 st => ?_
  refine aN rfl rfl (by constructor) ?_
  refine aN rfl rfl (by constructor) ?_
  refine sE ?_
  refine ⟨_, out3 (r_cellA st 1 rfl rfl (by first | decide | simp [*]) (by repeat constructor)) (r_tmp rfl (by constructor)) (r_tmp rfl (by constructor)) ⟨rfl, rfl, rfl⟩, ?_⟩
  exact ⟨rfl, st.drop⟩
theorem told8_10 {H : Hp} {xs : List Int} {x : Value} {sv : Int} (hx : Sl H 1 10 (xs.map (Value.int .u8)) x) (hb : ByteL xs) (hlen : xs.length = 10) (hq : True) (hop : kindL (xs.getD 0 0) = 8) :
    ACalls Try.prog 22 [x, .int .u8 sv] H (fun v H' => v = .tuple #[.agg #[.int .u8 (fillC 8 10 xs sv).kind, .bool (fillC 8 10 xs sv).long, .int .u64 (fillC 8 10 xs sv).lba, .int .u64 (fillC 8 10 xs sv).blocks, .int .i64 (fillC 8 10 xs sv).alloc, .bool (fillC 8 10 xs sv).fua, .int .u8 (fillC 8 10 xs sv).prot, .bool (fillC 8 10 xs sv).unmap, .bool (fillC 8 10 xs sv).evpd, .int .u8 (fillC 8 10 xs sv).page, .int .u8 (fillC 8 10 xs sv).control, .bool (fillC 8 10 xs sv).save, .int .u8 (fillC 8 10 xs sv).service, .int .u8 (fillC 8 10 xs sv).type, .bool (fillC 8 10 xs sv).bytes], .int .i64 (fillF 8 10 xs).1, .int .i64 (fillF 8 10 xs).2] ∧ Stt [] H H' []) := by
  refine acallsW Try.func22 f22_ok (Nat.le_of_ble_eq_true rfl) fun hw => ?_
  have st : Stt [] H H [] := Stt.start hw
  have q1 := hb.getD ((1 : Int)).toNat
  have q2 := hb.getD ((2 : Int)).toNat
  have q4 : IntKind.i64.wrap (xs.getD ((4 : Int)).toNat 0) = xs.getD 4 0 := wi _ (by have := hb.getD ((4 : Int)).toNat; omega)
  have q13 : IntKind.u64.wrap (xs.getD ((4 : Int)).toNat 0) = xs.getD 4 0 := by have := hb.getD ((4 : Int)).toNat; rw [w64]; show (xs.getD ((4 : Int)).toNat 0) % _ = xs.getD ((4 : Int)).toNat 0; omega
  unfold f22c
  show AWl _ _ _ _ _
  refine aNewP st rfl rfl (by repeat constructor) fun b4 H1 st => ?_
  refine aN rfl rfl (by constructor) ?_
  refine aN rfl rfl (by constructor) ?_
  refine sE ?_
  show AWl _ _ _ _ _
  refine aMovV x rfl ?_
  refine aIxBK (st.slc hx) rfl rfl (by first | decide | omega) fun b10 o10 g10 => ?_
  refine aLdG rfl (g10 _ (st.slc hx)) ?_
  refine aC (rkind_call) fun v12 H2 ⟨hv, st1⟩ => ?_
  subst hv
  replace st := st.call st1 rfl
  clear st1
  rw [show kindL (xs.getD ((0 : Int)).toNat 0) = 8 from hop]
  refine aConvV (n := 8) (n' := 8) rfl (by decide) ?_
  refine aBld rfl (by repeat constructor) ?_
  refine aNewP st rfl rfl (by repeat constructor) fun b7 H3 st => ?_
  refine aSt st 0 rfl rfl rfl rfl (by first | rfl | simp [cellsOf, *]) (by first | decide | simp [*]) (by repeat constructor) fun H4 st => ?_
  refine sE ?_
  show AWl _ _ _ _ _
  refine aMovV x rfl ?_
  refine aLen (st.slc hx) rfl ?_
  refine aN rfl rfl (by constructor) ?_
  refine sE ?_
  show AWl _ _ _ _ _
  refine aN rfl rfl (by constructor) ?_
  refine aLd st 0 rfl rfl rfl (by constructor) ?_
  refine aConvV (n := 8) (n' := 8) rfl (by decide) ?_
  refine sE ?_
  show AWl _ _ _ _ _
  refine aBinV (.bool false) rfl rfl rfl ?_
  refine aN rfl rfl (by constructor) ?_
  refine sE ?_
  show AW _ (.cond _ _ _) _ _ _
  refine cF' rfl ?_
  show AWl _ _ _ _ _
  refine aBinV (.bool false) rfl rfl rfl ?_
  refine aN rfl rfl (by constructor) ?_
  refine sE ?_
  show AW _ (.cond _ _ _) _ _ _
  refine cF' rfl ?_
  show AWl _ _ _ _ _
  refine aBinV (.bool false) rfl rfl rfl ?_
  refine aN rfl rfl (by constructor) ?_
  refine sE ?_
  show AW _ (.cond _ _ _) _ _ _
  refine cF' rfl ?_
  show AWl _ _ _ _ _
  refine aBinV (.bool false) rfl rfl rfl ?_
  refine aN rfl rfl (by constructor) ?_
  refine sE ?_
  show AW _ (.cond _ _ _) _ _ _
  refine cF' rfl ?_
  show AWl _ _ _ _ _
  refine aBinV (.bool false) rfl rfl rfl ?_
  refine aN rfl rfl (by constructor) ?_
  refine sE ?_
  show AW _ (.cond _ _ _) _ _ _
  refine cF' rfl ?_
  show AWl _ _ _ _ _
  refine aBinV (.bool false) rfl rfl rfl ?_
  refine aN rfl rfl (by constructor) ?_
  refine sE ?_
  show AW _ (.cond _ _ _) _ _ _
  refine cF' rfl ?_
  show AWl _ _ _ _ _
  refine aBinV (.bool false) rfl rfl rfl ?_
  refine aN rfl rfl (by constructor) ?_
  refine sE ?_
  show AW _ (.cond _ _ _) _ _ _
  refine cF' rfl ?_
  show AWl _ _ _ _ _
  refine aBinV (.bool false) rfl rfl rfl ?_
  refine aN rfl rfl (by constructor) ?_
  refine sE ?_
  show AW _ (.cond _ _ _) _ _ _
  refine cF' rfl ?_
  show AWl _ _ _ _ _
  refine aBinV (.bool false) rfl rfl rfl ?_
  refine aN rfl rfl (by constructor) ?_
  refine sE ?_
  show AW _ (.cond _ _ _) _ _ _
  refine cF' rfl ?_
  show AWl _ _ _ _ _
  refine aBinV (.bool false) rfl rfl rfl ?_
  refine aN rfl rfl (by constructor) ?_
  refine sE ?_
  show AW _ (.cond _ _ _) _ _ _
  refine cF' rfl ?_
  show AWl _ _ _ _ _
  refine aBinV (.bool false) rfl rfl rfl ?_
  refine aN rfl rfl (by constructor) ?_
  refine sE ?_
  show AW _ (.cond _ _ _) _ _ _
  refine cF' rfl ?_
  show AWl _ _ _ _ _
  refine aBinV (.bool false) rfl rfl rfl ?_
  refine aN rfl rfl (by constructor) ?_
  refine sE ?_
  show AW _ (.cond _ _ _) _ _ _
  refine cF' rfl ?_
  show AWl _ _ _ _ _
  refine aBinV (.bool true) rfl rfl rfl ?_
  refine aN rfl rfl (by constructor) ?_
  refine sE ?_
  show AW _ (.cond _ _ _) _ _ _
  refine cT rfl ?_
  show AW _ (.cond _ _ _) _ _ _
  refine cT rfl ?_
  show AWl _ _ _ _ _
  refine aLdA st 0 rfl rfl (by first | decide | simp [*]) (by repeat constructor) ?_
  refine aMovV x rfl ?_
  refine aC (onb8_10 (st.slc hx) hb hlen hq) fun v187 H5 ⟨hv, st1⟩ => ?_
  subst hv
  replace st := st.call st1 rfl
  clear st1
  refine aN rfl rfl (by constructor) ?_
  refine aN rfl rfl (by constructor) ?_
  refine aN rfl rfl (by constructor) ?_
  refine aSt st 1 rfl rfl rfl rfl (by first | rfl | simp [cellsOf, *]) (by first | decide | simp [*]) (by repeat constructor) fun H6 st => ?_
  refine aN rfl rfl (by constructor) ?_
  refine aN rfl rfl (by constructor) ?_
  refine sE ?_
  refine ⟨_, out3 (r_cellA st 1 rfl rfl (by first | decide | simp [*]) (by repeat constructor)) (r_tmp rfl (by constructor)) (r_tmp rfl (by constructor)) ⟨rfl, rfl, rfl⟩, ?_⟩
  exact ⟨rfl, st.drop⟩
theorem told8_16 {H : Hp} {xs : List Int} {x : Value} {sv : Int} (hx : Sl H 1 16 (xs.map (Value.int .u8)) x) (hb : ByteL xs) (hlen : xs.length = 16) (hq : True) (hop : kindL (xs.getD 0 0) = 8) :
    ACalls Try.prog 22 [x, .int .u8 sv] H (fun v H' => v = .tuple #[.agg #[.int .u8 (fillC 8 16 xs sv).kind, .bool (fillC 8 16 xs sv).long, .int .u64 (fillC 8 16 xs sv).lba, .int .u64 (fillC 8 16 xs sv).blocks, .int .i64 (fillC 8 16 xs sv).alloc, .bool (fillC 8 16 xs sv).fua, .int .u8 (fillC 8 16 xs sv).prot, .bool (fillC 8 16 xs sv).unmap, .bool (fillC 8 16 xs sv).evpd, .int .u8 (fillC 8 16 xs sv).page, .int .u8 (fillC 8 16 xs sv).control, .bool (fillC 8 16 xs sv).save, .int .u8 (fillC 8 16 xs sv).service, .int .u8 (fillC 8 16 xs sv).type, .bool (fillC 8 16 xs sv).bytes], .int .i64 (fillF 8 16 xs).1, .int .i64 (fillF 8 16 xs).2] ∧ Stt [] H H' []) := by
  refine acallsW Try.func22 f22_ok (Nat.le_of_ble_eq_true rfl) fun hw => ?_
  have st : Stt [] H H [] := Stt.start hw
  have q1 := hb.getD ((1 : Int)).toNat
  have q2 := hb.getD ((2 : Int)).toNat
  have q4 : IntKind.i64.wrap (xs.getD ((4 : Int)).toNat 0) = xs.getD 4 0 := wi _ (by have := hb.getD ((4 : Int)).toNat; omega)
  have q13 : IntKind.u64.wrap (xs.getD ((4 : Int)).toNat 0) = xs.getD 4 0 := by have := hb.getD ((4 : Int)).toNat; rw [w64]; show (xs.getD ((4 : Int)).toNat 0) % _ = xs.getD ((4 : Int)).toNat 0; omega
  unfold f22c
  show AWl _ _ _ _ _
  refine aNewP st rfl rfl (by repeat constructor) fun b4 H1 st => ?_
  refine aN rfl rfl (by constructor) ?_
  refine aN rfl rfl (by constructor) ?_
  refine sE ?_
  show AWl _ _ _ _ _
  refine aMovV x rfl ?_
  refine aIxBK (st.slc hx) rfl rfl (by first | decide | omega) fun b10 o10 g10 => ?_
  refine aLdG rfl (g10 _ (st.slc hx)) ?_
  refine aC (rkind_call) fun v12 H2 ⟨hv, st1⟩ => ?_
  subst hv
  replace st := st.call st1 rfl
  clear st1
  rw [show kindL (xs.getD ((0 : Int)).toNat 0) = 8 from hop]
  refine aConvV (n := 8) (n' := 8) rfl (by decide) ?_
  refine aBld rfl (by repeat constructor) ?_
  refine aNewP st rfl rfl (by repeat constructor) fun b7 H3 st => ?_
  refine aSt st 0 rfl rfl rfl rfl (by first | rfl | simp [cellsOf, *]) (by first | decide | simp [*]) (by repeat constructor) fun H4 st => ?_
  refine sE ?_
  show AWl _ _ _ _ _
  refine aMovV x rfl ?_
  refine aLen (st.slc hx) rfl ?_
  refine aN rfl rfl (by constructor) ?_
  refine sE ?_
  show AWl _ _ _ _ _
  refine aN rfl rfl (by constructor) ?_
  refine aLd st 0 rfl rfl rfl (by constructor) ?_
  refine aConvV (n := 8) (n' := 8) rfl (by decide) ?_
  refine sE ?_
  show AWl _ _ _ _ _
  refine aBinV (.bool false) rfl rfl rfl ?_
  refine aN rfl rfl (by constructor) ?_
  refine sE ?_
  show AW _ (.cond _ _ _) _ _ _
  refine cF' rfl ?_
  show AWl _ _ _ _ _
  refine aBinV (.bool false) rfl rfl rfl ?_
  refine aN rfl rfl (by constructor) ?_
  refine sE ?_
  show AW _ (.cond _ _ _) _ _ _
  refine cF' rfl ?_
  show AWl _ _ _ _ _
  refine aBinV (.bool false) rfl rfl rfl ?_
  refine aN rfl rfl (by constructor) ?_
  refine sE ?_
  show AW _ (.cond _ _ _) _ _ _
  refine cF' rfl ?_
  show AWl _ _ _ _ _
  refine aBinV (.bool false) rfl rfl rfl ?_
  refine aN rfl rfl (by constructor) ?_
  refine sE ?_
  show AW _ (.cond _ _ _) _ _ _
  refine cF' rfl ?_
  show AWl _ _ _ _ _
  refine aBinV (.bool false) rfl rfl rfl ?_
  refine aN rfl rfl (by constructor) ?_
  refine sE ?_
  show AW _ (.cond _ _ _) _ _ _
  refine cF' rfl ?_
  show AWl _ _ _ _ _
  refine aBinV (.bool false) rfl rfl rfl ?_
  refine aN rfl rfl (by constructor) ?_
  refine sE ?_
  show AW _ (.cond _ _ _) _ _ _
  refine cF' rfl ?_
  show AWl _ _ _ _ _
  refine aBinV (.bool false) rfl rfl rfl ?_
  refine aN rfl rfl (by constructor) ?_
  refine sE ?_
  show AW _ (.cond _ _ _) _ _ _
  refine cF' rfl ?_
  show AWl _ _ _ _ _
  refine aBinV (.bool false) rfl rfl rfl ?_
  refine aN rfl rfl (by constructor) ?_
  refine sE ?_
  show AW _ (.cond _ _ _) _ _ _
  refine cF' rfl ?_
  show AWl _ _ _ _ _
  refine aBinV (.bool false) rfl rfl rfl ?_
  refine aN rfl rfl (by constructor) ?_
  refine sE ?_
  show AW _ (.cond _ _ _) _ _ _
  refine cF' rfl ?_
  show AWl _ _ _ _ _
  refine aBinV (.bool false) rfl rfl rfl ?_
  refine aN rfl rfl (by constructor) ?_
  refine sE ?_
  show AW _ (.cond _ _ _) _ _ _
  refine cF' rfl ?_
  show AWl _ _ _ _ _
  refine aBinV (.bool false) rfl rfl rfl ?_
  refine aN rfl rfl (by constructor) ?_
  refine sE ?_
  show AW _ (.cond _ _ _) _ _ _
  refine cF' rfl ?_
  show AWl _ _ _ _ _
  refine aBinV (.bool false) rfl rfl rfl ?_
  refine aN rfl rfl (by constructor) ?_
  refine sE ?_
  show AW _ (.cond _ _ _) _ _ _
  refine cF' rfl ?_
  show AWl _ _ _ _ _
  refine aBinV (.bool true) rfl rfl rfl ?_
  refine aN rfl rfl (by constructor) ?_
  refine sE ?_
  show AW _ (.cond _ _ _) _ _ _
  refine cT rfl ?_
  show AW _ (.cond _ _ _) _ _ _
  refine cT rfl ?_
  show AWl _ _ _ _ _
  refine aLdA st 0 rfl rfl (by first | decide | simp [*]) (by repeat constructor) ?_
  refine aMovV x rfl ?_
  refine aC (onb8_16 (st.slc hx) hb hlen hq) fun v187 H5 ⟨hv, st1⟩ => ?_
  subst hv
  replace st := st.call st1 rfl
  clear st1
  refine aN rfl rfl (by constructor) ?_
  refine aN rfl rfl (by constructor) ?_
  refine aN rfl rfl (by constructor) ?_
  refine aSt st 1 rfl rfl rfl rfl (by first | rfl | simp [cellsOf, *]) (by first | decide | simp [*]) (by repeat constructor) fun H6 st => ?_
  refine aN rfl rfl (by constructor) ?_
  refine aN rfl rfl (by constructor) ?_
  refine sE ?_
  refine ⟨_, out3 (r_cellA st 1 rfl rfl (by first | decide | simp [*]) (by repeat constructor)) (r_tmp rfl (by constructor)) (r_tmp rfl (by constructor)) ⟨rfl, rfl, rfl⟩, ?_⟩
  exact ⟨rfl, st.drop⟩
theorem told9_10 {H : Hp} {xs : List Int} {x : Value} {sv : Int} (hx : Sl H 1 10 (xs.map (Value.int .u8)) x) (hb : ByteL xs) (hlen : xs.length = 10) (hq : True) (hop : kindL (xs.getD 0 0) = 9) :
    ACalls Try.prog 22 [x, .int .u8 sv] H (fun v H' => v = .tuple #[.agg #[.int .u8 (fillC 9 10 xs sv).kind, .bool (fillC 9 10 xs sv).long, .int .u64 (fillC 9 10 xs sv).lba, .int .u64 (fillC 9 10 xs sv).blocks, .int .i64 (fillC 9 10 xs sv).alloc, .bool (fillC 9 10 xs sv).fua, .int .u8 (fillC 9 10 xs sv).prot, .bool (fillC 9 10 xs sv).unmap, .bool (fillC 9 10 xs sv).evpd, .int .u8 (fillC 9 10 xs sv).page, .int .u8 (fillC 9 10 xs sv).control, .bool (fillC 9 10 xs sv).save, .int .u8 (fillC 9 10 xs sv).service, .int .u8 (fillC 9 10 xs sv).type, .bool (fillC 9 10 xs sv).bytes], .int .i64 (fillF 9 10 xs).1, .int .i64 (fillF 9 10 xs).2] ∧ Stt [] H H' []) := by
  refine acallsW Try.func22 f22_ok (Nat.le_of_ble_eq_true rfl) fun hw => ?_
  have st : Stt [] H H [] := Stt.start hw
  have q1 := hb.getD ((1 : Int)).toNat
  have q2 := hb.getD ((2 : Int)).toNat
  have q4 : IntKind.i64.wrap (xs.getD ((4 : Int)).toNat 0) = xs.getD 4 0 := wi _ (by have := hb.getD ((4 : Int)).toNat; omega)
  have q13 : IntKind.u64.wrap (xs.getD ((4 : Int)).toNat 0) = xs.getD 4 0 := by have := hb.getD ((4 : Int)).toNat; rw [w64]; show (xs.getD ((4 : Int)).toNat 0) % _ = xs.getD ((4 : Int)).toNat 0; omega
  unfold f22c
  show AWl _ _ _ _ _
  refine aNewP st rfl rfl (by repeat constructor) fun b4 H1 st => ?_
  refine aN rfl rfl (by constructor) ?_
  refine aN rfl rfl (by constructor) ?_
  refine sE ?_
  show AWl _ _ _ _ _
  refine aMovV x rfl ?_
  refine aIxBK (st.slc hx) rfl rfl (by first | decide | omega) fun b10 o10 g10 => ?_
  refine aLdG rfl (g10 _ (st.slc hx)) ?_
  refine aC (rkind_call) fun v12 H2 ⟨hv, st1⟩ => ?_
  subst hv
  replace st := st.call st1 rfl
  clear st1
  rw [show kindL (xs.getD ((0 : Int)).toNat 0) = 9 from hop]
  refine aConvV (n := 9) (n' := 9) rfl (by decide) ?_
  refine aBld rfl (by repeat constructor) ?_
  refine aNewP st rfl rfl (by repeat constructor) fun b7 H3 st => ?_
  refine aSt st 0 rfl rfl rfl rfl (by first | rfl | simp [cellsOf, *]) (by first | decide | simp [*]) (by repeat constructor) fun H4 st => ?_
  refine sE ?_
  show AWl _ _ _ _ _
  refine aMovV x rfl ?_
  refine aLen (st.slc hx) rfl ?_
  refine aN rfl rfl (by constructor) ?_
  refine sE ?_
  show AWl _ _ _ _ _
  refine aN rfl rfl (by constructor) ?_
  refine aLd st 0 rfl rfl rfl (by constructor) ?_
  refine aConvV (n := 9) (n' := 9) rfl (by decide) ?_
  refine sE ?_
  show AWl _ _ _ _ _
  refine aBinV (.bool false) rfl rfl rfl ?_
  refine aN rfl rfl (by constructor) ?_
  refine sE ?_
  show AW _ (.cond _ _ _) _ _ _
  refine cF' rfl ?_
  show AWl _ _ _ _ _
  refine aBinV (.bool false) rfl rfl rfl ?_
  refine aN rfl rfl (by constructor) ?_
  refine sE ?_
  show AW _ (.cond _ _ _) _ _ _
  refine cF' rfl ?_
  show AWl _ _ _ _ _
  refine aBinV (.bool false) rfl rfl rfl ?_
  refine aN rfl rfl (by constructor) ?_
  refine sE ?_
  show AW _ (.cond _ _ _) _ _ _
  refine cF' rfl ?_
  show AWl _ _ _ _ _
  refine aBinV (.bool false) rfl rfl rfl ?_
  refine aN rfl rfl (by constructor) ?_
  refine sE ?_
  show AW _ (.cond _ _ _) _ _ _
  refine cF' rfl ?_
  show AWl _ _ _ _ _
  refine aBinV (.bool false) rfl rfl rfl ?_
  refine aN rfl rfl (by constructor) ?_
  refine sE ?_
  show AW _ (.cond _ _ _) _ _ _
  refine cF' rfl ?_
  show AWl _ _ _ _ _
  refine aBinV (.bool false) rfl rfl rfl ?_
  refine aN rfl rfl (by constructor) ?_
  refine sE ?_
  show AW _ (.cond _ _ _) _ _ _
  refine cF' rfl ?_
  show AWl _ _ _ _ _
  refine aBinV (.bool false) rfl rfl rfl ?_
  refine aN rfl rfl (by constructor) ?_
  refine sE ?_
  show AW _ (.cond _ _ _) _ _ _
  refine cF' rfl ?_
  show AWl _ _ _ _ _
  refine aBinV (.bool false) rfl rfl rfl ?_
  refine aN rfl rfl (by constructor) ?_
  refine sE ?_
  show AW _ (.cond _ _ _) _ _ _
  refine cF' rfl ?_
  show AWl _ _ _ _ _
  refine aBinV (.bool false) rfl rfl rfl ?_
  refine aN rfl rfl (by constructor) ?_
  refine sE ?_
  show AW _ (.cond _ _ _) _ _ _
  refine cF' rfl ?_
  show AWl _ _ _ _ _
  refine aBinV (.bool false) rfl rfl rfl ?_
  refine aN rfl rfl (by constructor) ?_
  refine sE ?_
  show AW _ (.cond _ _ _) _ _ _
  refine cF' rfl ?_
  show AWl _ _ _ _ _
  refine aBinV (.bool false) rfl rfl rfl ?_
  refine aN rfl rfl (by constructor) ?_
  refine sE ?_
  show AW _ (.cond _ _ _) _ _ _
  refine cF' rfl ?_
  show AWl _ _ _ _ _
  refine aBinV (.bool false) rfl rfl rfl ?_
  refine aN rfl rfl (by constructor) ?_
  refine sE ?_
  show AW _ (.cond _ _ _) _ _ _
  refine cF' rfl ?_
  show AWl _ _ _ _ _
  refine aBinV (.bool false) rfl rfl rfl ?_
  refine aN rfl rfl (by constructor) ?_
  refine sE ?_
  show AW _ (.cond _ _ _) _ _ _
  refine cF' rfl ?_
  show AWl _ _ _ _ _
  refine aBinV (.bool true) rfl rfl rfl ?_
  refine aN rfl rfl (by constructor) ?_
  refine sE ?_
  show AW _ (.cond _ _ _) _ _ _
  refine cT rfl ?_
  show AW _ (.cond _ _ _) _ _ _
  refine cT rfl ?_
  show AWl _ _ _ _ _
  refine aLdA st 0 rfl rfl (by first | decide | simp [*]) (by repeat constructor) ?_
  refine aMovV x rfl ?_
  refine aC (onb9_10 (st.slc hx) hb hlen hq) fun v187 H5 ⟨hv, st1⟩ => ?_
  subst hv
  replace st := st.call st1 rfl
  clear st1
  refine aN rfl rfl (by constructor) ?_
  refine aN rfl rfl (by constructor) ?_
  refine aN rfl rfl (by constructor) ?_
  refine aSt st 1 rfl rfl rfl rfl (by first | rfl | simp [cellsOf, *]) (by first | decide | simp [*]) (by repeat constructor) fun H6 st => ?_
  refine aN rfl rfl (by constructor) ?_
  refine aN rfl rfl (by constructor) ?_
  refine sE ?_
  refine ⟨_, out3 (r_cellA st 1 rfl rfl (by first | decide | simp [*]) (by repeat constructor)) (r_tmp rfl (by constructor)) (r_tmp rfl (by constructor)) ⟨rfl, rfl, rfl⟩, ?_⟩
  exact ⟨rfl, st.drop⟩
theorem told10_10 {H : Hp} {xs : List Int} {x : Value} {sv : Int} (hx : Sl H 1 10 (xs.map (Value.int .u8)) x) (hb : ByteL xs) (hlen : xs.length = 10) (hq : True) (hop : kindL (xs.getD 0 0) = 10) :
    ACalls Try.prog 22 [x, .int .u8 sv] H (fun v H' => v = .tuple #[.agg #[.int .u8 (fillC 10 10 xs sv).kind, .bool (fillC 10 10 xs sv).long, .int .u64 (fillC 10 10 xs sv).lba, .int .u64 (fillC 10 10 xs sv).blocks, .int .i64 (fillC 10 10 xs sv).alloc, .bool (fillC 10 10 xs sv).fua, .int .u8 (fillC 10 10 xs sv).prot, .bool (fillC 10 10 xs sv).unmap, .bool (fillC 10 10 xs sv).evpd, .int .u8 (fillC 10 10 xs sv).page, .int .u8 (fillC 10 10 xs sv).control, .bool (fillC 10 10 xs sv).save, .int .u8 (fillC 10 10 xs sv).service, .int .u8 (fillC 10 10 xs sv).type, .bool (fillC 10 10 xs sv).bytes], .int .i64 (fillF 10 10 xs).1, .int .i64 (fillF 10 10 xs).2] ∧ Stt [] H H' []) := by
  refine acallsW Try.func22 f22_ok (Nat.le_of_ble_eq_true rfl) fun hw => ?_
  have st : Stt [] H H [] := Stt.start hw
  have q1 := hb.getD ((1 : Int)).toNat
  have q2 := hb.getD ((2 : Int)).toNat
  have q4 : IntKind.i64.wrap (xs.getD ((4 : Int)).toNat 0) = xs.getD 4 0 := wi _ (by have := hb.getD ((4 : Int)).toNat; omega)
  have q13 : IntKind.u64.wrap (xs.getD ((4 : Int)).toNat 0) = xs.getD 4 0 := by have := hb.getD ((4 : Int)).toNat; rw [w64]; show (xs.getD ((4 : Int)).toNat 0) % _ = xs.getD ((4 : Int)).toNat 0; omega
  unfold f22c
  show AWl _ _ _ _ _
  refine aNewP st rfl rfl (by repeat constructor) fun b4 H1 st => ?_
  refine aN rfl rfl (by constructor) ?_
  refine aN rfl rfl (by constructor) ?_
  refine sE ?_
  show AWl _ _ _ _ _
  refine aMovV x rfl ?_
  refine aIxBK (st.slc hx) rfl rfl (by first | decide | omega) fun b10 o10 g10 => ?_
  refine aLdG rfl (g10 _ (st.slc hx)) ?_
  refine aC (rkind_call) fun v12 H2 ⟨hv, st1⟩ => ?_
  subst hv
  replace st := st.call st1 rfl
  clear st1
  rw [show kindL (xs.getD ((0 : Int)).toNat 0) = 10 from hop]
  refine aConvV (n := 10) (n' := 10) rfl (by decide) ?_
  refine aBld rfl (by repeat constructor) ?_
  refine aNewP st rfl rfl (by repeat constructor) fun b7 H3 st => ?_
  refine aSt st 0 rfl rfl rfl rfl (by first | rfl | simp [cellsOf, *]) (by first | decide | simp [*]) (by repeat constructor) fun H4 st => ?_
  refine sE ?_
  show AWl _ _ _ _ _
  refine aMovV x rfl ?_
  refine aLen (st.slc hx) rfl ?_
  refine aN rfl rfl (by constructor) ?_
  refine sE ?_
  show AWl _ _ _ _ _
  refine aN rfl rfl (by constructor) ?_
  refine aLd st 0 rfl rfl rfl (by constructor) ?_
  refine aConvV (n := 10) (n' := 10) rfl (by decide) ?_
  refine sE ?_
  show AWl _ _ _ _ _
  refine aBinV (.bool false) rfl rfl rfl ?_
  refine aN rfl rfl (by constructor) ?_
  refine sE ?_
  show AW _ (.cond _ _ _) _ _ _
  refine cF' rfl ?_
  show AWl _ _ _ _ _
  refine aBinV (.bool false) rfl rfl rfl ?_
  refine aN rfl rfl (by constructor) ?_
  refine sE ?_
  show AW _ (.cond _ _ _) _ _ _
  refine cF' rfl ?_
  show AWl _ _ _ _ _
  refine aBinV (.bool false) rfl rfl rfl ?_
  refine aN rfl rfl (by constructor) ?_
  refine sE ?_
  show AW _ (.cond _ _ _) _ _ _
  refine cF' rfl ?_
  show AWl _ _ _ _ _
  refine aBinV (.bool false) rfl rfl rfl ?_
  refine aN rfl rfl (by constructor) ?_
  refine sE ?_
  show AW _ (.cond _ _ _) _ _ _
  refine cF' rfl ?_
  show AWl _ _ _ _ _
  refine aBinV (.bool false) rfl rfl rfl ?_
  refine aN rfl rfl (by constructor) ?_
  refine sE ?_
  show AW _ (.cond _ _ _) _ _ _
  refine cF' rfl ?_
  show AWl _ _ _ _ _
  refine aBinV (.bool false) rfl rfl rfl ?_
  refine aN rfl rfl (by constructor) ?_
  refine sE ?_
  show AW _ (.cond _ _ _) _ _ _
  refine cF' rfl ?_
  show AWl _ _ _ _ _
  refine aBinV (.bool false) rfl rfl rfl ?_
  refine aN rfl rfl (by constructor) ?_
  refine sE ?_
  show AW _ (.cond _ _ _) _ _ _
  refine cF' rfl ?_
  show AWl _ _ _ _ _
  refine aBinV (.bool false) rfl rfl rfl ?_
  refine aN rfl rfl (by constructor) ?_
  refine sE ?_
  show AW _ (.cond _ _ _) _ _ _
  refine cF' rfl ?_
  show AWl _ _ _ _ _
  refine aBinV (.bool false) rfl rfl rfl ?_
  refine aN rfl rfl (by constructor) ?_
  refine sE ?_
  show AW _ (.cond _ _ _) _ _ _
  refine cF' rfl ?_
  show AWl _ _ _ _ _
  refine aBinV (.bool false) rfl rfl rfl ?_
  refine aN rfl rfl (by constructor) ?_
  refine sE ?_
  show AW _ (.cond _ _ _) _ _ _
  refine cF' rfl ?_
  show AWl _ _ _ _ _
  refine aBinV (.bool false) rfl rfl rfl ?_
  refine aN rfl rfl (by constructor) ?_
  refine sE ?_
  show AW _ (.cond _ _ _) _ _ _
  refine cF' rfl ?_
  show AWl _ _ _ _ _
  refine aBinV (.bool false) rfl rfl rfl ?_
  refine aN rfl rfl (by constructor) ?_
  refine sE ?_
  show AW _ (.cond _ _ _) _ _ _
  refine cF' rfl ?_
  show AWl _ _ _ _ _
  refine aBinV (.bool false) rfl rfl rfl ?_
  refine aN rfl rfl (by constructor) ?_
  refine sE ?_
  show AW _ (.cond _ _ _) _ _ _
  refine cF' rfl ?_
  show AWl _ _ _ _ _
  refine aBinV (.bool false) rfl rfl rfl ?_
  refine aN rfl rfl (by constructor) ?_
  refine sE ?_
  show AW _ (.cond _ _ _) _ _ _
  refine cF' rfl ?_
  show AWl _ _ _ _ _
  refine aBinV (.bool true) rfl rfl rfl ?_
  refine aN rfl rfl (by constructor) ?_
  refine sE ?_
  show AW _ (.cond _ _ _) _ _ _
  refine cT rfl ?_
  show AW _ (.cond _ _ _) _ _ _
  refine cT rfl ?_
  show AWl _ _ _ _ _
  refine aLdA st 0 rfl rfl (by first | decide | simp [*]) (by repeat constructor) ?_
  refine aMovV x rfl ?_
  refine aC (onb10_10 (st.slc hx) hb hlen hq) fun v187 H5 ⟨hv, st1⟩ => ?_
  subst hv
  replace st := st.call st1 rfl
  clear st1
  refine aN rfl rfl (by constructor) ?_
  refine aN rfl rfl (by constructor) ?_
  refine aN rfl rfl (by constructor) ?_
  refine aSt st 1 rfl rfl rfl rfl (by first | rfl | simp [cellsOf, *]) (by first | decide | simp [*]) (by repeat constructor) fun H6 st => ?_
  refine aN rfl rfl (by constructor) ?_
  refine aN rfl rfl (by constructor) ?_
  refine sE ?_
  refine ⟨_, out3 (r_cellA st 1 rfl rfl (by first | decide | simp [*]) (by repeat constructor)) (r_tmp rfl (by constructor)) (r_tmp rfl (by constructor)) ⟨rfl, rfl, rfl⟩, ?_⟩
  exact ⟨rfl, st.drop⟩
theorem told11_10 {H : Hp} {xs : List Int} {x : Value} {sv : Int} (hx : Sl H 1 10 (xs.map (Value.int .u8)) x) (hb : ByteL xs) (hlen : xs.length = 10) (hq : True) (hop : kindL (xs.getD 0 0) = 11) :
    ACalls Try.prog 22 [x, .int .u8 sv] H (fun v H' => v = .tuple #[.agg #[.int .u8 (fillC 11 10 xs sv).kind, .bool (fillC 11 10 xs sv).long, .int .u64 (fillC 11 10 xs sv).lba, .int .u64 (fillC 11 10 xs sv).blocks, .int .i64 (fillC 11 10 xs sv).alloc, .bool (fillC 11 10 xs sv).fua, .int .u8 (fillC 11 10 xs sv).prot, .bool (fillC 11 10 xs sv).unmap, .bool (fillC 11 10 xs sv).evpd, .int .u8 (fillC 11 10 xs sv).page, .int .u8 (fillC 11 10 xs sv).control, .bool (fillC 11 10 xs sv).save, .int .u8 (fillC 11 10 xs sv).service, .int .u8 (fillC 11 10 xs sv).type, .bool (fillC 11 10 xs sv).bytes], .int .i64 (fillF 11 10 xs).1, .int .i64 (fillF 11 10 xs).2] ∧ Stt [] H H' []) := by
  refine acallsW Try.func22 f22_ok (Nat.le_of_ble_eq_true rfl) fun hw => ?_
  have st : Stt [] H H [] := Stt.start hw
  have q1 := hb.getD ((1 : Int)).toNat
  have q2 := hb.getD ((2 : Int)).toNat
  have q4 : IntKind.i64.wrap (xs.getD ((4 : Int)).toNat 0) = xs.getD 4 0 := wi _ (by have := hb.getD ((4 : Int)).toNat; omega)
  have q13 : IntKind.u64.wrap (xs.getD ((4 : Int)).toNat 0) = xs.getD 4 0 := by have := hb.getD ((4 : Int)).toNat; rw [w64]; show (xs.getD ((4 : Int)).toNat 0) % _ = xs.getD ((4 : Int)).toNat 0; omega
  unfold f22c
  show AWl _ _ _ _ _
  refine aNewP st rfl rfl (by repeat constructor) fun b4 H1 st => ?_
  refine aN rfl rfl (by constructor) ?_
  refine aN rfl rfl (by constructor) ?_
  refine sE ?_
  show AWl _ _ _ _ _
  refine aMovV x rfl ?_
  refine aIxBK (st.slc hx) rfl rfl (by first | decide | omega) fun b10 o10 g10 => ?_
  refine aLdG rfl (g10 _ (st.slc hx)) ?_
  refine aC (rkind_call) fun v12 H2 ⟨hv, st1⟩ => ?_
  subst hv
  replace st := st.call st1 rfl
  clear st1
  rw [show kindL (xs.getD ((0 : Int)).toNat 0) = 11 from hop]
  refine aConvV (n := 11) (n' := 11) rfl (by decide) ?_
  refine aBld rfl (by repeat constructor) ?_
  refine aNewP st rfl rfl (by repeat constructor) fun b7 H3 st => ?_
  refine aSt st 0 rfl rfl rfl rfl (by first | rfl | simp [cellsOf, *]) (by first | decide | simp [*]) (by repeat constructor) fun H4 st => ?_
  refine sE ?_
  show AWl _ _ _ _ _
  refine aMovV x rfl ?_
  refine aLen (st.slc hx) rfl ?_
  refine aN rfl rfl (by constructor) ?_
  refine sE ?_
  show AWl _ _ _ _ _
  refine aN rfl rfl (by constructor) ?_
  refine aLd st 0 rfl rfl rfl (by constructor) ?_
  refine aConvV (n := 11) (n' := 11) rfl (by decide) ?_
  refine sE ?_
  show AWl _ _ _ _ _
  refine aBinV (.bool false) rfl rfl rfl ?_
  refine aN rfl rfl (by constructor) ?_
  refine sE ?_
  show AW _ (.cond _ _ _) _ _ _
  refine cF' rfl ?_
  show AWl _ _ _ _ _
  refine aBinV (.bool false) rfl rfl rfl ?_
  refine aN rfl rfl (by constructor) ?_
  refine sE ?_
  show AW _ (.cond _ _ _) _ _ _
  refine cF' rfl ?_
  show AWl _ _ _ _ _
  refine aBinV (.bool false) rfl rfl rfl ?_
  refine aN rfl rfl (by constructor) ?_
  refine sE ?_
  show AW _ (.cond _ _ _) _ _ _
  refine cF' rfl ?_
  show AWl _ _ _ _ _
  refine aBinV (.bool false) rfl rfl rfl ?_
  refine aN rfl rfl (by constructor) ?_
  refine sE ?_
  show AW _ (.cond _ _ _) _ _ _
  refine cF' rfl ?_
  show AWl _ _ _ _ _
  refine aBinV (.bool false) rfl rfl rfl ?_
  refine aN rfl rfl (by constructor) ?_
  refine sE ?_
  show AW _ (.cond _ _ _) _ _ _
  refine cF' rfl ?_
  show AWl _ _ _ _ _
  refine aBinV (.bool false) rfl rfl rfl ?_
  refine aN rfl rfl (by constructor) ?_
  refine sE ?_
  show AW _ (.cond _ _ _) _ _ _
  refine cF' rfl ?_
  show AWl _ _ _ _ _
  refine aBinV (.bool false) rfl rfl rfl ?_
  refine aN rfl rfl (by constructor) ?_
  refine sE ?_
  show AW _ (.cond _ _ _) _ _ _
  refine cF' rfl ?_
  show AWl _ _ _ _ _
  refine aBinV (.bool false) rfl rfl rfl ?_
  refine aN rfl rfl (by constructor) ?_
  refine sE ?_
  show AW _ (.cond _ _ _) _ _ _
  refine cF' rfl ?_
  show AWl _ _ _ _ _
  refine aBinV (.bool false) rfl rfl rfl ?_
  refine aN rfl rfl (by constructor) ?_
  refine sE ?_
  show AW _ (.cond _ _ _) _ _ _
  refine cF' rfl ?_
  show AWl _ _ _ _ _
  refine aBinV (.bool false) rfl rfl rfl ?_
  refine aN rfl rfl (by constructor) ?_
  refine sE ?_
  show AW _ (.cond _ _ _) _ _ _
  refine cF' rfl ?_
  show AWl _ _ _ _ _
  refine aBinV (.bool false) rfl rfl rfl ?_
  refine aN rfl rfl (by constructor) ?_
  refine sE ?_
  show AW _ (.cond _ _ _) _ _ _
  refine cF' rfl ?_
  show AWl _ _ _ _ _
  refine aBinV (.bool false) rfl rfl rfl ?_
  refine aN rfl rfl (by constructor) ?_
  refine sE ?_
  show AW _ (.cond _ _ _) _ _ _
  refine cF' rfl ?_
  show AWl _ _ _ _ _
  refine aBinV (.bool false) rfl rfl rfl ?_
  refine aN rfl rfl (by constructor) ?_
  refine sE ?_
  show AW _ (.cond _ _ _) _ _ _
  refine cF' rfl ?_
  show AWl _ _ _ _ _
  refine aBinV (.bool false) rfl rfl rfl ?_
  refine aN rfl rfl (by constructor) ?_
  refine sE ?_
  show AW _ (.cond _ _ _) _ _ _
  refine cF' rfl ?_
  show AWl _ _ _ _ _
  refine aBinV (.bool false) rfl rfl rfl ?_
  refine aN rfl rfl (by constructor) ?_
  refine sE ?_
  show AW _ (.cond _ _ _) _ _ _
  refine cF' rfl ?_
  show AWl _ _ _ _ _
  refine aBinV (.bool true) rfl rfl rfl ?_
  refine aN rfl rfl (by constructor) ?_
  refine sE ?_
  show AW _ (.cond _ _ _) _ _ _
  refine cT rfl ?_
  show AW _ (.cond _ _ _) _ _ _
  refine cT rfl ?_
  show AWl _ _ _ _ _
  refine aLdA st 0 rfl rfl (by first | decide | simp [*]) (by repeat constructor) ?_
  refine aMovV x rfl ?_
  refine aC (onb11_10 (st.slc hx) hb hlen hq) fun v187 H5 ⟨hv, st1⟩ => ?_
  subst hv
  replace st := st.call st1 rfl
  clear st1
  refine aN rfl rfl (by constructor) ?_
  refine aN rfl rfl (by constructor) ?_
  refine aN rfl rfl (by constructor) ?_
  refine aSt st 1 rfl rfl rfl rfl (by first | rfl | simp [cellsOf, *]) (by first | decide | simp [*]) (by repeat constructor) fun H6 st => ?_
  refine aN rfl rfl (by constructor) ?_
  refine aN rfl rfl (by constructor) ?_
  refine sE ?_
  refine ⟨_, out3 (r_cellA st 1 rfl rfl (by first | decide | simp [*]) (by repeat constructor)) (r_tmp rfl (by constructor)) (r_tmp rfl (by constructor)) ⟨rfl, rfl, rfl⟩, ?_⟩
  exact ⟨rfl, st.drop⟩
theorem told11_16 {H : Hp} {xs : List Int} {x : Value} {sv : Int} (hx : Sl H 1 16 (xs.map (Value.int .u8)) x) (hb : ByteL xs) (hlen : xs.length = 16) (hq : True) (hop : kindL (xs.getD 0 0) = 11) :
    ACalls Try.prog 22 [x, .int .u8 sv] H (fun v H' => v = .tuple #[.agg #[.int .u8 (fillC 11 16 xs sv).kind, .bool (fillC 11 16 xs sv).long, .int .u64 (fillC 11 16 xs sv).lba, .int .u64 (fillC 11 16 xs sv).blocks, .int .i64 (fillC 11 16 xs sv).alloc, .bool (fillC 11 16 xs sv).fua, .int .u8 (fillC 11 16 xs sv).prot, .bool (fillC 11 16 xs sv).unmap, .bool (fillC 11 16 xs sv).evpd, .int .u8 (fillC 11 16 xs sv).page, .int .u8 (fillC 11 16 xs sv).control, .bool (fillC 11 16 xs sv).save, .int .u8 (fillC 11 16 xs sv).service, .int .u8 (fillC 11 16 xs sv).type, .bool (fillC 11 16 xs sv).bytes], .int .i64 (fillF 11 16 xs).1, .int .i64 (fillF 11 16 xs).2] ∧ Stt [] H H' []) := by
  refine acallsW Try.func22 f22_ok (Nat.le_of_ble_eq_true rfl) fun hw => ?_
  have st : Stt [] H H [] := Stt.start hw
  have q1 := hb.getD ((1 : Int)).toNat
  have q2 := hb.getD ((2 : Int)).toNat
  have q4 : IntKind.i64.wrap (xs.getD ((4 : Int)).toNat 0) = xs.getD 4 0 := wi _ (by have := hb.getD ((4 : Int)).toNat; omega)
  have q13 : IntKind.u64.wrap (xs.getD ((4 : Int)).toNat 0) = xs.getD 4 0 := by have := hb.getD ((4 : Int)).toNat; rw [w64]; show (xs.getD ((4 : Int)).toNat 0) % _ = xs.getD ((4 : Int)).toNat 0; omega
  unfold f22c
  show AWl _ _ _ _ _
  refine aNewP st rfl rfl (by repeat constructor) fun b4 H1 st => ?_
  refine aN rfl rfl (by constructor) ?_
  refine aN rfl rfl (by constructor) ?_
  refine sE ?_
  show AWl _ _ _ _ _
  refine aMovV x rfl ?_
  refine aIxBK (st.slc hx) rfl rfl (by first | decide | omega) fun b10 o10 g10 => ?_
  refine aLdG rfl (g10 _ (st.slc hx)) ?_
  refine aC (rkind_call) fun v12 H2 ⟨hv, st1⟩ => ?_
  subst hv
  replace st := st.call st1 rfl
  clear st1
  rw [show kindL (xs.getD ((0 : Int)).toNat 0) = 11 from hop]
  refine aConvV (n := 11) (n' := 11) rfl (by decide) ?_
  refine aBld rfl (by repeat constructor) ?_
  refine aNewP st rfl rfl (by repeat constructor) fun b7 H3 st => ?_
  refine aSt st 0 rfl rfl rfl rfl (by first | rfl | simp [cellsOf, *]) (by first | decide | simp [*]) (by repeat constructor) fun H4 st => ?_
  refine sE ?_
  show AWl _ _ _ _ _
  refine aMovV x rfl ?_
  refine aLen (st.slc hx) rfl ?_
  refine aN rfl rfl (by constructor) ?_
  refine sE ?_
  show AWl _ _ _ _ _
  refine aN rfl rfl (by constructor) ?_
  refine aLd st 0 rfl rfl rfl (by constructor) ?_
  refine aConvV (n := 11) (n' := 11) rfl (by decide) ?_
  refine sE ?_
  show AWl _ _ _ _ _
  refine aBinV (.bool false) rfl rfl rfl ?_
  refine aN rfl rfl (by constructor) ?_
  refine sE ?_
  show AW _ (.cond _ _ _) _ _ _
  refine cF' rfl ?_
  show AWl _ _ _ _ _
  refine aBinV (.bool false) rfl rfl rfl ?_
  refine aN rfl rfl (by constructor) ?_
  refine sE ?_
  show AW _ (.cond _ _ _) _ _ _
  refine cF' rfl ?_
  show AWl _ _ _ _ _
  refine aBinV (.bool false) rfl rfl rfl ?_
  refine aN rfl rfl (by constructor) ?_
  refine sE ?_
  show AW _ (.cond _ _ _) _ _ _
  refine cF' rfl ?_
  show AWl _ _ _ _ _
  refine aBinV (.bool false) rfl rfl rfl ?_
  refine aN rfl rfl (by constructor) ?_
  refine sE ?_
  show AW _ (.cond _ _ _) _ _ _
  refine cF' rfl ?_
  show AWl _ _ _ _ _
  refine aBinV (.bool false) rfl rfl rfl ?_
  refine aN rfl rfl (by constructor) ?_
  refine sE ?_
  show AW _ (.cond _ _ _) _ _ _
  refine cF' rfl ?_
  show AWl _ _ _ _ _
  refine aBinV (.bool false) rfl rfl rfl ?_
  refine aN rfl rfl (by constructor) ?_
  refine sE ?_
  show AW _ (.cond _ _ _) _ _ _
  refine cF' rfl ?_
  show AWl _ _ _ _ _
  refine aBinV (.bool false) rfl rfl rfl ?_
  refine aN rfl rfl (by constructor) ?_
  refine sE ?_
  show AW _ (.cond _ _ _) _ _ _
  refine cF' rfl ?_
  show AWl _ _ _ _ _
  refine aBinV (.bool false) rfl rfl rfl ?_
  refine aN rfl rfl (by constructor) ?_
  refine sE ?_
  show AW _ (.cond _ _ _) _ _ _
  refine cF' rfl ?_
  show AWl _ _ _ _ _
  refine aBinV (.bool false) rfl rfl rfl ?_
  refine aN rfl rfl (by constructor) ?_
  refine sE ?_
  show AW _ (.cond _ _ _) _ _ _
  refine cF' rfl ?_
  show AWl _ _ _ _ _
  refine aBinV (.bool false) rfl rfl rfl ?_
  refine aN rfl rfl (by constructor) ?_
  refine sE ?_
  show AW _ (.cond _ _ _) _ _ _
  refine cF' rfl ?_
  show AWl _ _ _ _ _
  refine aBinV (.bool false) rfl rfl rfl ?_
  refine aN rfl rfl (by constructor) ?_
  refine sE ?_
  show AW _ (.cond _ _ _) _ _ _
  refine cF' rfl ?_
  show AWl _ _ _ _ _
  refine aBinV (.bool false) rfl rfl rfl ?_
  refine aN rfl rfl (by constructor) ?_
  refine sE ?_
  show AW _ (.cond _ _ _) _ _ _
  refine cF' rfl ?_
  show AWl _ _ _ _ _
  refine aBinV (.bool false) rfl rfl rfl ?_
  refine aN rfl rfl (by constructor) ?_
  refine sE ?_
  show AW _ (.cond _ _ _) _ _ _
  refine cF' rfl ?_
  show AWl _ _ _ _ _
  refine aBinV (.bool false) rfl rfl rfl ?_
  refine aN rfl rfl (by constructor) ?_
  refine sE ?_
  show AW _ (.cond _ _ _) _ _ _
  refine cF' rfl ?_
  show AWl _ _ _ _ _
  refine aBinV (.bool false) rfl rfl rfl ?_
  refine aN rfl rfl (by constructor) ?_
  refine sE ?_
  show AW _ (.cond _ _ _) _ _ _
  refine cF' rfl ?_
  show AWl _ _ _ _ _
  refine aBinV (.bool true) rfl rfl rfl ?_
  refine aN rfl rfl (by constructor) ?_
  refine sE ?_
  show AW _ (.cond _ _ _) _ _ _
  refine cT rfl ?_
  show AW _ (.cond _ _ _) _ _ _
  refine cT rfl ?_
  show AWl _ _ _ _ _
  refine aLdA st 0 rfl rfl (by first | decide | simp [*]) (by repeat constructor) ?_
  refine aMovV x rfl ?_
  refine aC (onb11_16 (st.slc hx) hb hlen hq) fun v187 H5 ⟨hv, st1⟩ => ?_
  subst hv
  replace st := st.call st1 rfl
  clear st1
  refine aN rfl rfl (by constructor) ?_
  refine aN rfl rfl (by constructor) ?_
  refine aN rfl rfl (by constructor) ?_
  refine aSt st 1 rfl rfl rfl rfl (by first | rfl | simp [cellsOf, *]) (by first | decide | simp [*]) (by repeat constructor) fun H6 st => ?_
  refine aN rfl rfl (by constructor) ?_
  refine aN rfl rfl (by constructor) ?_
  refine sE ?_
  refine ⟨_, out3 (r_cellA st 1 rfl rfl (by first | decide | simp [*]) (by repeat constructor)) (r_tmp rfl (by constructor)) (r_tmp rfl (by constructor)) ⟨rfl, rfl, rfl⟩, ?_⟩
  exact ⟨rfl, st.drop⟩
theorem told12_10 {H : Hp} {xs : List Int} {x : Value} {sv : Int} (hx : Sl H 1 10 (xs.map (Value.int .u8)) x) (hb : ByteL xs) (hlen : xs.length = 10) (hq : True) (hop : kindL (xs.getD 0 0) = 12) :
    ACalls Try.prog 22 [x, .int .u8 sv] H (fun v H' => v = .tuple #[.agg #[.int .u8 (fillC 12 10 xs sv).kind, .bool (fillC 12 10 xs sv).long, .int .u64 (fillC 12 10 xs sv).lba, .int .u64 (fillC 12 10 xs sv).blocks, .int .i64 (fillC 12 10 xs sv).alloc, .bool (fillC 12 10 xs sv).fua, .int .u8 (fillC 12 10 xs sv).prot, .bool (fillC 12 10 xs sv).unmap, .bool (fillC 12 10 xs sv).evpd, .int .u8 (fillC 12 10 xs sv).page, .int .u8 (fillC 12 10 xs sv).control, .bool (fillC 12 10 xs sv).save, .int .u8 (fillC 12 10 xs sv).service, .int .u8 (fillC 12 10 xs sv).type, .bool (fillC 12 10 xs sv).bytes], .int .i64 (fillF 12 10 xs).1, .int .i64 (fillF 12 10 xs).2] ∧ Stt [] H H' []) := by
  refine acallsW Try.func22 f22_ok (Nat.le_of_ble_eq_true rfl) fun hw => ?_
  have st : Stt [] H H [] := Stt.start hw
  have q1 := hb.getD ((1 : Int)).toNat
  have q2 := hb.getD ((2 : Int)).toNat
  have q4 : IntKind.i64.wrap (xs.getD ((4 : Int)).toNat 0) = xs.getD 4 0 := wi _ (by have := hb.getD ((4 : Int)).toNat; omega)
  have q13 : IntKind.u64.wrap (xs.getD ((4 : Int)).toNat 0) = xs.getD 4 0 := by have := hb.getD ((4 : Int)).toNat; rw [w64]; show (xs.getD ((4 : Int)).toNat 0) % _ = xs.getD ((4 : Int)).toNat 0; omega
  unfold f22c
  show AWl _ _ _ _ _
  refine aNewP st rfl rfl (by repeat constructor) fun b4 H1 st => ?_
  refine aN rfl rfl (by constructor) ?_
  refine aN rfl rfl (by constructor) ?_
  refine sE ?_
  show AWl _ _ _ _ _
  refine aMovV x rfl ?_
  refine aIxBK (st.slc hx) rfl rfl (by first | decide | omega) fun b10 o10 g10 => ?_
  refine aLdG rfl (g10 _ (st.slc hx)) ?_
  refine aC (rkind_call) fun v12 H2 ⟨hv, st1⟩ => ?_
  subst hv
  replace st := st.call st1 rfl
  clear st1
  rw [show kindL (xs.getD ((0 : Int)).toNat 0) = 12 from hop]
  refine aConvV (n := 12) (n' := 12) rfl (by decide) ?_
  refine aBld rfl (by repeat constructor) ?_
  refine aNewP st rfl rfl (by repeat constructor) fun b7 H3 st => ?_
  refine aSt st 0 rfl rfl rfl rfl (by first | rfl | simp [cellsOf, *]) (by first | decide | simp [*]) (by repeat constructor) fun H4 st => ?_
  refine sE ?_
  show AWl _ _ _ _ _
  refine aMovV x rfl ?_
  refine aLen (st.slc hx) rfl ?_
  refine aN rfl rfl (by constructor) ?_
  refine sE ?_
  show AWl _ _ _ _ _
  refine aN rfl rfl (by constructor) ?_
  refine aLd st 0 rfl rfl rfl (by constructor) ?_
  refine aConvV (n := 12) (n' := 12) rfl (by decide) ?_
  refine sE ?_
  show AWl _ _ _ _ _
  refine aBinV (.bool false) rfl rfl rfl ?_
  refine aN rfl rfl (by constructor) ?_
  refine sE ?_
  show AW _ (.cond _ _ _) _ _ _
  refine cF' rfl ?_
  show AWl _ _ _ _ _
  refine aBinV (.bool false) rfl rfl rfl ?_
  refine aN rfl rfl (by constructor) ?_
  refine sE ?_
  show AW _ (.cond _ _ _) _ _ _
  refine cF' rfl ?_
  show AWl _ _ _ _ _
  refine aBinV (.bool false) rfl rfl rfl ?_
  refine aN rfl rfl (by constructor) ?_
  refine sE ?_
  show AW _ (.cond _ _ _) _ _ _
  refine cF' rfl ?_
  show AWl _ _ _ _ _
  refine aBinV (.bool false) rfl rfl rfl ?_
  refine aN rfl rfl (by constructor) ?_
  refine sE ?_
  show AW _ (.cond _ _ _) _ _ _
  refine cF' rfl ?_
  show AWl _ _ _ _ _
  refine aBinV (.bool false) rfl rfl rfl ?_
  refine aN rfl rfl (by constructor) ?_
  refine sE ?_
  show AW _ (.cond _ _ _) _ _ _
  refine cF' rfl ?_
  show AWl _ _ _ _ _
  refine aBinV (.bool false) rfl rfl rfl ?_
  refine aN rfl rfl (by constructor) ?_
  refine sE ?_
  show AW _ (.cond _ _ _) _ _ _
  refine cF' rfl ?_
  show AWl _ _ _ _ _
  refine aBinV (.bool false) rfl rfl rfl ?_
  refine aN rfl rfl (by constructor) ?_
  refine sE ?_
  show AW _ (.cond _ _ _) _ _ _
  refine cF' rfl ?_
  show AWl _ _ _ _ _
  refine aBinV (.bool false) rfl rfl rfl ?_
  refine aN rfl rfl (by constructor) ?_
  refine sE ?_
  show AW _ (.cond _ _ _) _ _ _
  refine cF' rfl ?_
  show AWl _ _ _ _ _
  refine aBinV (.bool false) rfl rfl rfl ?_
  refine aN rfl rfl (by constructor) ?_
  refine sE ?_
  show AW _ (.cond _ _ _) _ _ _
  refine cF' rfl ?_
  show AWl _ _ _ _ _
  refine aBinV (.bool false) rfl rfl rfl ?_
  refine aN rfl rfl (by constructor) ?_
  refine sE ?_
  show AW _ (.cond _ _ _) _ _ _
  refine cF' rfl ?_
  show AWl _ _ _ _ _
  refine aBinV (.bool false) rfl rfl rfl ?_
  refine aN rfl rfl (by constructor) ?_
  refine sE ?_
  show AW _ (.cond _ _ _) _ _ _
  refine cF' rfl ?_
  show AWl _ _ _ _ _
  refine aBinV (.bool false) rfl rfl rfl ?_
  refine aN rfl rfl (by constructor) ?_
  refine sE ?_
  show AW _ (.cond _ _ _) _ _ _
  refine cF' rfl ?_
  show AWl _ _ _ _ _
  refine aBinV (.bool false) rfl rfl rfl ?_
  refine aN rfl rfl (by constructor) ?_
  refine sE ?_
  show AW _ (.cond _ _ _) _ _ _
  refine cF' rfl ?_
  show AWl _ _ _ _ _
  refine aBinV (.bool false) rfl rfl rfl ?_
  refine aN rfl rfl (by constructor) ?_
  refine sE ?_
  show AW _ (.cond _ _ _) _ _ _
  refine cF' rfl ?_
  show AWl _ _ _ _ _
  refine aBinV (.bool false) rfl rfl rfl ?_
  refine aN rfl rfl (by constructor) ?_
  refine sE ?_
  show AW _ (.cond _ _ _) _ _ _
  refine cF' rfl ?_
  show AWl _ _ _ _ _
  refine aBinV (.bool false) rfl rfl rfl ?_
  refine aN rfl rfl (by constructor) ?_
  refine sE ?_
  show AW _ (.cond _ _ _) _ _ _
  refine cF' rfl ?_
  show AWl _ _ _ _ _
  refine aBinV (.bool true) rfl rfl rfl ?_
  refine aN rfl rfl (by constructor) ?_
  refine sE ?_
  show AW _ (.cond _ _ _) _ _ _
  refine cT rfl ?_
  show AWl _ _ _ _ _
  refine aLdA st 0 rfl rfl (by first | decide | simp [*]) (by repeat constructor) ?_
  refine aMovV x rfl ?_
  refine aC (onb12_10 (st.slc hx) hb hlen hq) fun v187 H5 ⟨hv, st1⟩ => ?_
  subst hv
  replace st := st.call st1 rfl
  clear st1
  refine aN rfl rfl (by constructor) ?_
  refine aN rfl rfl (by constructor) ?_
  refine aN rfl rfl (by constructor) ?_
  refine aSt st 1 rfl rfl rfl rfl (by first | rfl | simp [cellsOf, *]) (by first | decide | simp [*]) (by repeat constructor) fun H6 st => ?_
  refine aN rfl rfl (by constructor) ?_
  refine aN rfl rfl (by constructor) ?_
  refine sE ?_
  refine ⟨_, out3 (r_cellA st 1 rfl rfl (by first | decide | simp [*]) (by repeat constructor)) (r_tmp rfl (by constructor)) (r_tmp rfl (by constructor)) ⟨rfl, rfl, rfl⟩, ?_⟩
  exact ⟨rfl, st.drop⟩
theorem told12_16 {H : Hp} {xs : List Int} {x : Value} {sv : Int} (hx : Sl H 1 16 (xs.map (Value.int .u8)) x) (hb : ByteL xs) (hlen : xs.length = 16) (hq : True) (hop : kindL (xs.getD 0 0) = 12) :
    ACalls Try.prog 22 [x, .int .u8 sv] H (fun v H' => v = .tuple #[.agg #[.int .u8 (fillC 12 16 xs sv).kind, .bool (fillC 12 16 xs sv).long, .int .u64 (fillC 12 16 xs sv).lba, .int .u64 (fillC 12 16 xs sv).blocks, .int .i64 (fillC 12 16 xs sv).alloc, .bool (fillC 12 16 xs sv).fua, .int .u8 (fillC 12 16 xs sv).prot, .bool (fillC 12 16 xs sv).unmap, .bool (fillC 12 16 xs sv).evpd, .int .u8 (fillC 12 16 xs sv).page, .int .u8 (fillC 12 16 xs sv).control, .bool (fillC 12 16 xs sv).save, .int .u8 (fillC 12 16 xs sv).service, .int .u8 (fillC 12 16 xs sv).type, .bool (fillC 12 16 xs sv).bytes], .int .i64 (fillF 12 16 xs).1, .int .i64 (fillF 12 16 xs).2] ∧ Stt [] H H' []) := by
  refine acallsW Try.func22 f22_ok (Nat.le_of_ble_eq_true rfl) fun hw => ?_
  have st : Stt [] H H [] := Stt.start hw
  have q1 := hb.getD ((1 : Int)).toNat
  have q2 := hb.getD ((2 : Int)).toNat
  have q4 : IntKind.i64.wrap (xs.getD ((4 : Int)).toNat 0) = xs.getD 4 0 := wi _ (by have := hb.getD ((4 : Int)).toNat; omega)
  have q13 : IntKind.u64.wrap (xs.getD ((4 : Int)).toNat 0) = xs.getD 4 0 := by have := hb.getD ((4 : Int)).toNat; rw [w64]; show (xs.getD ((4 : Int)).toNat 0) % _ = xs.getD ((4 : Int)).toNat 0; omega
  unfold f22c
  show AWl _ _ _ _ _
  refine aNewP st rfl rfl (by repeat constructor) fun b4 H1 st => ?_
  refine aN rfl rfl (by constructor) ?_
  refine aN rfl rfl (by constructor) ?_
  refine sE ?_
  show AWl _ _ _ _ _
  refine aMovV x rfl ?_
  refine aIxBK (st.slc hx) rfl rfl (by first | decide | omega) fun b10 o10 g10 => ?_
  refine aLdG rfl (g10 _ (st.slc hx)) ?_
  refine aC (rkind_call) fun v12 H2 ⟨hv, st1⟩ => ?_
  subst hv
  replace st := st.call st1 rfl
  clear st1
  rw [show kindL (xs.getD ((0 : Int)).toNat 0) = 12 from hop]
  refine aConvV (n := 12) (n' := 12) rfl (by decide) ?_
  refine aBld rfl (by repeat constructor) ?_
  refine aNewP st rfl rfl (by repeat constructor) fun b7 H3 st => ?_
  refine aSt st 0 rfl rfl rfl rfl (by first | rfl | simp [cellsOf, *]) (by first | decide | simp [*]) (by repeat constructor) fun H4 st => ?_
  refine sE ?_
  show AWl _ _ _ _ _
  refine aMovV x rfl ?_
  refine aLen (st.slc hx) rfl ?_
  refine aN rfl rfl (by constructor) ?_
  refine sE ?_
  show AWl _ _ _ _ _
  refine aN rfl rfl (by constructor) ?_
  refine aLd st 0 rfl rfl rfl (by constructor) ?_
  refine aConvV (n := 12) (n' := 12) rfl (by decide) ?_
  refine sE ?_
  show AWl _ _ _ _ _
  refine aBinV (.bool false) rfl rfl rfl ?_
  refine aN rfl rfl (by constructor) ?_
  refine sE ?_
  show AW _ (.cond _ _ _) _ _ _
  refine cF' rfl ?_
  show AWl _ _ _ _ _
  refine aBinV (.bool false) rfl rfl rfl ?_
  refine aN rfl rfl (by constructor) ?_
  refine sE ?_
  show AW _ (.cond _ _ _) _ _ _
  refine cF' rfl ?_
  show AWl _ _ _ _ _
  refine aBinV (.bool false) rfl rfl rfl ?_
  refine aN rfl rfl (by constructor) ?_
  refine sE ?_
  show AW _ (.cond _ _ _) _ _ _
  refine cF' rfl ?_
  show AWl _ _ _ _ _
  refine aBinV (.bool false) rfl rfl rfl ?_
  refine aN rfl rfl (by constructor) ?_
  refine sE ?_
  show AW _ (.cond _ _ _) _ _ _
  refine cF' rfl ?_
  show AWl _ _ _ _ _
  refine aBinV (.bool false) rfl rfl rfl ?_
  refine aN rfl rfl (by constructor) ?_
  refine sE ?_
  show AW _ (.cond _ _ _) _ _ _
  refine cF' rfl ?_
  show AWl _ _ _ _ _
  refine aBinV (.bool false) rfl rfl rfl ?_
  refine aN rfl rfl (by constructor) ?_
  refine sE ?_
  show AW _ (.cond _ _ _) _ _ _
  refine cF' rfl ?_
  show AWl _ _ _ _ _
  refine aBinV (.bool false) rfl rfl rfl ?_
  refine aN rfl rfl (by constructor) ?_
  refine sE ?_
  show AW _ (.cond _ _ _) _ _ _
  refine cF' rfl ?_
  show AWl _ _ _ _ _
  refine aBinV (.bool false) rfl rfl rfl ?_
  refine aN rfl rfl (by constructor) ?_
  refine sE ?_
  show AW _ (.cond _ _ _) _ _ _
  refine cF' rfl ?_
  show AWl _ _ _ _ _
  refine aBinV (.bool false) rfl rfl rfl ?_
  refine aN rfl rfl (by constructor) ?_
  refine sE ?_
  show AW _ (.cond _ _ _) _ _ _
  refine cF' rfl ?_
  show AWl _ _ _ _ _
  refine aBinV (.bool false) rfl rfl rfl ?_
  refine aN rfl rfl (by constructor) ?_
  refine sE ?_
  show AW _ (.cond _ _ _) _ _ _
  refine cF' rfl ?_
  show AWl _ _ _ _ _
  refine aBinV (.bool false) rfl rfl rfl ?_
  refine aN rfl rfl (by constructor) ?_
  refine sE ?_
  show AW _ (.cond _ _ _) _ _ _
  refine cF' rfl ?_
  show AWl _ _ _ _ _
  refine aBinV (.bool false) rfl rfl rfl ?_
  refine aN rfl rfl (by constructor) ?_
  refine sE ?_
  show AW _ (.cond _ _ _) _ _ _
  refine cF' rfl ?_
  show AWl _ _ _ _ _
  refine aBinV (.bool false) rfl rfl rfl ?_
  refine aN rfl rfl (by constructor) ?_
  refine sE ?_
  show AW _ (.cond _ _ _) _ _ _
  refine cF' rfl ?_
  show AWl _ _ _ _ _
  refine aBinV (.bool false) rfl rfl rfl ?_
  refine aN rfl rfl (by constructor) ?_
  refine sE ?_
  show AW _ (.cond _ _ _) _ _ _
  refine cF' rfl ?_
  show AWl _ _ _ _ _
  refine aBinV (.bool false) rfl rfl rfl ?_
  refine aN rfl rfl (by constructor) ?_
  refine sE ?_
  show AW _ (.cond _ _ _) _ _ _
  refine cF' rfl ?_
  show AWl _ _ _ _ _
  refine aBinV (.bool false) rfl rfl rfl ?_
  refine aN rfl rfl (by constructor) ?_
  refine sE ?_
  show AW _ (.cond _ _ _) _ _ _
  refine cF' rfl ?_
  show AWl _ _ _ _ _
  refine aBinV (.bool true) rfl rfl rfl ?_
  refine aN rfl rfl (by constructor) ?_
  refine sE ?_
  show AW _ (.cond _ _ _) _ _ _
  refine cT rfl ?_
  show AWl _ _ _ _ _
  refine aLdA st 0 rfl rfl (by first | decide | simp [*]) (by repeat constructor) ?_
  refine aMovV x rfl ?_
  refine aC (onb12_16 (st.slc hx) hb hlen hq) fun v187 H5 ⟨hv, st1⟩ => ?_
  subst hv
  replace st := st.call st1 rfl
  clear st1
  refine aN rfl rfl (by constructor) ?_
  refine aN rfl rfl (by constructor) ?_
  refine aN rfl rfl (by constructor) ?_
  refine aSt st 1 rfl rfl rfl rfl (by first | rfl | simp [cellsOf, *]) (by first | decide | simp [*]) (by repeat constructor) fun H6 st => ?_
  refine aN rfl rfl (by constructor) ?_
  refine aN rfl rfl (by constructor) ?_
  refine sE ?_
  refine ⟨_, out3 (r_cellA st 1 rfl rfl (by first | decide | simp [*]) (by repeat constructor)) (r_tmp rfl (by constructor)) (r_tmp rfl (by constructor)) ⟨rfl, rfl, rfl⟩, ?_⟩
  exact ⟨rfl, st.drop⟩
theorem fill_call {H : Hp} {b : Nat} {xs : List Int} {x : Value} {sv op : Int} (ho : op ∈ codes) (hk : H.m b = some ⟨true, 27, [.int .u8 (kindL op), .bool false, .int .u64 0, .int .u64 0, .int .i64 0, .bool false, .int .u8 0, .bool false, .bool false, .int .u8 0, .int .u8 0, .bool false, .int .u8 0, .int .u8 0, .bool false]⟩) (hx : Sl H 1 (useL op).length (xs.map (Value.int .u8)) x) (hb : ByteL xs) (hlen : xs.length = (useL op).length) (ha : Apart b x) :
    ACalls Try.prog 19 [.pointer (some ⟨b, 0, none⟩), x, .int .u8 sv] H (fun v H' => v = .tuple #[.int .i64 (fillF (kindL op) (useL op).length xs).1, .int .i64 (fillF (kindL op) (useL op).length xs).2] ∧ Stt [b] H H' [⟨some b, true, ⟨true, 27, [.int .u8 (fillC (kindL op) (useL op).length xs sv).kind, .bool (fillC (kindL op) (useL op).length xs sv).long, .int .u64 (fillC (kindL op) (useL op).length xs sv).lba, .int .u64 (fillC (kindL op) (useL op).length xs sv).blocks, .int .i64 (fillC (kindL op) (useL op).length xs sv).alloc, .bool (fillC (kindL op) (useL op).length xs sv).fua, .int .u8 (fillC (kindL op) (useL op).length xs sv).prot, .bool (fillC (kindL op) (useL op).length xs sv).unmap, .bool (fillC (kindL op) (useL op).length xs sv).evpd, .int .u8 (fillC (kindL op) (useL op).length xs sv).page, .int .u8 (fillC (kindL op) (useL op).length xs sv).control, .bool (fillC (kindL op) (useL op).length xs sv).save, .int .u8 (fillC (kindL op) (useL op).length xs sv).service, .int .u8 (fillC (kindL op) (useL op).length xs sv).type, .bool (fillC (kindL op) (useL op).length xs sv).bytes]⟩⟩]) := by
  simp only [codes, List.mem_cons, List.not_mem_nil, or_false] at ho
  rcases ho with h | h | h | h | h | h | h | h | h | h | h | h | h | h | h | h | h | h | h | h | h | h | h | h | h | h | h
  · subst h; exact fill1_6 hk hx hb hlen ha trivial
  · subst h; exact fill2_6 hk hx hb hlen ha trivial
  · subst h; exact fill7_6 hk hx hb hlen ha trivial
  · subst h; exact fill8_6 hk hx hb hlen ha trivial
  · subst h; exact fill3_6 hk hx hb hlen ha trivial
  · subst h; exact fill4_6 hk hx hb hlen ha trivial
  · subst h; exact fill5_6 hk hx hb hlen ha trivial
  · subst h; exact fill6_10 hk hx hb hlen ha trivial
  · subst h; exact fill7_10 hk hx hb hlen ha trivial
  · subst h; exact fill8_10 hk hx hb hlen ha trivial
  · subst h; exact fill9_10 hk hx hb hlen ha trivial
  · subst h; exact fill10_10 hk hx hb hlen ha trivial
  · subst h; exact fill11_10 hk hx hb hlen ha trivial
  · subst h; exact fill12_10 hk hx hb hlen ha trivial
  · subst h; exact fill13_10 hk hx hb hlen ha trivial
  · subst h; exact fill4_10 hk hx hb hlen ha trivial
  · subst h; exact fill5_10 hk hx hb hlen ha trivial
  · subst h; exact fill15_10 hk hx hb hlen ha trivial
  · subst h; exact fill16_10 hk hx hb hlen ha trivial
  · subst h; exact fill18_16 hk hx hb hlen ha trivial
  · subst h; exact fill7_16 hk hx hb hlen ha trivial
  · subst h; exact fill8_16 hk hx hb hlen ha trivial
  · subst h; exact fill14_16 hk hx hb hlen ha trivial
  · subst h; exact fill11_16 hk hx hb hlen ha trivial
  · subst h; exact fill12_16 hk hx hb hlen ha trivial
  · subst h; exact fill6_16 hk hx hb hlen ha trivial
  · subst h; exact fill17_12 hk hx hb hlen ha trivial
theorem told_call {H : Hp} {xs : List Int} {x : Value} {sv op : Int} (ho : op ∈ codes) (hx : Sl H 1 (useL op).length (xs.map (Value.int .u8)) x) (hb : ByteL xs) (hlen : xs.length = (useL op).length) (hop : xs.getD 0 0 = op) (hno : ∀ i, i < xs.length → ∀ k, k < 8 → oddB xs (useL op) i k = false) :
    ACalls Try.prog 22 [x, .int .u8 sv] H (fun v H' => v = .tuple #[.agg #[.int .u8 (fillC (kindL op) (useL op).length xs sv).kind, .bool (fillC (kindL op) (useL op).length xs sv).long, .int .u64 (fillC (kindL op) (useL op).length xs sv).lba, .int .u64 (fillC (kindL op) (useL op).length xs sv).blocks, .int .i64 (fillC (kindL op) (useL op).length xs sv).alloc, .bool (fillC (kindL op) (useL op).length xs sv).fua, .int .u8 (fillC (kindL op) (useL op).length xs sv).prot, .bool (fillC (kindL op) (useL op).length xs sv).unmap, .bool (fillC (kindL op) (useL op).length xs sv).evpd, .int .u8 (fillC (kindL op) (useL op).length xs sv).page, .int .u8 (fillC (kindL op) (useL op).length xs sv).control, .bool (fillC (kindL op) (useL op).length xs sv).save, .int .u8 (fillC (kindL op) (useL op).length xs sv).service, .int .u8 (fillC (kindL op) (useL op).length xs sv).type, .bool (fillC (kindL op) (useL op).length xs sv).bytes], .int .i64 (fillF (kindL op) (useL op).length xs).1, .int .i64 (fillF (kindL op) (useL op).length xs).2] ∧ Stt [] H H' []) := by
  simp only [codes, List.mem_cons, List.not_mem_nil, or_false] at ho
  rcases ho with h | h | h | h | h | h | h | h | h | h | h | h | h | h | h | h | h | h | h | h | h | h | h | h | h | h | h
  · subst h; exact told1_6 hx hb hlen trivial (by rw [hop]; rfl)
  · subst h; exact told2_6 hx hb hlen (mask1 (hb.getD 1) (oddMask hno (i := 1) (by rw [hlen]; decide) 1 rfl)) (by rw [hop]; rfl)
  · subst h; exact told7_6 hx hb hlen (mask31 (hb.getD 1) (oddMask hno (i := 1) (by rw [hlen]; decide) 31 rfl)) (by rw [hop]; rfl)
  · subst h; exact told8_6 hx hb hlen (mask31 (hb.getD 1) (oddMask hno (i := 1) (by rw [hlen]; decide) 31 rfl)) (by rw [hop]; rfl)
  · subst h; exact told3_6 hx hb hlen (mask1 (hb.getD 1) (oddMask hno (i := 1) (by rw [hlen]; decide) 1 rfl)) (by rw [hop]; rfl)
  · subst h; exact told4_6 hx hb hlen (mask17 (hb.getD 1) (oddMask hno (i := 1) (by rw [hlen]; decide) 17 rfl)) (by rw [hop]; rfl)
  · subst h; exact told5_6 hx hb hlen trivial (by rw [hop]; rfl)
  · subst h; exact told6_10 hx hb hlen trivial (by rw [hop]; rfl)
  · subst h; exact told7_10 hx hb hlen trivial (by rw [hop]; rfl)
  · subst h; exact told8_10 hx hb hlen trivial (by rw [hop]; rfl)
  · subst h; exact told9_10 hx hb hlen trivial (by rw [hop]; rfl)
  · subst h; exact told10_10 hx hb hlen trivial (by rw [hop]; rfl)
  · subst h; exact told11_10 hx hb hlen trivial (by rw [hop]; rfl)
  · subst h; exact told12_10 hx hb hlen trivial (by rw [hop]; rfl)
  · subst h; exact told13_10 hx hb hlen trivial (by rw [hop]; rfl)
  · subst h; exact told4_10 hx hb hlen (mask17 (hb.getD 1) (oddMask hno (i := 1) (by rw [hlen]; decide) 17 rfl)) (by rw [hop]; rfl)
  · subst h; exact told5_10 hx hb hlen trivial (by rw [hop]; rfl)
  · subst h; exact told15_10 hx hb hlen trivial (by rw [hop]; rfl)
  · subst h; exact told16_10 hx hb hlen (mask15 (hb.getD 2) (oddMask hno (i := 2) (by rw [hlen]; decide) 15 rfl)) (by rw [hop]; rfl)
  · subst h; exact told18_16 hx hb hlen trivial (by rw [hop]; rfl)
  · subst h; exact told7_16 hx hb hlen trivial (by rw [hop]; rfl)
  · subst h; exact told8_16 hx hb hlen trivial (by rw [hop]; rfl)
  · subst h; exact told14_16 hx hb hlen trivial (by rw [hop]; rfl)
  · subst h; exact told11_16 hx hb hlen trivial (by rw [hop]; rfl)
  · subst h; exact told12_16 hx hb hlen trivial (by rw [hop]; rfl)
  · subst h; exact told6_16 hx hb hlen trivial (by rw [hop]; rfl)
  · subst h; exact told17_12 hx hb hlen trivial (by rw [hop]; rfl)

end Go.Proofs.Ytlbmfcbcmfcjbaa.Abs
