/- Commands: their blocks. -/
import Derived.Test.YtjmjkdelkaflmaaGreatDoorXI
import Derived.Test.YtjmjkdelkaflmaaGreatDoorXN
set_option linter.unusedVariables false
set_option linter.unusedSimpArgs false
set_option maxRecDepth 100000
namespace Go.Proofs.YtjmjkdelkaflmaaGreatDoor.Abs
open Go Go.RowKit
theorem blocks7_16 {H : Hp} {b : Nat} {xs : List Int} {x : Value} (hk : H.m b = some ⟨true, 108, [.int .u8 7, .bool false, .int .u64 0, .int .u64 0, .int .i64 0, .bool false, .int .u8 0, .bool false, .bool false, .int .u8 0, .int .u8 0, .bool false, .int .u8 0, .int .u8 0, .bool false]⟩) (hx : Sl H 1 16 (xs.map (Value.int .u8)) x) (hb : ByteL xs) (hlen : xs.length = 16) (ha : Apart b x) :
  ACalls Tryz.prog 78 [zP b, x] H (fun v H' => v = .tuple #[.int .i64 (blocksF 7 16 xs).1, .int .i64 (blocksF 7 16 xs).2] ∧ Stt [b] H H' [⟨some b, true, ⟨true, 108, (blocksC 7 16 xs).cells⟩⟩]) := by
 refine acallsW Tryz.func78 f78_ok (Nat.le_of_ble_eq_true rfl) fun hw => ?_
 have st : Stt [b] H H [] := Stt.start hw
 replace st := st.mine hk rfl (by simp) (by simp)
 have q1 := hb.getD ((1 : Int)).toNat
 have q2 := hb.getD ((2 : Int)).toNat
 have q4 : IntKind.i64.wrap (xs.getD ((4 : Int)).toNat 0) = xs.getD 4 0 := wi _ (by have := hb.getD ((4 : Int)).toNat; omega)
 have q13 : IntKind.u64.wrap (xs.getD ((13 : Int)).toNat 0) = xs.getD 13 0 := by have := hb.getD ((13 : Int)).toNat; rw [w64]; show (xs.getD ((13 : Int)).toNat 0) % _ = xs.getD ((13 : Int)).toNat 0; omega
 unfold f78c
 refine zw ?_
 iterate 2 refine zm ?_
 refine zw ?_
 refine zm ?_
 refine aMovV x rfl ?_
 refine aC (span16_call (st.get (j := 0) rfl) (st.slcX hx ha) hb hlen ha) fun v9 H1 ⟨hv, st1⟩ => ?_
 subst hv
 replace st := st.callX 0 rfl st1 rfl
 clear st1
 refine zm ?_
 refine zw ?_
 refine aMovV x rfl ?_
 refine aLen (st.slcX hx ha) rfl ?_
 refine zb (.bool true) ?_
 show AW _ (.cond _ _ _) _ _ _
 refine cT rfl ?_
 refine zw ?_
 refine zm ?_
 refine aMovV x rfl ?_
 refine aIxB (st.slcX hx ha) rfl rfl (by first | decide | omega) fun b15 o15 g15 => ?_
 refine aLdG rfl g15 ?_
 iterate 3 refine zm ?_
 refine zx st 0 fun H2 st => ?_
 refine zw ?_
 iterate 3 refine zm ?_
 refine zl st 0 ?_
 refine zw ?_
 refine zb (.bool true) ?_
 refine zm ?_
 show AW _ (.cond _ _ _) _ _ _
 refine cT rfl ?_
 show AW _ (.cond _ _ _) _ _ _
 refine cT rfl ?_
 refine zw ?_
 refine zm ?_
 refine aMovV x rfl ?_
 refine aIxB (st.slcX hx ha) rfl rfl (by first | decide | omega) fun b29 o29 g29 => ?_
 refine aLdG rfl g29 ?_
 iterate 4 refine zm ?_
 refine zx st 0 fun H3 st => ?_
 refine zw ?_
 iterate 3 refine zm ?_
 refine zl st 0 ?_
 refine zb (.bool true) ?_
 refine zm ?_
 refine zg ?_
 refine zm ?_
 refine zg ?_
 refine zm ?_
 refine zg ?_
 refine zm ?_
 refine zg ?_
 refine zl st 0 ?_
 refine zg ?_
 refine zb (.bool true) ?_
 iterate 2 refine zm ?_
 refine zg ?_
 refine zm ?_
 refine zg ?_
 refine zm ?_
 refine zg ?_
 refine zm ?_
 refine zg ?_
 refine zl st 0 ?_
 refine zg ?_
 iterate 2 refine zm ?_
 show AW _ (.cond _ _ _) _ _ _
 refine cC' rfl (fun h4 => ?_) (fun h4 => ?_)
 ·show AWl _ _ _ _ _
  iterate 3 refine zm ?_
  refine sE ?_
  refine ⟨_, out2 zr zr ⟨rfl, rfl⟩, ?_⟩
  have h4q : ((spanM 16 xs).2.1 > 256) := of_decide_eq_true h4
  have st2 := st.pick 0 rfl
  try simp only [b_and1 q1, b_and8 q1, b_and2 q1, b_and16 q1, b_shr5 q1, b_shr6 q2, b_and63 q2, b_and15 q2, q4, q13] at st2
  have hF : blocksF 7 16 xs = ((spanM 16 xs).2.2, 7) := if_pos ⟨by decide, h4q⟩
  exact ⟨by rw [hF], st2⟩
 ·show AWl _ _ _ _ _
  iterate 2 refine zm ?_
  refine sE ?_
  refine ⟨_, out2 zr zr ⟨rfl, rfl⟩, ?_⟩
  have h4q : ¬ ((spanM 16 xs).2.1 > 256) := of_decide_eq_false h4
  have st2 := st.pick 0 rfl
  try simp only [b_and1 q1, b_and8 q1, b_and2 q1, b_and16 q1, b_shr5 q1, b_shr6 q2, b_and63 q2, b_and15 q2, q4, q13] at st2
  have hF : blocksF 7 16 xs = (-1, 0) := if_neg (fun hc => h4q hc.2)
  exact ⟨by rw [hF], st2⟩
theorem blocks8_16 {H : Hp} {b : Nat} {xs : List Int} {x : Value} (hk : H.m b = some ⟨true, 108, [.int .u8 8, .bool false, .int .u64 0, .int .u64 0, .int .i64 0, .bool false, .int .u8 0, .bool false, .bool false, .int .u8 0, .int .u8 0, .bool false, .int .u8 0, .int .u8 0, .bool false]⟩) (hx : Sl H 1 16 (xs.map (Value.int .u8)) x) (hb : ByteL xs) (hlen : xs.length = 16) (ha : Apart b x) :
  ACalls Tryz.prog 78 [zP b, x] H (fun v H' => v = .tuple #[.int .i64 (blocksF 8 16 xs).1, .int .i64 (blocksF 8 16 xs).2] ∧ Stt [b] H H' [⟨some b, true, ⟨true, 108, (blocksC 8 16 xs).cells⟩⟩]) := by
 refine acallsW Tryz.func78 f78_ok (Nat.le_of_ble_eq_true rfl) fun hw => ?_
 have st : Stt [b] H H [] := Stt.start hw
 replace st := st.mine hk rfl (by simp) (by simp)
 have q1 := hb.getD ((1 : Int)).toNat
 have q2 := hb.getD ((2 : Int)).toNat
 have q4 : IntKind.i64.wrap (xs.getD ((4 : Int)).toNat 0) = xs.getD 4 0 := wi _ (by have := hb.getD ((4 : Int)).toNat; omega)
 have q13 : IntKind.u64.wrap (xs.getD ((13 : Int)).toNat 0) = xs.getD 13 0 := by have := hb.getD ((13 : Int)).toNat; rw [w64]; show (xs.getD ((13 : Int)).toNat 0) % _ = xs.getD ((13 : Int)).toNat 0; omega
 unfold f78c
 refine zw ?_
 iterate 2 refine zm ?_
 refine zw ?_
 refine zm ?_
 refine aMovV x rfl ?_
 refine aC (span16_call (st.get (j := 0) rfl) (st.slcX hx ha) hb hlen ha) fun v9 H1 ⟨hv, st1⟩ => ?_
 subst hv
 replace st := st.callX 0 rfl st1 rfl
 clear st1
 refine zm ?_
 refine zw ?_
 refine aMovV x rfl ?_
 refine aLen (st.slcX hx ha) rfl ?_
 refine zb (.bool true) ?_
 show AW _ (.cond _ _ _) _ _ _
 refine cT rfl ?_
 refine zw ?_
 refine zm ?_
 refine aMovV x rfl ?_
 refine aIxB (st.slcX hx ha) rfl rfl (by first | decide | omega) fun b15 o15 g15 => ?_
 refine aLdG rfl g15 ?_
 iterate 3 refine zm ?_
 refine zx st 0 fun H2 st => ?_
 refine zw ?_
 iterate 3 refine zm ?_
 refine zl st 0 ?_
 refine zw ?_
 refine zb (.bool false) ?_
 refine zm ?_
 refine zf ?_
 refine zw ?_
 refine zb (.bool true) ?_
 refine zm ?_
 show AW _ (.cond _ _ _) _ _ _
 refine cT rfl ?_
 refine zw ?_
 refine zm ?_
 refine aMovV x rfl ?_
 refine aIxB (st.slcX hx ha) rfl rfl (by first | decide | omega) fun b29 o29 g29 => ?_
 refine aLdG rfl g29 ?_
 iterate 4 refine zm ?_
 refine zx st 0 fun H3 st => ?_
 refine zw ?_
 iterate 3 refine zm ?_
 refine zl st 0 ?_
 refine zb (.bool true) ?_
 refine zm ?_
 refine zg ?_
 refine zm ?_
 refine zg ?_
 refine zm ?_
 refine zg ?_
 refine zm ?_
 refine zg ?_
 refine zl st 0 ?_
 refine zg ?_
 refine zb (.bool true) ?_
 iterate 2 refine zm ?_
 refine zg ?_
 refine zm ?_
 refine zg ?_
 refine zm ?_
 refine zg ?_
 refine zm ?_
 refine zg ?_
 refine zl st 0 ?_
 refine zg ?_
 iterate 2 refine zm ?_
 show AW _ (.cond _ _ _) _ _ _
 refine cC' rfl (fun h4 => ?_) (fun h4 => ?_)
 ·show AWl _ _ _ _ _
  iterate 3 refine zm ?_
  refine sE ?_
  refine ⟨_, out2 zr zr ⟨rfl, rfl⟩, ?_⟩
  have h4q : ((spanM 16 xs).2.1 > 256) := of_decide_eq_true h4
  have st2 := st.pick 0 rfl
  try simp only [b_and1 q1, b_and8 q1, b_and2 q1, b_and16 q1, b_shr5 q1, b_shr6 q2, b_and63 q2, b_and15 q2, q4, q13] at st2
  have hF : blocksF 8 16 xs = ((spanM 16 xs).2.2, 7) := if_pos ⟨by decide, h4q⟩
  exact ⟨by rw [hF], st2⟩
 ·show AWl _ _ _ _ _
  iterate 2 refine zm ?_
  refine sE ?_
  refine ⟨_, out2 zr zr ⟨rfl, rfl⟩, ?_⟩
  have h4q : ¬ ((spanM 16 xs).2.1 > 256) := of_decide_eq_false h4
  have st2 := st.pick 0 rfl
  try simp only [b_and1 q1, b_and8 q1, b_and2 q1, b_and16 q1, b_shr5 q1, b_shr6 q2, b_and63 q2, b_and15 q2, q4, q13] at st2
  have hF : blocksF 8 16 xs = (-1, 0) := if_neg (fun hc => h4q hc.2)
  exact ⟨by rw [hF], st2⟩
theorem fill1_6 {H : Hp} {b : Nat} {xs : List Int} {x : Value} {sv : Int} (hk : H.m b = some ⟨true, 108, [.int .u8 1, .bool false, .int .u64 0, .int .u64 0, .int .i64 0, .bool false, .int .u8 0, .bool false, .bool false, .int .u8 0, .int .u8 0, .bool false, .int .u8 0, .int .u8 0, .bool false]⟩) (hx : Sl H 1 6 (xs.map (Value.int .u8)) x) (hb : ByteL xs) (hlen : xs.length = 6) (ha : Apart b x) (hw5 : True) :
  ACalls Tryz.prog 50 [zP b, x, .int .u8 sv] H (fun v H' => v = .tuple #[.int .i64 (fillF 1 6 xs).1, .int .i64 (fillF 1 6 xs).2] ∧ Stt [b] H H' [⟨some b, true, ⟨true, 108, (fillC 1 6 xs sv).cells⟩⟩]) := by
 refine acallsW Tryz.func50 f50_ok (Nat.le_of_ble_eq_true rfl) fun hw => ?_
 have st : Stt [b] H H [] := Stt.start hw
 replace st := st.mine hk rfl (by simp) (by simp)
 have q1 := hb.getD ((1 : Int)).toNat
 have q2 := hb.getD ((2 : Int)).toNat
 have q4 : IntKind.i64.wrap (xs.getD ((4 : Int)).toNat 0) = xs.getD 4 0 := wi _ (by have := hb.getD ((4 : Int)).toNat; omega)
 have q13 : IntKind.u64.wrap (xs.getD ((13 : Int)).toNat 0) = xs.getD 13 0 := by have := hb.getD ((13 : Int)).toNat; rw [w64]; show (xs.getD ((13 : Int)).toNat 0) % _ = xs.getD ((13 : Int)).toNat 0; omega
 unfold f50c
 refine zw ?_
 iterate 2 refine zm ?_
 refine zw ?_
 refine aMovV x rfl ?_
 refine aLen (st.slcX hx ha) rfl ?_
 refine zm ?_
 refine zw ?_
 iterate 3 refine zm ?_
 refine zl st 0 ?_
 refine zw ?_
 refine zb (.bool false) ?_
 refine zm ?_
 refine zf ?_
 refine zw ?_
 refine zb (.bool false) ?_
 refine zm ?_
 refine zf ?_
 refine zw ?_
 refine zb (.bool false) ?_
 refine zm ?_
 refine zf ?_
 refine zw ?_
 refine zb (.bool false) ?_
 refine zm ?_
 refine zf ?_
 refine zw ?_
 refine zb (.bool false) ?_
 refine zm ?_
 refine zf ?_
 refine zw ?_
 refine zb (.bool false) ?_
 refine zm ?_
 refine zf ?_
 refine zw ?_
 refine zb (.bool false) ?_
 refine zm ?_
 refine zf ?_
 refine zw ?_
 refine zb (.bool false) ?_
 refine zm ?_
 refine zf ?_
 refine zw ?_
 refine zb (.bool false) ?_
 refine zm ?_
 refine zf ?_
 refine zw ?_
 refine zb (.bool false) ?_
 refine zm ?_
 refine zf ?_
 refine zw ?_
 refine zb (.bool false) ?_
 refine zm ?_
 refine zf ?_
 refine zw ?_
 refine zb (.bool false) ?_
 refine zm ?_
 refine zf ?_
 refine zw ?_
 refine zb (.bool false) ?_
 refine zm ?_
 refine zf ?_
 refine zw ?_
 refine zb (.bool false) ?_
 refine zm ?_
 refine zf ?_
 refine zw ?_
 refine zb (.bool false) ?_
 refine zm ?_
 refine zf ?_
 refine zw ?_
 refine zb (.bool false) ?_
 refine zm ?_
 refine zf ?_
 refine zw ?_
 refine zb (.bool false) ?_
 refine zm ?_
 refine zf ?_
 refine zw ?_
 iterate 2 refine zm ?_
 refine sE ?_
 refine ⟨_, out2 zr zr ⟨rfl, rfl⟩, ?_⟩
 have st2 := st.pick 0 rfl
 try simp only [b_and1 q1, b_and8 q1, b_and2 q1, b_and16 q1, b_shr5 q1, b_shr6 q2, b_and63 q2, b_and15 q2, q4, q13] at st2
 have hF : fillF 1 6 xs = (-1, 0) := rfl
 exact ⟨by rw [hF], st2⟩
theorem fill18_16 {H : Hp} {b : Nat} {xs : List Int} {x : Value} {sv : Int} (hk : H.m b = some ⟨true, 108, [.int .u8 18, .bool false, .int .u64 0, .int .u64 0, .int .i64 0, .bool false, .int .u8 0, .bool false, .bool false, .int .u8 0, .int .u8 0, .bool false, .int .u8 0, .int .u8 0, .bool false]⟩) (hx : Sl H 1 16 (xs.map (Value.int .u8)) x) (hb : ByteL xs) (hlen : xs.length = 16) (ha : Apart b x) (hw5 : True) :
  ACalls Tryz.prog 50 [zP b, x, .int .u8 sv] H (fun v H' => v = .tuple #[.int .i64 (fillF 18 16 xs).1, .int .i64 (fillF 18 16 xs).2] ∧ Stt [b] H H' [⟨some b, true, ⟨true, 108, (fillC 18 16 xs sv).cells⟩⟩]) := by
 refine acallsW Tryz.func50 f50_ok (Nat.le_of_ble_eq_true rfl) fun hw => ?_
 have st : Stt [b] H H [] := Stt.start hw
 replace st := st.mine hk rfl (by simp) (by simp)
 have q1 := hb.getD ((1 : Int)).toNat
 have q2 := hb.getD ((2 : Int)).toNat
 have q4 : IntKind.i64.wrap (xs.getD ((4 : Int)).toNat 0) = xs.getD 4 0 := wi _ (by have := hb.getD ((4 : Int)).toNat; omega)
 have q13 : IntKind.u64.wrap (xs.getD ((13 : Int)).toNat 0) = xs.getD 13 0 := by have := hb.getD ((13 : Int)).toNat; rw [w64]; show (xs.getD ((13 : Int)).toNat 0) % _ = xs.getD ((13 : Int)).toNat 0; omega
 unfold f50c
 refine zw ?_
 iterate 2 refine zm ?_
 refine zw ?_
 refine aMovV x rfl ?_
 refine aLen (st.slcX hx ha) rfl ?_
 refine zm ?_
 refine zw ?_
 iterate 3 refine zm ?_
 refine zl st 0 ?_
 refine zw ?_
 refine zb (.bool false) ?_
 refine zm ?_
 refine zf ?_
 refine zw ?_
 refine zb (.bool false) ?_
 refine zm ?_
 refine zf ?_
 refine zw ?_
 refine zb (.bool false) ?_
 refine zm ?_
 refine zf ?_
 refine zw ?_
 refine zb (.bool false) ?_
 refine zm ?_
 refine zf ?_
 refine zw ?_
 refine zb (.bool false) ?_
 refine zm ?_
 refine zf ?_
 refine zw ?_
 refine zb (.bool false) ?_
 refine zm ?_
 refine zf ?_
 refine zw ?_
 refine zb (.bool false) ?_
 refine zm ?_
 refine zf ?_
 refine zw ?_
 refine zb (.bool false) ?_
 refine zm ?_
 refine zf ?_
 refine zw ?_
 refine zb (.bool false) ?_
 refine zm ?_
 refine zf ?_
 refine zw ?_
 refine zb (.bool false) ?_
 refine zm ?_
 refine zf ?_
 refine zw ?_
 refine zb (.bool false) ?_
 refine zm ?_
 refine zf ?_
 refine zw ?_
 refine zb (.bool false) ?_
 refine zm ?_
 refine zf ?_
 refine zw ?_
 refine zb (.bool false) ?_
 refine zm ?_
 refine zf ?_
 refine zw ?_
 refine zb (.bool false) ?_
 refine zm ?_
 refine zf ?_
 refine zw ?_
 refine zb (.bool false) ?_
 refine zm ?_
 refine zf ?_
 refine zw ?_
 refine zb (.bool false) ?_
 refine zm ?_
 refine zf ?_
 refine zw ?_
 refine zb (.bool true) ?_
 refine zm ?_
 show AW _ (.cond _ _ _) _ _ _
 refine cT rfl ?_
 refine zw ?_
 refine zm ?_
 refine aMovV x rfl ?_
 refine aC (number_call (by rw [hlen]; exact (st.slcX hx ha)) hb (by omega) (by decide)) fun v243 H1 ⟨hv, st1⟩ => ?_
 subst hv
 replace st := st.call st1 rfl
 clear st1
 iterate 3 refine zm ?_
 refine zx st 0 fun H2 st => ?_
 refine zw ?_
 iterate 2 refine zm ?_
 refine sE ?_
 refine ⟨_, out2 zr zr ⟨rfl, rfl⟩, ?_⟩
 have st2 := st.pick 0 rfl
 try simp only [b_and1 q1, b_and8 q1, b_and2 q1, b_and16 q1, b_shr5 q1, b_shr6 q2, b_and63 q2, b_and15 q2, q4, q13] at st2
 have hF : fillF 18 16 xs = (-1, 0) := rfl
 exact ⟨by rw [hF], st2⟩
theorem fill7_16 {H : Hp} {b : Nat} {xs : List Int} {x : Value} {sv : Int} (hk : H.m b = some ⟨true, 108, [.int .u8 7, .bool false, .int .u64 0, .int .u64 0, .int .i64 0, .bool false, .int .u8 0, .bool false, .bool false, .int .u8 0, .int .u8 0, .bool false, .int .u8 0, .int .u8 0, .bool false]⟩) (hx : Sl H 1 16 (xs.map (Value.int .u8)) x) (hb : ByteL xs) (hlen : xs.length = 16) (ha : Apart b x) (hw5 : True) :
  ACalls Tryz.prog 50 [zP b, x, .int .u8 sv] H (fun v H' => v = .tuple #[.int .i64 (fillF 7 16 xs).1, .int .i64 (fillF 7 16 xs).2] ∧ Stt [b] H H' [⟨some b, true, ⟨true, 108, (fillC 7 16 xs sv).cells⟩⟩]) := by
 refine acallsW Tryz.func50 f50_ok (Nat.le_of_ble_eq_true rfl) fun hw => ?_
 have st : Stt [b] H H [] := Stt.start hw
 replace st := st.mine hk rfl (by simp) (by simp)
 have q1 := hb.getD ((1 : Int)).toNat
 have q2 := hb.getD ((2 : Int)).toNat
 have q4 : IntKind.i64.wrap (xs.getD ((4 : Int)).toNat 0) = xs.getD 4 0 := wi _ (by have := hb.getD ((4 : Int)).toNat; omega)
 have q13 : IntKind.u64.wrap (xs.getD ((13 : Int)).toNat 0) = xs.getD 13 0 := by have := hb.getD ((13 : Int)).toNat; rw [w64]; show (xs.getD ((13 : Int)).toNat 0) % _ = xs.getD ((13 : Int)).toNat 0; omega
 unfold f50c
 refine zw ?_
 iterate 2 refine zm ?_
 refine zw ?_
 refine aMovV x rfl ?_
 refine aLen (st.slcX hx ha) rfl ?_
 refine zm ?_
 refine zw ?_
 iterate 3 refine zm ?_
 refine zl st 0 ?_
 refine zw ?_
 refine zb (.bool false) ?_
 refine zm ?_
 refine zf ?_
 refine zw ?_
 refine zb (.bool false) ?_
 refine zm ?_
 refine zf ?_
 refine zw ?_
 refine zb (.bool false) ?_
 refine zm ?_
 refine zf ?_
 refine zw ?_
 refine zb (.bool false) ?_
 refine zm ?_
 refine zf ?_
 refine zw ?_
 refine zb (.bool false) ?_
 refine zm ?_
 refine zf ?_
 refine zw ?_
 refine zb (.bool true) ?_
 refine zm ?_
 show AW _ (.cond _ _ _) _ _ _
 refine cT rfl ?_
 show AW _ (.cond _ _ _) _ _ _
 refine cT rfl ?_
 refine zw ?_
 refine zm ?_
 refine aMovV x rfl ?_
 refine aC (blocks7_16 (st.get (j := 0) rfl) (st.slcX hx ha) hb hlen ha) fun v149 H1 ⟨hv, st1⟩ => ?_
 subst hv
 replace st := st.callX 0 rfl st1 rfl
 clear st1
 iterate 4 refine zm ?_
 refine sE ?_
 refine ⟨_, out2 zr zr ⟨rfl, rfl⟩, ?_⟩
 exact ⟨rfl, st.pick 0 rfl⟩
theorem fill8_16 {H : Hp} {b : Nat} {xs : List Int} {x : Value} {sv : Int} (hk : H.m b = some ⟨true, 108, [.int .u8 8, .bool false, .int .u64 0, .int .u64 0, .int .i64 0, .bool false, .int .u8 0, .bool false, .bool false, .int .u8 0, .int .u8 0, .bool false, .int .u8 0, .int .u8 0, .bool false]⟩) (hx : Sl H 1 16 (xs.map (Value.int .u8)) x) (hb : ByteL xs) (hlen : xs.length = 16) (ha : Apart b x) (hw5 : True) :
  ACalls Tryz.prog 50 [zP b, x, .int .u8 sv] H (fun v H' => v = .tuple #[.int .i64 (fillF 8 16 xs).1, .int .i64 (fillF 8 16 xs).2] ∧ Stt [b] H H' [⟨some b, true, ⟨true, 108, (fillC 8 16 xs sv).cells⟩⟩]) := by
 refine acallsW Tryz.func50 f50_ok (Nat.le_of_ble_eq_true rfl) fun hw => ?_
 have st : Stt [b] H H [] := Stt.start hw
 replace st := st.mine hk rfl (by simp) (by simp)
 have q1 := hb.getD ((1 : Int)).toNat
 have q2 := hb.getD ((2 : Int)).toNat
 have q4 : IntKind.i64.wrap (xs.getD ((4 : Int)).toNat 0) = xs.getD 4 0 := wi _ (by have := hb.getD ((4 : Int)).toNat; omega)
 have q13 : IntKind.u64.wrap (xs.getD ((13 : Int)).toNat 0) = xs.getD 13 0 := by have := hb.getD ((13 : Int)).toNat; rw [w64]; show (xs.getD ((13 : Int)).toNat 0) % _ = xs.getD ((13 : Int)).toNat 0; omega
 unfold f50c
 refine zw ?_
 iterate 2 refine zm ?_
 refine zw ?_
 refine aMovV x rfl ?_
 refine aLen (st.slcX hx ha) rfl ?_
 refine zm ?_
 refine zw ?_
 iterate 3 refine zm ?_
 refine zl st 0 ?_
 refine zw ?_
 refine zb (.bool false) ?_
 refine zm ?_
 refine zf ?_
 refine zw ?_
 refine zb (.bool false) ?_
 refine zm ?_
 refine zf ?_
 refine zw ?_
 refine zb (.bool false) ?_
 refine zm ?_
 refine zf ?_
 refine zw ?_
 refine zb (.bool false) ?_
 refine zm ?_
 refine zf ?_
 refine zw ?_
 refine zb (.bool false) ?_
 refine zm ?_
 refine zf ?_
 refine zw ?_
 refine zb (.bool false) ?_
 refine zm ?_
 refine zf ?_
 refine zw ?_
 refine zb (.bool true) ?_
 refine zm ?_
 show AW _ (.cond _ _ _) _ _ _
 refine cT rfl ?_
 show AW _ (.cond _ _ _) _ _ _
 refine cT rfl ?_
 refine zw ?_
 refine zm ?_
 refine aMovV x rfl ?_
 refine aC (blocks8_16 (st.get (j := 0) rfl) (st.slcX hx ha) hb hlen ha) fun v149 H1 ⟨hv, st1⟩ => ?_
 subst hv
 replace st := st.callX 0 rfl st1 rfl
 clear st1
 iterate 4 refine zm ?_
 refine sE ?_
 refine ⟨_, out2 zr zr ⟨rfl, rfl⟩, ?_⟩
 exact ⟨rfl, st.pick 0 rfl⟩
def rowL (op : Int) : List Int := (useL op).tail
theorem code_row : ∀ op ∈ codes, useL op = op :: rowL op ∧ (rowL op).length ≤ 20 := by
  intro op h
  simp only [codes, List.mem_cons, List.not_mem_nil, or_false] at h
  rcases h with h | h | h | h <;> subst h <;> exact ⟨rfl, by decide⟩
theorem fill_call {H : Hp} {b : Nat} {xs : List Int} {x : Value} {sv op : Int} (ho : op ∈ codes) (hk : H.m b = some ⟨true, 108, [.int .u8 (kindL op), .bool false, .int .u64 0, .int .u64 0, .int .i64 0, .bool false, .int .u8 0, .bool false, .bool false, .int .u8 0, .int .u8 0, .bool false, .int .u8 0, .int .u8 0, .bool false]⟩) (hx : Sl H 1 (useL op).length (xs.map (Value.int .u8)) x) (hb : ByteL xs) (hlen : xs.length = (useL op).length) (ha : Apart b x) :
    ACalls Tryz.prog 50 [zP b, x, .int .u8 sv] H (fun v H' => v = .tuple #[.int .i64 (fillF (kindL op) (useL op).length xs).1, .int .i64 (fillF (kindL op) (useL op).length xs).2] ∧ Stt [b] H H' [⟨some b, true, ⟨true, 108, [.int .u8 (fillC (kindL op) (useL op).length xs sv).kind, .bool (fillC (kindL op) (useL op).length xs sv).long, .int .u64 (fillC (kindL op) (useL op).length xs sv).lba, .int .u64 (fillC (kindL op) (useL op).length xs sv).blocks, .int .i64 (fillC (kindL op) (useL op).length xs sv).alloc, .bool (fillC (kindL op) (useL op).length xs sv).fua, .int .u8 (fillC (kindL op) (useL op).length xs sv).prot, .bool (fillC (kindL op) (useL op).length xs sv).unmap, .bool (fillC (kindL op) (useL op).length xs sv).evpd, .int .u8 (fillC (kindL op) (useL op).length xs sv).page, .int .u8 (fillC (kindL op) (useL op).length xs sv).control, .bool (fillC (kindL op) (useL op).length xs sv).save, .int .u8 (fillC (kindL op) (useL op).length xs sv).service, .int .u8 (fillC (kindL op) (useL op).length xs sv).type, .bool (fillC (kindL op) (useL op).length xs sv).bytes]⟩⟩]) := by
  simp only [codes, List.mem_cons, List.not_mem_nil, or_false] at ho
  rcases ho with h | h | h | h
  · subst h; exact fill1_6 hk hx hb hlen ha trivial
  · subst h; exact fill18_16 hk hx hb hlen ha trivial
  · subst h; exact fill7_16 hk hx hb hlen ha trivial
  · subst h; exact fill8_16 hk hx hb hlen ha trivial

section
variable {xs : List Int} {f b : Int}
theorem pm1 (h : xs.length = 0) : parseM xs f b = (cmd0 0, flt 0 (-1), false) := by
  unfold parseM; simp only []
  rw [if_pos h]
theorem pm2 (h0 : xs.length ≠ 0) (h1 : tellsB (xs.getD 0 0) = true) (h2 : xs.length = 1) : parseM xs f b = (cmd0 0, flt 1 (-1), false) := by
  unfold parseM; simp only []
  rw [if_neg h0, if_pos ⟨h1, h2⟩]
theorem pm3 (h0 : xs.length ≠ 0) (h1 : tellsB (xs.getD 0 0) = true → xs.length ≠ 1) (h2 : useL (xs.getD 0 0) = []) : parseM xs f b = (cmd0 0, ⟨5, 8192, 0, false, 0, 7, true, true⟩, false) := by
  unfold parseM; simp only []
  rw [if_neg h0, if_neg (fun hc => h1 hc.1 hc.2), if_pos h2]
theorem pm4 (h0 : xs.length ≠ 0) (h1 : tellsB (xs.getD 0 0) = true → xs.length ≠ 1) (h2 : useL (xs.getD 0 0) ≠ []) (h3 : xs.length < (useL (xs.getD 0 0)).length) : parseM xs f b = (cmd0 0, flt xs.length (-1), false) := by
  unfold parseM; simp only []
  rw [if_neg h0, if_neg (fun hc => h1 hc.1 hc.2), if_neg h2, if_pos h3]
theorem pm5 (h0 : xs.length ≠ 0) (h1 : tellsB (xs.getD 0 0) = true → xs.length ≠ 1) (h2 : useL (xs.getD 0 0) ≠ []) (h3 : ¬ xs.length < (useL (xs.getD 0 0)).length) (h4 : f ≥ 0) : parseM xs f b = (cmd0 0, flt f b, false) := by
  unfold parseM; simp only []
  rw [if_neg h0, if_neg (fun hc => h1 hc.1 hc.2), if_neg h2, if_neg h3, if_pos h4]
theorem pm6 (h0 : xs.length ≠ 0) (h1 : tellsB (xs.getD 0 0) = true → xs.length ≠ 1) (h2 : useL (xs.getD 0 0) ≠ []) (h3 : ¬ xs.length < (useL (xs.getD 0 0)).length) (h4 : ¬ f ≥ 0) (h5 : serveB (xs.getD 0 0) (svOf xs) = false) : parseM xs f b = (cmd0 0, flt 1 4, false) := by
  unfold parseM; simp only []
  rw [if_neg h0, if_neg (fun hc => h1 hc.1 hc.2), if_neg h2, if_neg h3, if_neg h4, if_pos h5]
theorem pm7 (h0 : xs.length ≠ 0) (h1 : tellsB (xs.getD 0 0) = true → xs.length ≠ 1) (h2 : useL (xs.getD 0 0) ≠ []) (h3 : ¬ xs.length < (useL (xs.getD 0 0)).length) (h4 : ¬ f ≥ 0) (h5 : serveB (xs.getD 0 0) (svOf xs) = true) (h6 : (fillF (kindL (xs.getD 0 0)) (useL (xs.getD 0 0)).length (xs.take (useL (xs.getD 0 0)).length)).1 ≥ 0) : parseM xs f b = (cmd0 0, flt (fillF (kindL (xs.getD 0 0)) (useL (xs.getD 0 0)).length (xs.take (useL (xs.getD 0 0)).length)).1 (fillF (kindL (xs.getD 0 0)) (useL (xs.getD 0 0)).length (xs.take (useL (xs.getD 0 0)).length)).2, false) := by
  unfold parseM; simp only []
  rw [if_neg h0, if_neg (fun hc => h1 hc.1 hc.2), if_neg h2, if_neg h3, if_neg h4, if_neg (by rw [h5]; decide), if_pos h6]
theorem pm8 (h0 : xs.length ≠ 0) (h1 : tellsB (xs.getD 0 0) = true → xs.length ≠ 1) (h2 : useL (xs.getD 0 0) ≠ []) (h3 : ¬ xs.length < (useL (xs.getD 0 0)).length) (h4 : ¬ f ≥ 0) (h5 : serveB (xs.getD 0 0) (svOf xs) = true) (h6 : ¬ (fillF (kindL (xs.getD 0 0)) (useL (xs.getD 0 0)).length (xs.take (useL (xs.getD 0 0)).length)).1 ≥ 0) : parseM xs f b = (fillC (kindL (xs.getD 0 0)) (useL (xs.getD 0 0)).length (xs.take (useL (xs.getD 0 0)).length) (svOf xs), sns0, true) := by
  unfold parseM; simp only []
  rw [if_neg h0, if_neg (fun hc => h1 hc.1 hc.2), if_neg h2, if_neg h3, if_neg h4, if_neg (by rw [h5]; decide), if_neg h6]
end
def POdd (xs : List Int) (f b : Int) : Prop := useL (xs.getD 0 0) ≠ [] → ¬ xs.length < (useL (xs.getD 0 0)).length → OddAt (xs.take (useL (xs.getD 0 0)).length) (useL (xs.getD 0 0)) f b
theorem use_bytes (op : Int) (h : op ∈ codes) : ByteL (useL op) := by
  have : ∀ op ∈ codes, ∀ z ∈ useL op, 0 ≤ z ∧ z ≤ 255 := by decide +kernel
  exact this op h
theorem tells_len {op : Int} (h : tellsB op = true) : 6 ≤ (useL op).length := by
  unfold tellsB at h
  rcases of_decide_eq_true h with h | h | h | h <;> subst h <;> decide

theorem parse_call {H : Hp} {xs : List Int} {x : Value} (hx : Sl H 1 xs.length (xs.map (Value.int .u8)) x) (hb : ByteL xs) (hl : xs.length ≤ 140737488355328) (hop : xs.getD 0 0 ∈ codes) :
  ACalls Tryz.prog 23 [x] H (fun v H' => ∃ f b : Int, v = .tuple #[.agg #[.int .u8 (parseM xs f b).1.kind, .bool (parseM xs f b).1.long, .int .u64 (parseM xs f b).1.lba, .int .u64 (parseM xs f b).1.blocks, .int .i64 (parseM xs f b).1.alloc, .bool (parseM xs f b).1.fua, .int .u8 (parseM xs f b).1.prot, .bool (parseM xs f b).1.unmap, .bool (parseM xs f b).1.evpd, .int .u8 (parseM xs f b).1.page, .int .u8 (parseM xs f b).1.control, .bool (parseM xs f b).1.save, .int .u8 (parseM xs f b).1.service, .int .u8 (parseM xs f b).1.type, .bool (parseM xs f b).1.bytes], .agg #[.int .u8 (parseM xs f b).2.1.key, .int .u16 (parseM xs f b).2.1.code, .int .u64 (parseM xs f b).2.1.info, .bool (parseM xs f b).2.1.hasInfo, .int .i64 (parseM xs f b).2.1.field, .int .i64 (parseM xs f b).2.1.bit, .bool (parseM xs f b).2.1.hasField, .bool (parseM xs f b).2.1.inCmd], .bool (parseM xs f b).2.2] ∧ Stt [] H H' [] ∧ POdd xs f b) := by
 refine acallsW Tryz.func23 f23_ok (Nat.le_of_ble_eq_true rfl) fun hw => ?_
 have st : Stt [] H H [] := Stt.start hw
 unfold f23c
 refine zw ?_
 refine zp st fun b2 H1 st => ?_
 refine zp st fun b3 H2 st => ?_
 refine zm ?_
 refine zw ?_
 refine aMovV x rfl ?_
 refine aLen (st.slc hx) rfl ?_
 refine zm ?_
 show AW _ (.cond _ _ _) _ _ _
 refine cC' rfl (fun h3 => ?_) (fun h3 => ?_)
 ·have h3q := h3; try simp only [zq] at h3q
  have h0 : xs.length = 0 := by have := h3q; omega
  refine zw ?_
  refine aBld rfl (by repeat constructor) ?_
  refine aC (fault_call) fun v18 H4 ⟨hv, st1⟩ => ?_
  subst hv
  replace st := st.call st1 rfl
  clear st1
  refine zx st 1 fun H5 st => ?_
  refine zx st 0 fun H6 st => ?_
  refine zm ?_
  refine sE ?_
  refine ⟨_, out3 (zc st 1) (zc st 0) zr ⟨rfl, rfl, rfl⟩, ?_⟩
  exact ⟨0, 0, by rw [pm1 h0]; rfl, st.drop, fun h h3 => absurd (show xs.length < (useL (xs.getD 0 0)).length by have : 0 < (useL (xs.getD 0 0)).length := List.length_pos_iff.2 h; omega) h3⟩
 ·have h3q := h3; try simp only [zq] at h3q
  have h0 : xs.length ≠ 0 := by have := h3q; omega
  refine zw ?_
  refine aMovV x rfl ?_
  refine aIxB (st.slc hx) rfl rfl (by omega) fun b20 o20 g20 => ?_
  refine aLdG rfl g20 ?_
  iterate 2 refine zm ?_
  refine sE ?_
  refine AW_cutK (b := .seq (.list (⟨some 46, _, _⟩ :: _)) _) (fun t1 H1 => (tellsB (xs.getD 0 0) = true → xs.length ≠ 1) ∧ t1 5 = .int .u8 (xs.getD 0 0) ∧ t1 6 = .int .u8 (svOf xs) ∧ Stt [] H H1 [⟨some b2, true, ⟨true, 108, [.int .u8 0, .bool false, .int .u64 0, .int .u64 0, .int .i64 0, .bool false, .int .u8 0, .bool false, .bool false, .int .u8 0, .int .u8 0, .bool false, .int .u8 0, .int .u8 0, .bool false]⟩⟩, ⟨some b3, true, ⟨true, 41, [.int .u8 0, .int .u16 0, .int .u64 0, .bool false, .int .i64 0, .int .i64 0, .bool false, .bool false]⟩⟩]) [4, 6, 22, 23, 24, 25, 26, 27, 28, 29, 30, 31, 32, 33, 34, 35, 36, 37, 38, 39, 40, 41, 42, 43, 44] (by decide) ?_ fun t1 H1 hk hI => ?_
  ·show AWl _ _ _ _ _
   iterate 3 refine zm ?_
   refine gCase 24 rfl (fun h7 => ?_) (fun h7 => ?_)
   ·have h7q := h7; try simp only [zq] at h7q
    iterate 2 refine zk ?_
    iterate 2 refine zm ?_
    iterate 2 refine zk ?_
    iterate 2 refine zm ?_
    iterate 2 refine zk ?_
    refine zm ?_
    show AW _ (.cond _ _ _) _ _ _
    refine cT rfl ?_
    refine zw ?_
    refine aMovV x rfl ?_
    refine aLen (st.slc hx) rfl ?_
    refine zm ?_
    show AW _ (.cond _ _ _) _ _ _
    refine cC' rfl (fun h8 => ?_) (fun h8 => ?_)
    ·have h8q := h8; try simp only [zq] at h8q
     have hs1 : xs.length = 1 := by have := h8q; omega
     refine zw ?_
     refine aBld rfl (by repeat constructor) ?_
     refine aC (fault_call) fun v40 H9 ⟨hv, st1⟩ => ?_
     subst hv
     replace st := st.call st1 rfl
     clear st1
     refine zx st 1 fun H10 st => ?_
     refine zx st 0 fun H11 st => ?_
     refine zm ?_
     refine sE ?_
     refine ⟨_, out3 (zc st 1) (zc st 0) zr ⟨rfl, rfl, rfl⟩, ?_⟩
     have ht : tellsB (xs.getD 0 0) = true := by unfold tellsB; simp_all
     exact ⟨0, 0, by rw [pm2 h0 ht hs1]; rfl, st.drop, fun h h3 => absurd (show xs.length < (useL (xs.getD 0 0)).length by have := tells_len ht; omega) h3⟩
    ·have h8q := h8; try simp only [zq] at h8q
     have hs1 : xs.length ≠ 1 := by have := h8q; omega
     refine zw ?_
     refine aMovV x rfl ?_
     refine aIxB (st.slc hx) rfl rfl (by omega) fun b42 o42 g42 => ?_
     refine aLdG rfl g42 ?_
     iterate 2 refine zm ?_
     refine sE ?_
     have ht : tellsB (xs.getD 0 0) = true := by unfold tellsB; simp_all
     have hs35 : tellsB (xs.getD 0 0) = true → xs.length ≠ 1 := fun _ => hs1
     have hsv : svOf xs = xs.getD 1 0 % 32 := if_pos ht
     exact ⟨hs35, rfl, congrArg (Value.int .u8) ((b_and31 (hb.getD _)).trans hsv.symm), st.sel [1, 0] (by decide)⟩
   ·have h7q := h7; try simp only [zq] at h7q
    refine zg ?_
    refine zm ?_
    refine zg ?_
    iterate 3 refine zm ?_
    refine gCase 28 rfl (fun h12 => ?_) (fun h12 => ?_)
    ·have h12q := h12; try simp only [zq] at h12q
     iterate 2 refine zk ?_
     iterate 2 refine zm ?_
     iterate 2 refine zk ?_
     refine zm ?_
     show AW _ (.cond _ _ _) _ _ _
     refine cT rfl ?_
     refine zw ?_
     refine aMovV x rfl ?_
     refine aLen (st.slc hx) rfl ?_
     refine zm ?_
     show AW _ (.cond _ _ _) _ _ _
     refine cC' rfl (fun h13 => ?_) (fun h13 => ?_)
     ·have h13q := h13; try simp only [zq] at h13q
      have hs1 : xs.length = 1 := by have := h13q; omega
      refine zw ?_
      refine aBld rfl (by repeat constructor) ?_
      refine aC (fault_call) fun v40 H14 ⟨hv, st1⟩ => ?_
      subst hv
      replace st := st.call st1 rfl
      clear st1
      refine zx st 1 fun H15 st => ?_
      refine zx st 0 fun H16 st => ?_
      refine zm ?_
      refine sE ?_
      refine ⟨_, out3 (zc st 1) (zc st 0) zr ⟨rfl, rfl, rfl⟩, ?_⟩
      have ht : tellsB (xs.getD 0 0) = true := by unfold tellsB; simp_all
      exact ⟨0, 0, by rw [pm2 h0 ht hs1]; rfl, st.drop, fun h h3 => absurd (show xs.length < (useL (xs.getD 0 0)).length by have := tells_len ht; omega) h3⟩
     ·have h13q := h13; try simp only [zq] at h13q
      have hs1 : xs.length ≠ 1 := by have := h13q; omega
      refine zw ?_
      refine aMovV x rfl ?_
      refine aIxB (st.slc hx) rfl rfl (by omega) fun b42 o42 g42 => ?_
      refine aLdG rfl g42 ?_
      iterate 2 refine zm ?_
      refine sE ?_
      have ht : tellsB (xs.getD 0 0) = true := by unfold tellsB; simp_all
      have hs35 : tellsB (xs.getD 0 0) = true → xs.length ≠ 1 := fun _ => hs1
      have hsv : svOf xs = xs.getD 1 0 % 32 := if_pos ht
      exact ⟨hs35, rfl, congrArg (Value.int .u8) ((b_and31 (hb.getD _)).trans hsv.symm), st.sel [1, 0] (by decide)⟩
    ·have h12q := h12; try simp only [zq] at h12q
     refine zg ?_
     refine zm ?_
     refine zg ?_
     iterate 3 refine zm ?_
     refine gCase 32 rfl (fun h17 => ?_) (fun h17 => ?_)
     ·have h17q := h17; try simp only [zq] at h17q
      iterate 2 refine zk ?_
      refine zm ?_
      show AW _ (.cond _ _ _) _ _ _
      refine cT rfl ?_
      refine zw ?_
      refine aMovV x rfl ?_
      refine aLen (st.slc hx) rfl ?_
      refine zm ?_
      show AW _ (.cond _ _ _) _ _ _
      refine cC' rfl (fun h18 => ?_) (fun h18 => ?_)
      ·have h18q := h18; try simp only [zq] at h18q
       have hs1 : xs.length = 1 := by have := h18q; omega
       refine zw ?_
       refine aBld rfl (by repeat constructor) ?_
       refine aC (fault_call) fun v40 H19 ⟨hv, st1⟩ => ?_
       subst hv
       replace st := st.call st1 rfl
       clear st1
       refine zx st 1 fun H20 st => ?_
       refine zx st 0 fun H21 st => ?_
       refine zm ?_
       refine sE ?_
       refine ⟨_, out3 (zc st 1) (zc st 0) zr ⟨rfl, rfl, rfl⟩, ?_⟩
       have ht : tellsB (xs.getD 0 0) = true := by unfold tellsB; simp_all
       exact ⟨0, 0, by rw [pm2 h0 ht hs1]; rfl, st.drop, fun h h3 => absurd (show xs.length < (useL (xs.getD 0 0)).length by have := tells_len ht; omega) h3⟩
      ·have h18q := h18; try simp only [zq] at h18q
       have hs1 : xs.length ≠ 1 := by have := h18q; omega
       refine zw ?_
       refine aMovV x rfl ?_
       refine aIxB (st.slc hx) rfl rfl (by omega) fun b42 o42 g42 => ?_
       refine aLdG rfl g42 ?_
       iterate 2 refine zm ?_
       refine sE ?_
       have ht : tellsB (xs.getD 0 0) = true := by unfold tellsB; simp_all
       have hs35 : tellsB (xs.getD 0 0) = true → xs.length ≠ 1 := fun _ => hs1
       have hsv : svOf xs = xs.getD 1 0 % 32 := if_pos ht
       exact ⟨hs35, rfl, congrArg (Value.int .u8) ((b_and31 (hb.getD _)).trans hsv.symm), st.sel [1, 0] (by decide)⟩
     ·have h17q := h17; try simp only [zq] at h17q
      refine zg ?_
      refine zm ?_
      refine zg ?_
      iterate 2 refine zm ?_
      show AW _ (.cond _ _ _) _ _ _
      refine cC' rfl (fun h22 => ?_) (fun h22 => ?_)
      ·have h22q := h22; try simp only [zq] at h22q
       refine zw ?_
       refine aMovV x rfl ?_
       refine aLen (st.slc hx) rfl ?_
       refine zm ?_
       show AW _ (.cond _ _ _) _ _ _
       refine cC' rfl (fun h23 => ?_) (fun h23 => ?_)
       ·have h23q := h23; try simp only [zq] at h23q
        have hs1 : xs.length = 1 := by have := h23q; omega
        refine zw ?_
        refine aBld rfl (by repeat constructor) ?_
        refine aC (fault_call) fun v40 H24 ⟨hv, st1⟩ => ?_
        subst hv
        replace st := st.call st1 rfl
        clear st1
        refine zx st 1 fun H25 st => ?_
        refine zx st 0 fun H26 st => ?_
        refine zm ?_
        refine sE ?_
        refine ⟨_, out3 (zc st 1) (zc st 0) zr ⟨rfl, rfl, rfl⟩, ?_⟩
        have ht : tellsB (xs.getD 0 0) = true := by unfold tellsB; simp_all
        exact ⟨0, 0, by rw [pm2 h0 ht hs1]; rfl, st.drop, fun h h3 => absurd (show xs.length < (useL (xs.getD 0 0)).length by have := tells_len ht; omega) h3⟩
       ·have h23q := h23; try simp only [zq] at h23q
        have hs1 : xs.length ≠ 1 := by have := h23q; omega
        refine zw ?_
        refine aMovV x rfl ?_
        refine aIxB (st.slc hx) rfl rfl (by omega) fun b42 o42 g42 => ?_
        refine aLdG rfl g42 ?_
        iterate 2 refine zm ?_
        refine sE ?_
        have ht : tellsB (xs.getD 0 0) = true := by unfold tellsB; simp_all
        have hs35 : tellsB (xs.getD 0 0) = true → xs.length ≠ 1 := fun _ => hs1
        have hsv : svOf xs = xs.getD 1 0 % 32 := if_pos ht
        exact ⟨hs35, rfl, congrArg (Value.int .u8) ((b_and31 (hb.getD _)).trans hsv.symm), st.sel [1, 0] (by decide)⟩
      ·have h22q := h22; try simp only [zq] at h22q
       have ht : tellsB (xs.getD 0 0) = false := by unfold tellsB; simp_all
       have hs35 : tellsB (xs.getD 0 0) = true → xs.length ≠ 1 := fun h => by rw [ht] at h; cases h
       have hsv : svOf xs = 0 := if_neg (by rw [ht]; decide)
       exact ⟨hs35, rfl, congrArg (Value.int .u8) hsv.symm, st.sel [1, 0] (by decide)⟩
  ·obtain ⟨h1, ht5, ht6, st⟩ := hI
   obtain ⟨u, rfl⟩ : ∃ u, t1 = (upd (upd (mix [4, 6, 22, 23, 24, 25, 26, 27, 28, 29, 30, 31, 32, 33, 34, 35, 36, 37, 38, 39, 40, 41, 42, 43, 44] _ u) (some 5) _) (some 6) _) := ⟨t1, by rw [← hk, upd_self ht5, upd_self ht6]⟩
   clear hk ht5 ht6
   refine zw ?_
   iterate 2 refine zm ?_
   have ho := hb.getD 0
   refine aC (usage_call hop) fun v48 H27 ⟨ob48, hv, st1, he48⟩ => ?_
   subst hv
   replace st := st.call st1 rfl
   clear st1
   by_cases h2 : useL (xs.getD 0 0) = []
   ·obtain rfl := he48 h2
    iterate 5 refine zm ?_
    refine zw ?_
    refine zm ?_
    refine aBinV (.bool true) (u := .slice none 0 0) (u' := .slice none 0 0) rfl rfl rfl ?_
    show AW _ (.cond _ _ _) _ _ _
    refine cT rfl ?_
    refine zw ?_
    refine aBld rfl (by repeat constructor) ?_
    refine aBld rfl (by repeat constructor) ?_
    refine zx st 1 fun H28 st => ?_
    refine zx st 2 fun H29 st => ?_
    refine zm ?_
    refine sE ?_
    refine ⟨_, out3 (zc st 1) (zc st 2) zr ⟨rfl, rfl, rfl⟩, ?_⟩
    exact ⟨0, 0, by rw [pm3 h0 h1 h2]; rfl, st.drop, fun h => absurd h2 h⟩
   ·obtain ⟨b48, rfl⟩ := st.isSome 0 rfl (by intro hc; rw [List.map_eq_nil_iff] at hc; exact h2 hc)
    have hcode := hop
    obtain ⟨eR, lR⟩ := code_row _ hcode
    have hn20 : (useL (xs.getD 0 0)).length ≤ 21 := by have h9 := congrArg List.length eR; simp only [List.length_cons] at h9; omega
    iterate 5 refine zm ?_
    refine zw ?_
    refine zm ?_
    refine aBinV (.bool false) (u := .slice (some ⟨b48, 0, none⟩) (useL (xs.getD 0 0)).length 1) (u' := .slice none 0 0) rfl rfl rfl ?_
    refine zf ?_
    refine zw ?_
    refine aMovV x rfl ?_
    refine aLen (st.slc hx) rfl ?_
    iterate 3 refine zm ?_
    show AW _ (.cond _ _ _) _ _ _
    refine cC' rfl (fun h30 => ?_) (fun h30 => ?_)
    ·have h30q := h30; try simp only [zq] at h30q
     have h3 : (xs.length < (useL (xs.getD 0 0)).length) := by have := h30q; omega
     refine zw ?_
     refine aBld rfl (by repeat constructor) ?_
     refine aMovV x rfl ?_
     refine aLen (st.slc hx) rfl ?_
     refine aC (fault_call) fun v63 H31 ⟨hv, st1⟩ => ?_
     subst hv
     replace st := st.call st1 rfl
     clear st1
     refine zx st 1 fun H32 st => ?_
     refine zx st 2 fun H33 st => ?_
     refine zm ?_
     refine sE ?_
     refine ⟨_, out3 (zc st 1) (zc st 2) zr ⟨rfl, rfl, rfl⟩, ?_⟩
     exact ⟨0, 0, by rw [pm4 h0 h1 h2 h3]; rfl, st.drop, fun _ h => absurd h3 h⟩
    ·have h30q := h30; try simp only [zq] at h30q
     have h3 : ¬ (xs.length < (useL (xs.getD 0 0)).length) := by have := h30q; omega
     refine zw ?_
     refine aMovV x rfl ?_
     iterate 2 refine zm ?_
     refine aCutH (st.slc hx) rfl rfl (by omega) fun v67 s67 => ?_
     replace s67 := s67 _ hx
     have hlt : (xs.take (useL (xs.getD 0 0)).length).length = (useL (xs.getD 0 0)).length := by rw [List.length_take]; omega
     replace s67 : Sl H 1 (xs.take (useL (xs.getD 0 0)).length).length ((xs.take (useL (xs.getD 0 0)).length).map (Value.int .u8)) v67 := by rw [hlt]; exact s67
     refine aMovV v67 rfl ?_
     refine zw ?_
     refine aMovV v67 rfl ?_
     refine zm ?_
     have hbm : ByteL (useL (xs.getD 0 0)) := use_bytes _ hcode
     refine aC (odd_call (st.slc s67) (st.rowAll 0 rfl (by simp)) (hb.take _) hbm (by omega) (by omega)) fun v71 H34 ⟨f71, b71, hv, st1, hod71⟩ => ?_
     subst hv
     replace st := st.call st1 rfl
     clear st1
     have hP : POdd xs f71 b71 := fun _ _ => hod71
     iterate 5 refine zm ?_
     refine zw ?_
     iterate 2 refine zm ?_
     show AW _ (.cond _ _ _) _ _ _
     refine cC' rfl (fun h35 => ?_) (fun h35 => ?_)
     ·have h35q := h35; try simp only [zq] at h35q
      have h4 : (f71 ≥ 0) := by have := h35q; omega
      refine zw ?_
      refine aBld rfl (by repeat constructor) ?_
      iterate 2 refine zm ?_
      refine aC (fault_call) fun v79 H36 ⟨hv, st1⟩ => ?_
      subst hv
      replace st := st.call st1 rfl
      clear st1
      refine zx st 1 fun H37 st => ?_
      refine zx st 2 fun H38 st => ?_
      refine zm ?_
      refine sE ?_
      refine ⟨_, out3 (zc st 1) (zc st 2) zr ⟨rfl, rfl, rfl⟩, ?_⟩
      exact ⟨f71, b71, by rw [pm5 h0 h1 h2 h3 h4]; rfl, st.drop, hP⟩
     ·have h35q := h35; try simp only [zq] at h35q
      have h4 : ¬ (f71 ≥ 0) := by have := h35q; omega
      refine zw ?_
      iterate 2 refine zm ?_
      show AW _ (.cond _ _ _) _ _ _
      refine cC' rfl (fun h39 => ?_) (fun h39 => ?_)
      ·have h39q := h39; try simp only [zq] at h39q
       have h39n : serveB (xs.getD 0 0) (svOf xs) = false := Eq.mp (Bool.not_eq_true' _) h39
       have h5 : serveB (xs.getD 0 0) (svOf xs) = false := by simpa using h39
       refine zw ?_
       refine aBld rfl (by repeat constructor) ?_
       refine aC (fault_call) fun v83 H40 ⟨hv, st1⟩ => ?_
       subst hv
       replace st := st.call st1 rfl
       clear st1
       refine zx st 1 fun H41 st => ?_
       refine zx st 2 fun H42 st => ?_
       refine zm ?_
       refine sE ?_
       refine ⟨_, out3 (zc st 1) (zc st 2) zr ⟨rfl, rfl, rfl⟩, ?_⟩
       exact ⟨f71, b71, by rw [pm6 h0 h1 h2 h3 h4 h5]; rfl, st.drop, hP⟩
      ·have h39q := h39; try simp only [zq] at h39q
       have h39n : serveB (xs.getD 0 0) (svOf xs) = true := Eq.mp (Bool.not_eq_false' _) h39
       have h5 : serveB (xs.getD 0 0) (svOf xs) = true := by simpa using h39
       refine zw ?_
       refine zm ?_
       refine aC (kind_call hcode) fun v85 H43 ⟨hv, st1⟩ => ?_
       subst hv
       replace st := st.call st1 rfl
       clear st1
       refine aBld rfl (by repeat constructor) ?_
       refine zp st fun b11 H44 st => ?_
       refine zx st 0 fun H45 st => ?_
       refine zw ?_
       refine aMovV v67 rfl ?_
       refine zm ?_
       refine aC (fill_call (xs := xs.take (useL (xs.getD 0 0)).length) hcode (st.get (j := 0) rfl) (by have s9 := st.slc s67; rw [hlt] at s9; exact s9) (hb.take _) hlt (st.apart (j := 0) rfl s67)) fun v90 H46 ⟨hv, st1⟩ => ?_
       subst hv
       replace st := st.callX 0 rfl st1 rfl
       clear st1
       iterate 5 refine zm ?_
       refine zw ?_
       iterate 2 refine zm ?_
       show AW _ (.cond _ _ _) _ _ _
       refine cC' rfl (fun h47 => ?_) (fun h47 => ?_)
       ·have h47q := h47; try simp only [zq] at h47q
        have h6 : ((fillF (kindL (xs.getD 0 0)) (useL (xs.getD 0 0)).length (xs.take (useL (xs.getD 0 0)).length)).1 ≥ 0) := by have := h47q; omega
        refine zw ?_
        refine aBld rfl (by repeat constructor) ?_
        iterate 2 refine zm ?_
        refine aC (fault_call) fun v98 H48 ⟨hv, st1⟩ => ?_
        subst hv
        replace st := st.call st1 rfl
        clear st1
        refine zx st 2 fun H49 st => ?_
        refine zx st 3 fun H50 st => ?_
        refine zm ?_
        refine sE ?_
        refine ⟨_, out3 (zc st 2) (zc st 3) zr ⟨rfl, rfl, rfl⟩, ?_⟩
        exact ⟨f71, b71, by rw [pm7 h0 h1 h2 h3 h4 h5 h6]; rfl, st.drop, hP⟩
       ·have h47q := h47; try simp only [zq] at h47q
        have h6 : ¬ ((fillF (kindL (xs.getD 0 0)) (useL (xs.getD 0 0)).length (xs.take (useL (xs.getD 0 0)).length)).1 ≥ 0) := by have := h47q; omega
        refine zw ?_
        refine aLdAll st 0 rfl rfl (rfl) ?_
        refine aBld rfl (by repeat constructor) ?_
        refine aStAllA st 2 rfl rfl rfl (rfl) (rfl) fun H51 st => ?_
        refine zx st 3 fun H52 st => ?_
        refine zm ?_
        refine sE ?_
        refine ⟨_, out3 (zc st 2) (zc st 3) zr ⟨rfl, rfl, rfl⟩, ?_⟩
        exact ⟨f71, b71, by rw [pm8 h0 h1 h2 h3 h4 h5 h6]; rfl, st.drop, hP⟩
end Go.Proofs.YtjmjkdelkaflmaaGreatDoor.Abs
