/- Unit attentions. -/
import Derived.Test.YtjmjkdelkaflmaaGreatDoorXI
import Derived.Test.YtjmjkdelkaflmaaGreatDoorXL
import Derived.Test.YtjmjkdelkaflmaaGreatDoorXK
import Derived.Test.YtjmjkdelkaflmaaGreatDoorXO
set_option linter.unusedVariables false
set_option linter.unusedSimpArgs false
set_option maxRecDepth 100000
namespace Go.Proofs.YtjmjkdelkaflmaaGreatDoor.Abs
open Go Go.RowKit
def Lp (P : Program) (c : AC) (Q : Exit → Tm → Hp → Prop) : Nat → Tm → Hp → Prop
  | 0, _, _ => False
  | n + 1, t, H => AW P c (xThen (Lp P c Q n) Q) t H
/-- A loop whose rounds are counted. -/
theorem AW_fuel {P : Program} {c : AC} {Q : Exit → Tm → Hp → Prop} {t : Tm} {H : Hp} (n : Nat) (h : Lp P c Q n t H) : AW P (.loop c) Q t H := by
  refine AW_loopN (fun m t H => Lp P c Q m t H) n h c.ds (List.all_eq_true.2 fun a ha => by simpa [inD] using ha) fun m t1 H1 _ hI => ?_
  cases m with
  | zero => exact hI.elim
  | succ m => exact AW_mono (fun e t2 H2 h2 => by cases e with
    | normal => exact ⟨m, Nat.lt_succ_self m, h2⟩
    | _ => exact h2) hI
theorem qin_call {H : Hp} {q n : Nat} (hn : n < 8) :
  ACalls Tryz.prog 79 [zP q, .int .i64 (n : Int)] H (fun v H' => v = .bool true ∧ Stt [] H H' []) := by
 refine acallsW Tryz.func79 f79_ok (Nat.le_of_ble_eq_true rfl) fun hw => ?_
 have st : Stt [] H H [] := Stt.start hw
 unfold f79c
 refine zw ?_
 refine zm ?_
 refine zw ?_
 refine zm ?_
 refine zb (.bool true) ?_
 refine zm ?_
 refine zg ?_
 refine zm ?_
 refine zg ?_
 refine aBinV (.bool true) rfl rfl (geT (by omega)) ?_
 iterate 2 refine zm ?_
 refine zg ?_
 refine zm ?_
 refine zg ?_
 refine aBinV (.bool true) rfl rfl (ltT (by omega)) ?_
 iterate 2 refine zm ?_
 refine sE ?_
 refine ⟨_, out1 zr, ?_⟩
 exact ⟨rfl, st.drop⟩
theorem qadd_call {H : Hp} {q n : Nat} {qs : List Value} {x0 : Value} (st0 : Stt [q] H H [⟨some q, true, ⟨true, 154, qs⟩⟩]) (hl : qs.length = 8) (hn : n < 8) (hq : qs[n]? = some x0) :
  ACalls Tryz.prog 72 [zP q, .int .i64 (n : Int), .int .u16 10496] H (fun v H' => ∃ b, v = .tuple #[] ∧ Stt [q] H H' [⟨some q, true, ⟨true, 154, (qs.set n (.slice (some ⟨b, 0, none⟩) 1 1))⟩⟩, ⟨some b, true, ⟨true, 23, [.int .u16 10496]⟩⟩]) := by
 refine acallsW Tryz.func72 f72_ok (Nat.le_of_ble_eq_true rfl) fun hw => ?_
 have st : Stt [q] H H [] := Stt.start hw
 replace st := st0
 unfold f72c
 refine zw ?_
 iterate 2 refine zm ?_
 refine aC (qin_call hn) fun v11 H1 ⟨hv, st1⟩ => ?_
 subst hv
 replace st := st.call st1 rfl
 clear st1
 refine zm ?_
 refine zf ?_
 refine zw ?_
 iterate 4 refine zm ?_
 refine aIxA rfl rfl (by omega) ?_
 refine aLd (v := x0) st 0 rfl rfl (by simpa using hq) (.any _) ?_
 refine aMovV x0 rfl ?_
 refine zw ?_
 refine zm ?_
 refine aBinV (.bool true) rfl rfl (rfl) ?_
 show AW _ (.cond _ _ _) _ _ _
 refine cT rfl ?_
 refine zw ?_
 refine zm ?_
 refine zw ?_
 refine zm ?_
 refine aN (v := .int .i64 0) rfl rfl (by constructor) ?_
 refine zm ?_
 refine sE ?_
 show AW _ (.loop _) _ _ _
 refine AW_fuel 1 ?_
 show AW _ _ _ _ _
 refine zw ?_
 refine zb (.bool false) ?_
 refine zf ?_
 refine zw ?_
 refine zm ?_
 refine aN (v := .int .i64 0) rfl rfl (by constructor) ?_
 refine zb (.bool true) ?_
 show AW _ (.cond _ _ _) _ _ _
 refine cT rfl ?_
 show AWp _ _ _ _ _
 iterate 6 refine zm ?_
 refine ⟨?_, ?_⟩
 ·have st := st.nil 23
  have hnil : (Value.slice none 0 0) = accV none 0 1 := rfl
  refine aApp st 0 (ob := none) (n := 0) rfl rfl rfl (by decide) (rfl) rfl (rfl) (by decide) (by decide) fun b37 H2 hp37 st => ?_
  refine ⟨trivial, ?_⟩
  refine ⟨?_, trivial⟩
  refine aLit st rfl (by repeat constructor) fun b39 H3 st => ?_
  refine ⟨trivial, ?_⟩
  refine ⟨?_, trivial⟩
  refine aAppP st 1 (ob := b37) rfl rfl rfl (by decide) (rfl) (st.rowAll 0 rfl (by first | rfl | (simp [beB_len, *]; done) | (simp [beB_len, *]; omega))).src (rfl) (by decide) (by decide) (by decide) (.any _) fun b40 H4 st => ?_
  refine ⟨trivial, ?_⟩
  refine aIxA rfl rfl (by omega) ?_
  refine ⟨?_, trivial⟩
  refine aSt (cs := qs.set n (.slice (some ⟨b40, 0, none⟩) 1 1)) st 2 rfl rfl rfl rfl rfl (by rw [Int.toNat_natCast]; omega) (by rw [Int.toNat_natCast, Nat.zero_add, Nat.mul_one]; show NfV (List.take n qs ++ [.slice (some ⟨b40, 0, none⟩) 1 1] ++ List.drop (n + 1) qs) _; rw [List.set_eq_take_append_cons_drop, if_pos (by omega)]; simp only [List.append_assoc, List.singleton_append]; exact .any _) fun H5 st => ?_
  refine ⟨trivial, ?_⟩
  refine pE ?_
  refine ⟨_, rfl , ?_⟩
  exact ⟨b40, rfl, st.sel [2, 1] (by decide)⟩
 ·refine ⟨?_, trivial⟩
  refine aLit st rfl (by repeat constructor) fun b39 H6 st => ?_
  refine ⟨trivial, ?_⟩
  refine ⟨?_, trivial⟩
  have st := st.nil 23
  have hnil : (Value.slice none 0 0) = accV none 0 1 := rfl
  refine aApp st 0 (ob := none) (n := 0) rfl rfl rfl (by decide) (rfl) rfl (rfl) (by decide) (by decide) fun b37 H7 hp37 st => ?_
  refine ⟨trivial, ?_⟩
  refine ⟨?_, trivial⟩
  refine aAppP st 0 (ob := b37) rfl rfl rfl (by decide) (rfl) (st.rowAll 1 rfl (by first | rfl | (simp [beB_len, *]; done) | (simp [beB_len, *]; omega))).src (rfl) (by decide) (by decide) (by decide) (.any _) fun b40 H8 st => ?_
  refine ⟨trivial, ?_⟩
  refine aIxA rfl rfl (by omega) ?_
  refine ⟨?_, trivial⟩
  refine aSt (cs := qs.set n (.slice (some ⟨b40, 0, none⟩) 1 1)) st 2 rfl rfl rfl rfl rfl (by rw [Int.toNat_natCast]; omega) (by rw [Int.toNat_natCast, Nat.zero_add, Nat.mul_one]; show NfV (List.take n qs ++ [.slice (some ⟨b40, 0, none⟩) 1 1] ++ List.drop (n + 1) qs) _; rw [List.set_eq_take_append_cons_drop, if_pos (by omega)]; simp only [List.append_assoc, List.singleton_append]; exact .any _) fun H9 st => ?_
  refine ⟨trivial, ?_⟩
  refine pE ?_
  refine ⟨_, rfl , ?_⟩
  exact ⟨b40, rfl, st.sel [2, 0] (by decide)⟩
theorem qfirst_e {H : Hp} {q n b : Nat} {o : Option Nat} {qs : List Value} (st0 : Stt [] H H [⟨some q, false, ⟨true, 154, qs⟩⟩, ⟨o, false, ⟨true, 23, []⟩⟩]) (hl : qs.length = 8) (hn : n < 8) (hq : qs[n]? = some (accV o 0 1)) :
  ACalls Tryz.prog 51 [zP q, .int .i64 (n : Int)] H (fun v H' => v = .int .i64 (-1) ∧ Stt [] H H' []) := by
 refine acallsW Tryz.func51 f51_ok (Nat.le_of_ble_eq_true rfl) fun hw => ?_
 have st : Stt [] H H [] := Stt.start hw
 replace st := st0
 unfold f51c
 refine zw ?_
 refine zm ?_
 refine zw ?_
 refine zm ?_
 refine zw ?_
 iterate 2 refine zm ?_
 refine aC (qin_call hn) fun v10 H1 ⟨hv, st1⟩ => ?_
 subst hv
 replace st := st.call st1 rfl
 clear st1
 refine zm ?_
 refine zf ?_
 refine zw ?_
 iterate 4 refine zm ?_
 refine aIxA rfl rfl (by omega) ?_
 refine aLd (v := accV o 0 1) st 0 rfl rfl (by simpa using hq) (.any _) ?_
 refine aLen (st.rowAcc 1 rfl (by decide) (rfl)) rfl ?_
 refine zm ?_
 refine sE ?_
 show AW _ (.loop _) _ _ _
 refine AW_fuel 1 ?_
 show AW _ _ _ _ _
 refine zw ?_
 refine aBinV (.bool false) rfl rfl (rfl) ?_
 refine zf ?_
 refine zw ?_
 iterate 2 refine zm ?_
 refine sE ?_
 refine ⟨_, out1 zr, ?_⟩
 exact ⟨rfl, st.drop⟩
theorem qfirst_p {H : Hp} {q n b : Nat} {o : Option Nat} {qs : List Value} (st0 : Stt [] H H [⟨some q, false, ⟨true, 154, qs⟩⟩, ⟨some b, false, ⟨true, 23, [.int .u16 10496]⟩⟩]) (hl : qs.length = 8) (hn : n < 8) (hq : qs[n]? = some (.slice (some ⟨b, 0, none⟩) 1 1)) :
  ACalls Tryz.prog 51 [zP q, .int .i64 (n : Int)] H (fun v H' => v = .int .i64 0 ∧ Stt [] H H' []) := by
 refine acallsW Tryz.func51 f51_ok (Nat.le_of_ble_eq_true rfl) fun hw => ?_
 have st : Stt [] H H [] := Stt.start hw
 replace st := st0
 unfold f51c
 refine zw ?_
 refine zm ?_
 refine zw ?_
 refine zm ?_
 refine zw ?_
 iterate 2 refine zm ?_
 refine aC (qin_call hn) fun v10 H1 ⟨hv, st1⟩ => ?_
 subst hv
 replace st := st.call st1 rfl
 clear st1
 refine zm ?_
 refine zf ?_
 refine zw ?_
 iterate 4 refine zm ?_
 refine aIxA rfl rfl (by omega) ?_
 refine aLd (v := .slice (some ⟨b, 0, none⟩) 1 1) st 0 rfl rfl (by simpa using hq) (.any _) ?_
 refine aN (v := .int .i64 1) rfl rfl (by constructor) ?_
 refine zm ?_
 refine sE ?_
 show AW _ (.loop _) _ _ _
 refine AW_fuel 2 ?_
 show AW _ _ _ _ _
 refine zw ?_
 refine zb (.bool true) ?_
 show AW _ (.cond _ _ _) _ _ _
 refine cT rfl ?_
 refine zw ?_
 iterate 2 refine zm ?_
 refine zl st 1 ?_
 iterate 2 refine zm ?_
 refine sE ?_
 show AWp _ _ _ _ _
 refine zm ?_
 refine zb (.bool true) ?_
 refine zm ?_
 iterate 10 refine zk ?_
 refine ⟨gF rfl (by decide) ?_, trivial⟩
 refine ⟨⟨⟨some true, .bool true, rfl⟩, ⟨some true, .bool true, rfl⟩, trivial⟩, ?_⟩
 refine ⟨gF rfl (by decide) ?_, trivial⟩
 refine ⟨⟨⟨some true, .bool true, rfl⟩, trivial⟩, ?_⟩
 refine zk ?_
 refine zm ?_
 show AW _ (.cond _ _ _) _ _ _
 refine cT rfl ?_
 refine zw ?_
 iterate 2 refine zm ?_
 refine zw ?_
 refine zb (.int .i64 1) ?_
 refine zm ?_
 refine sE ?_
 show AW _ _ _ _ _
 refine zw ?_
 refine zb (.bool false) ?_
 refine zf ?_
 refine zw ?_
 iterate 2 refine zm ?_
 refine sE ?_
 refine ⟨_, out1 zr, ?_⟩
 exact ⟨rfl, st.drop⟩
theorem qpeek_e {H : Hp} {q n b : Nat} {o : Option Nat} {qs : List Value} (st0 : Stt [] H H [⟨some q, false, ⟨true, 154, qs⟩⟩, ⟨o, false, ⟨true, 23, []⟩⟩]) (hl : qs.length = 8) (hn : n < 8) (hq : qs[n]? = some (accV o 0 1)) :
  ACalls Tryz.prog 24 [zP q, .int .i64 (n : Int)] H (fun v H' => v = .tuple #[.int .u16 0, .bool false] ∧ Stt [] H H' []) := by
 refine acallsW Tryz.func24 f24_ok (Nat.le_of_ble_eq_true rfl) fun hw => ?_
 have st : Stt [] H H [] := Stt.start hw
 replace st := st0
 unfold f24c
 refine zw ?_
 iterate 2 refine zm ?_
 refine zw ?_
 iterate 2 refine zm ?_
 refine aC (qfirst_e (b := 0) (zM st [] [0, 1]) hl hn hq) fun v9 H1 ⟨hv, st1⟩ => ?_
 subst hv
 replace st := st.call st1 rfl
 clear st1
 refine zm ?_
 refine zw ?_
 refine zm ?_
 refine aBinV (.bool true) rfl rfl (rfl) ?_
 show AW _ (.cond _ _ _) _ _ _
 refine cT rfl ?_
 refine zw ?_
 iterate 2 refine zm ?_
 refine sE ?_
 refine ⟨_, out2 zr zr ⟨rfl, rfl⟩, ?_⟩
 exact ⟨rfl, st.drop⟩
theorem qpeek_p {H : Hp} {q n b : Nat} {o : Option Nat} {qs : List Value} (st0 : Stt [] H H [⟨some q, false, ⟨true, 154, qs⟩⟩, ⟨some b, false, ⟨true, 23, [.int .u16 10496]⟩⟩]) (hl : qs.length = 8) (hn : n < 8) (hq : qs[n]? = some (.slice (some ⟨b, 0, none⟩) 1 1)) :
  ACalls Tryz.prog 24 [zP q, .int .i64 (n : Int)] H (fun v H' => v = .tuple #[.int .u16 10496, .bool true] ∧ Stt [] H H' []) := by
 refine acallsW Tryz.func24 f24_ok (Nat.le_of_ble_eq_true rfl) fun hw => ?_
 have st : Stt [] H H [] := Stt.start hw
 replace st := st0
 unfold f24c
 refine zw ?_
 iterate 2 refine zm ?_
 refine zw ?_
 iterate 2 refine zm ?_
 refine aC (qfirst_p (o := none) (zM st [] [0, 1]) hl hn hq) fun v9 H1 ⟨hv, st1⟩ => ?_
 subst hv
 replace st := st.call st1 rfl
 clear st1
 refine zm ?_
 refine zw ?_
 refine zm ?_
 refine aBinV (.bool false) rfl rfl (rfl) ?_
 refine zf ?_
 refine zw ?_
 iterate 4 refine zm ?_
 refine aIxA rfl rfl (by omega) ?_
 refine aLd (v := .slice (some ⟨b, 0, none⟩) 1 1) st 0 rfl rfl (by simpa using hq) (.any _) ?_
 iterate 2 refine zm ?_
 refine zl st 1 ?_
 iterate 2 refine zm ?_
 refine sE ?_
 refine ⟨_, out2 zr zr ⟨rfl, rfl⟩, ?_⟩
 exact ⟨rfl, st.drop⟩
theorem qnext_p {H : Hp} {q n b : Nat} {qs : List Value} (st0 : Stt [q] H H [⟨some q, true, ⟨true, 154, qs⟩⟩, ⟨some b, false, ⟨true, 23, [.int .u16 10496]⟩⟩]) (hl : qs.length = 8) (hn : n < 8) (hq : qs[n]? = some (.slice (some ⟨b, 0, none⟩) 1 1)) :
  ACalls Tryz.prog 25 [zP q, .int .i64 (n : Int)] H (fun v H' => ∃ o, v = .tuple #[.int .u16 10496, .bool true] ∧ Stt [q] H H' [⟨some q, true, ⟨true, 154, (qs.set n (accV o 0 1))⟩⟩, ⟨o, true, ⟨true, 23, []⟩⟩]) := by
 refine acallsW Tryz.func25 f25_ok (Nat.le_of_ble_eq_true rfl) fun hw => ?_
 have st : Stt [q] H H [] := Stt.start hw
 replace st := st0
 unfold f25c
 refine zw ?_
 iterate 2 refine zm ?_
 refine zw ?_
 iterate 2 refine zm ?_
 refine aC (qfirst_p (o := none) (zM st [] [0, 1]) hl hn hq) fun v11 H1 ⟨hv, st1⟩ => ?_
 subst hv
 replace st := st.call st1 rfl
 clear st1
 refine zm ?_
 refine zw ?_
 refine zm ?_
 refine aBinV (.bool false) rfl rfl (rfl) ?_
 refine zf ?_
 refine zw ?_
 iterate 4 refine zm ?_
 refine aIxA rfl rfl (by omega) ?_
 refine aLd (v := .slice (some ⟨b, 0, none⟩) 1 1) st 0 rfl rfl (by simpa using hq) (.any _) ?_
 refine zm ?_
 refine zw ?_
 iterate 3 refine zm ?_
 refine zl st 1 ?_
 refine zm ?_
 refine sE ?_
 show AWp _ _ _ _ _
 iterate 4 refine zm ?_
 refine aN rfl rfl (.any _) ?_
 iterate 2 refine zm ?_
 refine aBinV (.int .i64 1) rfl rfl (rfl) ?_
 refine aN rfl rfl (.any _) ?_
 iterate 2 refine zm ?_
 refine ⟨?_, trivial⟩
 have st := st.nil 23
 have hnil : (Value.slice none 0 0) = accV none 0 1 := rfl
 refine aApp st 0 (ob := none) (n := 0) rfl rfl rfl (by decide) (rfl) (st.row (n := 0) (sz := 1) (cs := []) 2 rfl (by decide) rfl).src (rfl) (by decide) (by decide) fun b29 H2 hp29 st => ?_
 refine ⟨trivial, ?_⟩
 refine ⟨?_, trivial⟩
 refine aApp st 0 (ob := b29) rfl rfl rfl (by decide) (rfl) (st.row (n := 0) (sz := 1) (cs := []) 2 rfl (by decide) rfl).src (rfl) (by decide) (by decide) fun b34 H3 hp34 st => ?_
 refine ⟨trivial, ?_⟩
 refine aIxA rfl rfl (by omega) ?_
 refine ⟨?_, trivial⟩
 refine aSt (u := accV b34 0 1) (cs := qs.set n (accV b34 0 1)) st 1 rfl rfl rfl notTup_acc (by rw [cells_acc]; rfl) (by rw [Int.toNat_natCast]; omega) (by rw [Int.toNat_natCast, Nat.zero_add, Nat.mul_one, cells_acc]; show NfV (List.take n qs ++ [accV b34 0 1] ++ List.drop (n + 1) qs) _; rw [List.set_eq_take_append_cons_drop, if_pos (by omega)]; simp only [List.append_assoc, List.singleton_append]; exact .any _) fun H4 st => ?_
 refine ⟨trivial, ?_⟩
 refine zw ?_
 iterate 3 refine zm ?_
 refine sE ?_
 refine ⟨_, out2 zr zr ⟨rfl, rfl⟩, ?_⟩
 exact ⟨b34, rfl, st.sel [1, 0] (by decide)⟩
theorem now_call {H : Hp} {pg : Nat} (st0 : Stt [] H H [⟨some pg, false, zG⟩]) :
  ACalls Tryz.prog 28 [zP pg] H (fun v H' => v = .agg #[.bool true, .bool false, .bool false] ∧ Stt [] H H' []) := by
 refine acallsW Tryz.func28 f28_ok (Nat.le_of_ble_eq_true rfl) fun hw => ?_
 have st : Stt [] H H [] := Stt.start hw
 replace st := st0
 unfold f28c
 refine zw ?_
 refine zp st fun b2 H1 st => ?_
 refine zw ?_
 refine zm ?_
 refine zb (.bool false) ?_
 refine zf ?_
 refine zw ?_
 iterate 3 refine zm ?_
 refine aLdA st 1 rfl rfl (by first | decide | simp [*]) (by repeat constructor) ?_
 refine zx st 0 fun H2 st => ?_
 refine sE ?_
 refine ⟨_, out1 (zc st 0), ?_⟩
 exact ⟨rfl, st.drop⟩
theorem conflict_call {H : Hp} {tb : Nat} {n k : Int} (st0 : Stt [] H H [⟨some tb, false, zT⟩]) :
  ACalls Tryz.prog 26 [zP tb, .int .i64 n, .int .u8 k] H (fun v H' => v = .bool false ∧ Stt [] H H' []) := by
 refine acallsW Tryz.func26 f26_ok (Nat.le_of_ble_eq_true rfl) fun hw => ?_
 have st : Stt [] H H [] := Stt.start hw
 replace st := st0
 unfold f26c
 refine zw ?_
 refine zm ?_
 refine zw ?_
 refine zm ?_
 refine zb (.bool false) ?_
 refine zm ?_
 refine zg ?_
 refine zm ?_
 refine zg ?_
 refine zm ?_
 refine zg ?_
 refine zm ?_
 refine zg ?_
 refine zl st 0 ?_
 refine zg ?_
 refine zb (.bool true) ?_
 iterate 2 refine zm ?_
 iterate 2 refine zk ?_
 iterate 2 refine zm ?_
 iterate 3 refine zk ?_
 refine zm ?_
 show AW _ (.cond _ _ _) _ _ _
 refine cT rfl ?_
 refine zw ?_
 refine zm ?_
 refine sE ?_
 refine ⟨_, out1 zr, ?_⟩
 exact ⟨rfl, st.drop⟩
theorem class_1 {H : Hp}  :
  ACalls Tryz.prog 18 [.int .u8 1] H (fun v H' => v = .int .u8 1 ∧ Stt [] H H' []) := by
 refine acallsW Tryz.func18 f18_ok (Nat.le_of_ble_eq_true rfl) fun hw => ?_
 have st : Stt [] H H [] := Stt.start hw
 unfold f18c
 refine zw ?_
 refine zm ?_
 refine zw ?_
 refine zm ?_
 refine zw ?_
 refine zb (.bool true) ?_
 refine zm ?_
 show AW _ (.cond _ _ _) _ _ _
 refine cT rfl ?_
 show AW _ (.cond _ _ _) _ _ _
 refine cT rfl ?_
 refine zw ?_
 refine zm ?_
 refine sE ?_
 refine ⟨_, out1 zr, ?_⟩
 exact ⟨rfl, st.drop⟩
theorem class_7 {H : Hp}  :
  ACalls Tryz.prog 18 [.int .u8 7] H (fun v H' => v = .int .u8 1 ∧ Stt [] H H' []) := by
 refine acallsW Tryz.func18 f18_ok (Nat.le_of_ble_eq_true rfl) fun hw => ?_
 have st : Stt [] H H [] := Stt.start hw
 unfold f18c
 refine zw ?_
 refine zm ?_
 refine zw ?_
 refine zm ?_
 refine zw ?_
 refine zb (.bool false) ?_
 refine zm ?_
 refine zf ?_
 refine zw ?_
 refine zb (.bool true) ?_
 refine zm ?_
 show AW _ (.cond _ _ _) _ _ _
 refine cT rfl ?_
 show AW _ (.cond _ _ _) _ _ _
 refine cT rfl ?_
 refine zw ?_
 refine zm ?_
 refine sE ?_
 refine ⟨_, out1 zr, ?_⟩
 exact ⟨rfl, st.drop⟩
theorem class_8 {H : Hp}  :
  ACalls Tryz.prog 18 [.int .u8 8] H (fun v H' => v = .int .u8 2 ∧ Stt [] H H' []) := by
 refine acallsW Tryz.func18 f18_ok (Nat.le_of_ble_eq_true rfl) fun hw => ?_
 have st : Stt [] H H [] := Stt.start hw
 unfold f18c
 refine zw ?_
 refine zm ?_
 refine zw ?_
 refine zm ?_
 refine zw ?_
 refine zb (.bool false) ?_
 refine zm ?_
 refine zf ?_
 refine zw ?_
 refine zb (.bool false) ?_
 refine zm ?_
 refine zf ?_
 refine zw ?_
 refine zb (.bool false) ?_
 refine zm ?_
 refine zf ?_
 refine zw ?_
 refine zb (.bool false) ?_
 refine zm ?_
 refine zf ?_
 refine zw ?_
 refine zb (.bool true) ?_
 refine zm ?_
 show AW _ (.cond _ _ _) _ _ _
 refine cT rfl ?_
 show AW _ (.cond _ _ _) _ _ _
 refine cT rfl ?_
 refine zw ?_
 refine zm ?_
 refine sE ?_
 refine ⟨_, out1 zr, ?_⟩
 exact ⟨rfl, st.drop⟩
theorem class_18 {H : Hp}  :
  ACalls Tryz.prog 18 [.int .u8 18] H (fun v H' => v = .int .u8 2 ∧ Stt [] H H' []) := by
 refine acallsW Tryz.func18 f18_ok (Nat.le_of_ble_eq_true rfl) fun hw => ?_
 have st : Stt [] H H [] := Stt.start hw
 unfold f18c
 refine zw ?_
 refine zm ?_
 refine zw ?_
 refine zm ?_
 refine zw ?_
 refine zb (.bool false) ?_
 refine zm ?_
 refine zf ?_
 refine zw ?_
 refine zb (.bool false) ?_
 refine zm ?_
 refine zf ?_
 refine zw ?_
 refine zb (.bool false) ?_
 refine zm ?_
 refine zf ?_
 refine zw ?_
 refine zb (.bool false) ?_
 refine zm ?_
 refine zf ?_
 refine zw ?_
 refine zb (.bool false) ?_
 refine zm ?_
 refine zf ?_
 refine zw ?_
 refine zb (.bool false) ?_
 refine zm ?_
 refine zf ?_
 refine zw ?_
 refine zb (.bool false) ?_
 refine zm ?_
 refine zf ?_
 refine zw ?_
 refine zb (.bool false) ?_
 refine zm ?_
 refine zf ?_
 refine zw ?_
 refine zb (.bool false) ?_
 refine zm ?_
 refine zf ?_
 refine zw ?_
 refine zb (.bool false) ?_
 refine zm ?_
 refine zf ?_
 refine zw ?_
 refine zb (.bool false) ?_
 refine zm ?_
 refine zf ?_
 refine zw ?_
 refine zb (.bool true) ?_
 refine zm ?_
 show AW _ (.cond _ _ _) _ _ _
 refine cT rfl ?_
 refine zw ?_
 refine zm ?_
 refine sE ?_
 refine ⟨_, out1 zr, ?_⟩
 exact ⟨rfl, st.drop⟩
theorem alters_1 {H : Hp}  :
  ACalls Tryz.prog 27 [.int .u8 1] H (fun v H' => v = .bool false ∧ Stt [] H H' []) := by
 refine acallsW Tryz.func27 f27_ok (Nat.le_of_ble_eq_true rfl) fun hw => ?_
 have st : Stt [] H H [] := Stt.start hw
 unfold f27c
 refine zw ?_
 refine zm ?_
 refine zw ?_
 refine zm ?_
 refine zw ?_
 refine zb (.bool false) ?_
 refine zm ?_
 refine zf ?_
 refine zw ?_
 refine zb (.bool false) ?_
 refine zm ?_
 refine zf ?_
 refine zw ?_
 refine zb (.bool false) ?_
 refine zm ?_
 refine zf ?_
 refine zw ?_
 refine zb (.bool false) ?_
 refine zm ?_
 refine zf ?_
 refine zw ?_
 refine zb (.bool false) ?_
 refine zm ?_
 refine zf ?_
 refine zw ?_
 refine zm ?_
 refine sE ?_
 refine ⟨_, out1 zr, ?_⟩
 exact ⟨rfl, st.drop⟩
theorem alters_7 {H : Hp}  :
  ACalls Tryz.prog 27 [.int .u8 7] H (fun v H' => v = .bool false ∧ Stt [] H H' []) := by
 refine acallsW Tryz.func27 f27_ok (Nat.le_of_ble_eq_true rfl) fun hw => ?_
 have st : Stt [] H H [] := Stt.start hw
 unfold f27c
 refine zw ?_
 refine zm ?_
 refine zw ?_
 refine zm ?_
 refine zw ?_
 refine zb (.bool false) ?_
 refine zm ?_
 refine zf ?_
 refine zw ?_
 refine zb (.bool false) ?_
 refine zm ?_
 refine zf ?_
 refine zw ?_
 refine zb (.bool false) ?_
 refine zm ?_
 refine zf ?_
 refine zw ?_
 refine zb (.bool false) ?_
 refine zm ?_
 refine zf ?_
 refine zw ?_
 refine zb (.bool false) ?_
 refine zm ?_
 refine zf ?_
 refine zw ?_
 refine zm ?_
 refine sE ?_
 refine ⟨_, out1 zr, ?_⟩
 exact ⟨rfl, st.drop⟩
theorem alters_8 {H : Hp}  :
  ACalls Tryz.prog 27 [.int .u8 8] H (fun v H' => v = .bool true ∧ Stt [] H H' []) := by
 refine acallsW Tryz.func27 f27_ok (Nat.le_of_ble_eq_true rfl) fun hw => ?_
 have st : Stt [] H H [] := Stt.start hw
 unfold f27c
 refine zw ?_
 refine zm ?_
 refine zw ?_
 refine zm ?_
 refine zw ?_
 refine zb (.bool true) ?_
 refine zm ?_
 show AW _ (.cond _ _ _) _ _ _
 refine cT rfl ?_
 show AW _ (.cond _ _ _) _ _ _
 refine cT rfl ?_
 refine zw ?_
 refine zm ?_
 refine sE ?_
 refine ⟨_, out1 zr, ?_⟩
 exact ⟨rfl, st.drop⟩
theorem alters_18 {H : Hp}  :
  ACalls Tryz.prog 27 [.int .u8 18] H (fun v H' => v = .bool false ∧ Stt [] H H' []) := by
 refine acallsW Tryz.func27 f27_ok (Nat.le_of_ble_eq_true rfl) fun hw => ?_
 have st : Stt [] H H [] := Stt.start hw
 unfold f27c
 refine zw ?_
 refine zm ?_
 refine zw ?_
 refine zm ?_
 refine zw ?_
 refine zb (.bool false) ?_
 refine zm ?_
 refine zf ?_
 refine zw ?_
 refine zb (.bool false) ?_
 refine zm ?_
 refine zf ?_
 refine zw ?_
 refine zb (.bool false) ?_
 refine zm ?_
 refine zf ?_
 refine zw ?_
 refine zb (.bool false) ?_
 refine zm ?_
 refine zf ?_
 refine zw ?_
 refine zb (.bool false) ?_
 refine zm ?_
 refine zf ?_
 refine zw ?_
 refine zm ?_
 refine sE ?_
 refine ⟨_, out1 zr, ?_⟩
 exact ⟨rfl, st.drop⟩
theorem pcmd {xs : List Int} {op f b : Int} (hP : POdd xs f b) (h0 : xs.getD 0 0 = op) (hl : xs.length = (useL op).length) (hu : useL op ≠ []) (hn1 : 2 ≤ xs.length) (hno : ∀ i, i < xs.length → ∀ k, k < 8 → oddB xs (useL op) i k = false) (hs : serveB op (svOf xs) = true) (hF : ¬ (fillF (kindL op) xs.length xs).1 ≥ 0) : parseM xs f b = (fillC (kindL op) xs.length xs (svOf xs), sns0, true) := by
  subst h0
  have ht : xs.take (useL (xs.getD 0 0)).length = xs := by rw [← hl, List.take_length]
  have h4 : ¬ f ≥ 0 := by
    have := hP hu (by omega)
    rw [ht] at this
    rcases this with ⟨rfl, _⟩ | ⟨i, k, _, _, h1, h2, h3, _⟩
    · decide
    · rw [hno i h1 k h2] at h3; cases h3
  have := pm8 (f := f) (b := b) (by omega) (fun _ => by omega) hu (by omega) h4 hs (by rw [ht, ← hl]; exact hF)
  rw [this, ht, ← hl]
theorem odd_ff {xs ms : List Int} {i k : Nat} (h : ms.getD i 0 = 255) (hk : k < 8) : oddB xs ms i k = false := by
  unfold oddB
  rw [h, show (255 : Int).toNat.testBit k = true from (by decide : ∀ k, k < 8 → (255 : Int).toNat.testBit k = true) k hk]
  simp
theorem odd_0 {xs ms : List Int} {i k : Nat} (h : xs.getD i 0 = 0) : oddB xs ms i k = false := by
  unfold oddB
  rw [h]
  simp
theorem parse_0 {H : Hp} {x : Value} (hx : Sl H 1 6 ([0, 0, 0, 0, 0, 0].map (Value.int .u8)) x) : ACalls Tryz.prog 23 [x] H fun v H' => v = .tuple #[.agg #[.int .u8 1, .bool false, .int .u64 0, .int .u64 0, .int .i64 0, .bool false, .int .u8 0, .bool false, .bool false, .int .u8 0, .int .u8 0, .bool false, .int .u8 0, .int .u8 0, .bool false], .agg #[.int .u8 0, .int .u16 0, .int .u64 0, .bool false, .int .i64 0, .int .i64 0, .bool false, .bool false], .bool true] ∧ Stt [] H H' [] := by
  refine (parse_call (xs := [0, 0, 0, 0, 0, 0]) hx (by simp only [byteL_cons, byteL_nil, and_true]; decide) (by decide) (by decide)).mono fun v H' ⟨f, b, hv, st, hP⟩ => ⟨?_, st⟩
  rw [hv, pcmd (op := 0) hP rfl rfl (by decide) (by decide) (by decide) (by decide) (by decide)]
  rfl
theorem parse_136_0 {H : Hp} {l n : Int} {x : Value} (hx : Sl H 1 16 ([136, 0, 0, 0, 0, 0, 0, 0, 0, l, 0, 0, 0, n, 0, 0].map (Value.int .u8)) x) (h1 : 0 ≤ l ∧ l ≤ 255) (h2 : 0 ≤ n ∧ n ≤ 255) : ACalls Tryz.prog 23 [x] H fun v H' => v = .tuple #[.agg #[.int .u8 7, .bool false, .int .u64 l, .int .u64 n, .int .i64 0, .bool false, .int .u8 0, .bool false, .bool false, .int .u8 0, .int .u8 0, .bool false, .int .u8 0, .int .u8 0, .bool false], .agg #[.int .u8 0, .int .u16 0, .int .u64 0, .bool false, .int .i64 0, .int .i64 0, .bool false, .bool false], .bool true] ∧ Stt [] H H' [] := by
  have e1 : rgetV [136, 0, 0, 0, 0, 0, 0, 0, 0, l, 0, 0, 0, n, 0, 0] 2 8 = l := by
    rw [show rgetV [136, 0, 0, 0, 0, 0, 0, 0, 0, l, 0, 0, 0, n, 0, 0] 2 8 = rgetV [136, 0, 0, 0, 0, 0, 0, 0, 0, l, 0, 0, 0, n, 0, 0] ((2 : Nat) : Int) ((8 : Nat) : Int) from rfl, rgetV_in 2 8 (by omega) (by simp)]
    simp [beN]
  have e2 : rgetV [136, 0, 0, 0, 0, 0, 0, 0, 0, l, 0, 0, 0, n, 0, 0] 10 4 = n := by
    rw [show rgetV [136, 0, 0, 0, 0, 0, 0, 0, 0, l, 0, 0, 0, n, 0, 0] 10 4 = rgetV [136, 0, 0, 0, 0, 0, 0, 0, 0, l, 0, 0, 0, n, 0, 0] ((10 : Nat) : Int) ((4 : Nat) : Int) from rfl, rgetV_in 10 4 (by omega) (by simp)]
    simp [beN]
  refine (parse_call (xs := [136, 0, 0, 0, 0, 0, 0, 0, 0, l, 0, 0, 0, n, 0, 0]) hx (by simp only [byteL_cons, byteL_nil, and_true]; omega) (Nat.le_of_ble_eq_true rfl) (by show (136 : Int) ∈ codes; decide)).mono fun v H' ⟨f, b, hv, st, hP⟩ => ⟨?_, st⟩
  rw [hv, pcmd (op := 136) hP rfl rfl (by decide) (Nat.le_of_ble_eq_true rfl) (fun i hi k hk => match i, hi with
    | 0, _ => (by decide : ∀ k, k < 8 → ((136 : Int).toNat.testBit k && !(136 : Int).toNat.testBit k) = false) k hk
    | 1, _ => odd_0 rfl
    | 2, _ => odd_ff rfl hk
    | 3, _ => odd_ff rfl hk
    | 4, _ => odd_ff rfl hk
    | 5, _ => odd_ff rfl hk
    | 6, _ => odd_ff rfl hk
    | 7, _ => odd_ff rfl hk
    | 8, _ => odd_ff rfl hk
    | 9, _ => odd_ff rfl hk
    | 10, _ => odd_ff rfl hk
    | 11, _ => odd_ff rfl hk
    | 12, _ => odd_ff rfl hk
    | 13, _ => odd_ff rfl hk
    | 14, _ => odd_0 rfl
    | 15, _ => odd_0 rfl
    | i + 16, hi => by simp at hi; omega) rfl (by show ¬ (blocksF 7 16 [136, 0, 0, 0, 0, 0, 0, 0, 0, l, 0, 0, 0, n, 0, 0]).1 ≥ 0; unfold blocksF; rw [show (spanM 16 [136, 0, 0, 0, 0, 0, 0, 0, 0, l, 0, 0, 0, n, 0, 0]).2.1 = rgetV [136, 0, 0, 0, 0, 0, 0, 0, 0, l, 0, 0, 0, n, 0, 0] 10 4 from rfl, e2, if_neg (by omega)]; decide)]
  show Value.tuple #[.agg #[.int .u8 7, .bool false, .int .u64 (rgetV [136, 0, 0, 0, 0, 0, 0, 0, 0, l, 0, 0, 0, n, 0, 0] 2 8), .int .u64 (rgetV [136, 0, 0, 0, 0, 0, 0, 0, 0, l, 0, 0, 0, n, 0, 0] 10 4), .int .i64 0, .bool false, .int .u8 0, .bool false, .bool false, .int .u8 0, .int .u8 0, .bool false, .int .u8 0, .int .u8 0, .bool false], .agg #[.int .u8 0, .int .u16 0, .int .u64 0, .bool false, .int .i64 0, .int .i64 0, .bool false, .bool false], .bool true] = _
  rw [e1, e2]
theorem parse_138_0 {H : Hp} {l n : Int} {x : Value} (hx : Sl H 1 16 ([138, 0, 0, 0, 0, 0, 0, 0, 0, l, 0, 0, 0, n, 0, 0].map (Value.int .u8)) x) (h1 : 0 ≤ l ∧ l ≤ 255) (h2 : 0 ≤ n ∧ n ≤ 255) : ACalls Tryz.prog 23 [x] H fun v H' => v = .tuple #[.agg #[.int .u8 8, .bool false, .int .u64 l, .int .u64 n, .int .i64 0, .bool false, .int .u8 0, .bool false, .bool false, .int .u8 0, .int .u8 0, .bool false, .int .u8 0, .int .u8 0, .bool false], .agg #[.int .u8 0, .int .u16 0, .int .u64 0, .bool false, .int .i64 0, .int .i64 0, .bool false, .bool false], .bool true] ∧ Stt [] H H' [] := by
  have e1 : rgetV [138, 0, 0, 0, 0, 0, 0, 0, 0, l, 0, 0, 0, n, 0, 0] 2 8 = l := by
    rw [show rgetV [138, 0, 0, 0, 0, 0, 0, 0, 0, l, 0, 0, 0, n, 0, 0] 2 8 = rgetV [138, 0, 0, 0, 0, 0, 0, 0, 0, l, 0, 0, 0, n, 0, 0] ((2 : Nat) : Int) ((8 : Nat) : Int) from rfl, rgetV_in 2 8 (by omega) (by simp)]
    simp [beN]
  have e2 : rgetV [138, 0, 0, 0, 0, 0, 0, 0, 0, l, 0, 0, 0, n, 0, 0] 10 4 = n := by
    rw [show rgetV [138, 0, 0, 0, 0, 0, 0, 0, 0, l, 0, 0, 0, n, 0, 0] 10 4 = rgetV [138, 0, 0, 0, 0, 0, 0, 0, 0, l, 0, 0, 0, n, 0, 0] ((10 : Nat) : Int) ((4 : Nat) : Int) from rfl, rgetV_in 10 4 (by omega) (by simp)]
    simp [beN]
  refine (parse_call (xs := [138, 0, 0, 0, 0, 0, 0, 0, 0, l, 0, 0, 0, n, 0, 0]) hx (by simp only [byteL_cons, byteL_nil, and_true]; omega) (Nat.le_of_ble_eq_true rfl) (by show (138 : Int) ∈ codes; decide)).mono fun v H' ⟨f, b, hv, st, hP⟩ => ⟨?_, st⟩
  rw [hv, pcmd (op := 138) hP rfl rfl (by decide) (Nat.le_of_ble_eq_true rfl) (fun i hi k hk => match i, hi with
    | 0, _ => (by decide : ∀ k, k < 8 → ((138 : Int).toNat.testBit k && !(138 : Int).toNat.testBit k) = false) k hk
    | 1, _ => odd_0 rfl
    | 2, _ => odd_ff rfl hk
    | 3, _ => odd_ff rfl hk
    | 4, _ => odd_ff rfl hk
    | 5, _ => odd_ff rfl hk
    | 6, _ => odd_ff rfl hk
    | 7, _ => odd_ff rfl hk
    | 8, _ => odd_ff rfl hk
    | 9, _ => odd_ff rfl hk
    | 10, _ => odd_ff rfl hk
    | 11, _ => odd_ff rfl hk
    | 12, _ => odd_ff rfl hk
    | 13, _ => odd_ff rfl hk
    | 14, _ => odd_0 rfl
    | 15, _ => odd_0 rfl
    | i + 16, hi => by simp at hi; omega) rfl (by show ¬ (blocksF 8 16 [138, 0, 0, 0, 0, 0, 0, 0, 0, l, 0, 0, 0, n, 0, 0]).1 ≥ 0; unfold blocksF; rw [show (spanM 16 [138, 0, 0, 0, 0, 0, 0, 0, 0, l, 0, 0, 0, n, 0, 0]).2.1 = rgetV [138, 0, 0, 0, 0, 0, 0, 0, 0, l, 0, 0, 0, n, 0, 0] 10 4 from rfl, e2, if_neg (by omega)]; decide)]
  show Value.tuple #[.agg #[.int .u8 8, .bool false, .int .u64 (rgetV [138, 0, 0, 0, 0, 0, 0, 0, 0, l, 0, 0, 0, n, 0, 0] 2 8), .int .u64 (rgetV [138, 0, 0, 0, 0, 0, 0, 0, 0, l, 0, 0, 0, n, 0, 0] 10 4), .int .i64 0, .bool false, .int .u8 0, .bool false, .bool false, .int .u8 0, .int .u8 0, .bool false, .int .u8 0, .int .u8 0, .bool false], .agg #[.int .u8 0, .int .u16 0, .int .u64 0, .bool false, .int .i64 0, .int .i64 0, .bool false, .bool false], .bool true] = _
  rw [e1, e2]
theorem parse_131_0 {H : Hp} {l n : Int} {x : Value} (hx : Sl H 1 16 ([131, 0, 0, 0, 0, 0, 0, 0, 0, 0, 0, 0, 0, n, 0, 0].map (Value.int .u8)) x) (h1 : 0 ≤ l ∧ l ≤ 255) (h2 : 0 ≤ n ∧ n ≤ 255) : ACalls Tryz.prog 23 [x] H fun v H' => v = .tuple #[.agg #[.int .u8 18, .bool false, .int .u64 0, .int .u64 0, .int .i64 n, .bool false, .int .u8 0, .bool false, .bool false, .int .u8 0, .int .u8 0, .bool false, .int .u8 0, .int .u8 0, .bool false], .agg #[.int .u8 0, .int .u16 0, .int .u64 0, .bool false, .int .i64 0, .int .i64 0, .bool false, .bool false], .bool true] ∧ Stt [] H H' [] := by
  have e1 : rgetV [131, 0, 0, 0, 0, 0, 0, 0, 0, 0, 0, 0, 0, n, 0, 0] 2 8 = 0 := by
    rw [show rgetV [131, 0, 0, 0, 0, 0, 0, 0, 0, 0, 0, 0, 0, n, 0, 0] 2 8 = rgetV [131, 0, 0, 0, 0, 0, 0, 0, 0, 0, 0, 0, 0, n, 0, 0] ((2 : Nat) : Int) ((8 : Nat) : Int) from rfl, rgetV_in 2 8 (by omega) (by simp)]
    simp [beN]
  have e2 : rgetV [131, 0, 0, 0, 0, 0, 0, 0, 0, 0, 0, 0, 0, n, 0, 0] 10 4 = n := by
    rw [show rgetV [131, 0, 0, 0, 0, 0, 0, 0, 0, 0, 0, 0, 0, n, 0, 0] 10 4 = rgetV [131, 0, 0, 0, 0, 0, 0, 0, 0, 0, 0, 0, 0, n, 0, 0] ((10 : Nat) : Int) ((4 : Nat) : Int) from rfl, rgetV_in 10 4 (by omega) (by simp)]
    simp [beN]
  refine (parse_call (xs := [131, 0, 0, 0, 0, 0, 0, 0, 0, 0, 0, 0, 0, n, 0, 0]) hx (by simp only [byteL_cons, byteL_nil, and_true]; omega) (Nat.le_of_ble_eq_true rfl) (by show (131 : Int) ∈ codes; decide)).mono fun v H' ⟨f, b, hv, st, hP⟩ => ⟨?_, st⟩
  rw [hv, pcmd (op := 131) hP rfl rfl (by decide) (Nat.le_of_ble_eq_true rfl) (fun i hi k hk => match i, hi with
    | 0, _ => (by decide : ∀ k, k < 8 → ((131 : Int).toNat.testBit k && !(131 : Int).toNat.testBit k) = false) k hk
    | 1, _ => odd_0 rfl
    | 2, _ => odd_0 rfl
    | 3, _ => odd_0 rfl
    | 4, _ => odd_0 rfl
    | 5, _ => odd_0 rfl
    | 6, _ => odd_0 rfl
    | 7, _ => odd_0 rfl
    | 8, _ => odd_0 rfl
    | 9, _ => odd_0 rfl
    | 10, _ => odd_ff rfl hk
    | 11, _ => odd_ff rfl hk
    | 12, _ => odd_ff rfl hk
    | 13, _ => odd_ff rfl hk
    | 14, _ => odd_0 rfl
    | 15, _ => odd_0 rfl
    | i + 16, hi => by simp at hi; omega) rfl (show ¬ ((-1 : Int), (0 : Int)).1 ≥ 0 from by decide)]
  show Value.tuple #[.agg #[.int .u8 18, .bool false, .int .u64 0, .int .u64 0, .int .i64 (IntKind.i64.wrap (rgetV [131, 0, 0, 0, 0, 0, 0, 0, 0, 0, 0, 0, 0, n, 0, 0] 10 4)), .bool false, .int .u8 0, .bool false, .bool false, .int .u8 0, .int .u8 0, .bool false, .int .u8 0, .int .u8 0, .bool false], .agg #[.int .u8 0, .int .u16 0, .int .u64 0, .bool false, .int .i64 0, .int .i64 0, .bool false, .bool false], .bool true] = _
  rw [e2, wi _ (by omega)]

end Go.Proofs.YtjmjkdelkaflmaaGreatDoor.Abs
