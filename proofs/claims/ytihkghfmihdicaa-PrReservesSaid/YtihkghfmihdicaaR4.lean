/- PrReserves. -/
import Derived.Test.YtihkghfmihdicaaR0
set_option linter.unusedVariables false
set_option linter.unusedSimpArgs false
set_option maxRecDepth 100000
namespace Go.Proofs.Ytihkghfmihdicaa.Abs
open Go Go.RowKit
theorem reserves0_f {H : Hp} {m : Nat} {key : Int} (hm8 : m < 256) (hm : m % 6 = 0) :
    ACalls Try.prog 5 [.int .u8 (m : Int), .int .u64 key, .bool false] H (fun v _ => v = .bool true) := by
  refine acallsW Try.func5 f5_ok (Nat.le_of_ble_eq_true rfl) fun hw => ?_
  have st : Stt [] H H [] := Stt.start hw
  unfold f5c
  show AWl _ _ _ _ _
  refine aN rfl rfl (by constructor) ?_
  refine sE ?_
  show AWl _ _ _ _ _
  refine aC (awake_call) fun v28 H1 ⟨hv, st1⟩ => ?_
  subst hv
  replace st := st.call st1 rfl
  clear st1
  refine aN rfl rfl (by constructor) ?_
  refine sE ?_
  show AW _ (.cond _ _ _) _ _ _
  refine cF' rfl ?_
  show AWl _ _ _ _ _
  refine aLit st rfl (by repeat constructor) fun b30 H2 st => ?_
  refine aN rfl rfl (by constructor) ?_
  refine sE ?_
  show AWl _ _ _ _ _
  refine aN rfl rfl (by constructor) ?_
  refine aN rfl rfl (by constructor) ?_
  refine aN rfl rfl (by constructor) ?_
  refine aBinV (.int .i64 0) rfl rfl (by have h1 := remN (a := m) (n := 6) (by decide) hm8; rw [hm] at h1; exact h1) ?_
  refine aIxL rfl rfl (by decide) ?_
  refine aLd (v := .int .u8 1) st 0 rfl rfl rfl (by constructor) ?_
  refine aN rfl rfl (by constructor) ?_
  refine sE ?_
  show AWl _ _ _ _ _
  refine aN rfl rfl (by constructor) ?_
  refine aN rfl rfl (by constructor) ?_
  refine sE ?_
  show AW _ (.cond _ _ _) _ _ _
  refine cC' rfl (fun h3 => ?_) (fun h3 => ?_)
  · show AWl _ _ _ _ _
    refine aN rfl rfl (by constructor) ?_
    refine sE ?_
    refine ⟨_, out1 (r_tmp rfl (by constructor)), ?_⟩
    rfl
  · have hk : key ≠ 0 := by simpa using h3
    show AWl _ _ _ _ _
    refine aC (new_call) fun v39 H4 ⟨b39, hv, st1⟩ => ?_
    subst hv
    replace st := st.call st1 rfl
    clear st1
    have st := st.nil 30
    refine aN rfl rfl (by constructor) ?_
    refine sE ?_
    show AWl _ _ _ _ _
    refine aN rfl rfl (by constructor) ?_
    refine aN rfl rfl (by constructor) ?_
    refine aBld rfl (by repeat constructor) ?_
    replace st := st.sel [1, 0, 2] (by decide)
    refine aC (do_call (P := PT0) (n := 0) (o := ⟨0, 0, 0, key, false⟩) (st.get (j := 0) rfl) (st.got 1 rfl).1 (st.got 1 rfl).2 (show _ ≤ _ from (by show (0 : Nat) ≤ 400; decide)) (st.ne 1 0 rfl rfl (by decide))) fun v44 H5 ⟨o44, e44, hv, hc⟩ => ?_
    subst hv
    rw [show doM PT0 0 ⟨0, 0, 0, key, false⟩ = ⟨0, 0, [], (⟨[(0, key)], 1, 0, -1, false⟩ : PT)⟩ from by simp [doM, registerP, registerE, reserveM, releaseM, freeP, freeE, keyM, setM, inc32, w32, typeB, allB, holdsM, conflictM, reservedM, frM, PT0, hk]] at hc ⊢
    replace st := st.tabCall (kr' := ⟨true, 30, (((⟨[(0, key)], 1, 0, -1, false⟩ : PT)).regs).flatMap regE⟩) rfl (hc.imp (fun ⟨a, b, c⟩ => ⟨a, congrArg (fun l : List (Int × Int) => (⟨true, 30, l.flatMap regE⟩ : Blk)) b, c⟩) id)
    clear hc
    refine aN rfl rfl (by constructor) ?_
    refine aN rfl rfl (by constructor) ?_
    refine aN rfl rfl (by constructor) ?_
    refine aExtA rfl rfl ?_
    refine aN rfl rfl (by constructor) ?_
    refine aN rfl rfl (by constructor) ?_
    refine aMovA rfl ?_
    refine sE ?_
    show AWl _ _ _ _ _
    refine aN rfl rfl (by constructor) ?_
    refine sE ?_
    show AW _ (.cond _ _ _) _ _ _
    refine cF' rfl ?_
    show AWl _ _ _ _ _
    refine aN rfl rfl (by constructor) ?_
    refine aN rfl rfl (by constructor) ?_
    refine aN rfl rfl (by constructor) ?_
    refine aBldA rfl (by repeat constructor) ?_
    replace st := st.sel [0, 1, 2, 3] (by decide)
    refine aC (do_call (P := (⟨[(0, key)], 1, 0, -1, false⟩ : PT)) (n := 0) (o := ⟨1, 1, key, 0, false⟩) (st.get (j := 0) rfl) (st.got 1 rfl).1 (st.got 1 rfl).2 (show _ ≤ _ from (by show (1 : Nat) ≤ 400; decide)) (st.ne 1 0 rfl rfl (by decide))) fun v64 H6 ⟨o64, e64, hv, hc⟩ => ?_
    subst hv
    rw [show doM (⟨[(0, key)], 1, 0, -1, false⟩ : PT) 0 ⟨1, 1, key, 0, false⟩ = ⟨0, 0, [], (⟨[(0, key)], 1, 1, 0, false⟩ : PT)⟩ from by simp [doM, registerP, registerE, reserveM, releaseM, freeP, freeE, keyM, setM, inc32, w32, typeB, allB, holdsM, conflictM, reservedM, frM, PT0, hk]] at hc ⊢
    replace st := st.tabCall (kr' := ⟨true, 30, (((⟨[(0, key)], 1, 1, 0, false⟩ : PT)).regs).flatMap regE⟩) rfl (hc.imp (fun ⟨a, b, c⟩ => ⟨a, congrArg (fun l : List (Int × Int) => (⟨true, 30, l.flatMap regE⟩ : Blk)) b, c⟩) id)
    clear hc
    refine aN rfl rfl (by constructor) ?_
    refine aN rfl rfl (by constructor) ?_
    refine aN rfl rfl (by constructor) ?_
    refine aExtA rfl rfl ?_
    refine aN rfl rfl (by constructor) ?_
    refine aN rfl rfl (by constructor) ?_
    refine aMovA rfl ?_
    refine sE ?_
    show AWl _ _ _ _ _
    refine aN rfl rfl (by constructor) ?_
    refine aBinV (.bool false) rfl rfl rfl ?_
    refine aN rfl rfl (by constructor) ?_
    refine gT rfl ?_
    refine aN rfl rfl (by constructor) ?_
    refine gT rfl ?_
    refine aBinV (.bool false) rfl rfl rfl ?_
    refine aN rfl rfl (by constructor) ?_
    refine aN rfl rfl (by constructor) ?_
    refine gT rfl ?_
    refine aN rfl rfl (by constructor) ?_
    refine gT rfl ?_
    refine aC (holds_call (P := (⟨[(0, key)], 1, 1, 0, false⟩ : PT)) (n := 0) (st.get (j := 0) rfl) (st.rowAcc 1 rfl (by decide) (flat_len' regE_len _)) (show (1 : Nat) ≤ 1000 by decide)) fun v76 H7 ⟨hv, st1⟩ => ?_
    subst hv
    replace st := st.call st1 rfl
    clear st1
    rw [show holdsM (⟨[(0, key)], 1, 1, 0, false⟩ : PT) 0 = true by simp [doM, registerP, registerE, reserveM, releaseM, freeP, freeE, keyM, setM, inc32, w32, typeB, allB, holdsM, conflictM, reservedM, frM, PT0, hk]]
    refine gT rfl ?_
    refine aN rfl rfl (by constructor) ?_
    refine aN rfl rfl (by constructor) ?_
    refine aN rfl rfl (by constructor) ?_
    refine gT rfl ?_
    refine aN rfl rfl (by constructor) ?_
    refine gT rfl ?_
    refine aC (holds_call (P := (⟨[(0, key)], 1, 1, 0, false⟩ : PT)) (n := 1) (st.get (j := 0) rfl) (st.rowAcc 1 rfl (by decide) (flat_len' regE_len _)) (show (1 : Nat) ≤ 1000 by decide)) fun v81 H8 ⟨hv, st1⟩ => ?_
    subst hv
    replace st := st.call st1 rfl
    clear st1
    rw [show holdsM (⟨[(0, key)], 1, 1, 0, false⟩ : PT) 1 = false by simp [doM, registerP, registerE, reserveM, releaseM, freeP, freeE, keyM, setM, inc32, w32, typeB, allB, holdsM, conflictM, reservedM, frM, PT0, hk]]
    refine gT rfl ?_
    refine aN rfl rfl (by constructor) ?_
    refine gT rfl ?_
    refine aN rfl rfl (by constructor) ?_
    refine gF rfl (by decide) ?_
    refine gF rfl (by decide) ?_
    refine gT rfl ?_
    refine aN rfl rfl (by constructor) ?_
    refine gT rfl ?_
    refine aBinV (.bool false) rfl rfl rfl ?_
    refine aN rfl rfl (by constructor) ?_
    refine sE ?_
    show AW _ (.cond _ _ _) _ _ _
    refine cF' rfl ?_
    show AWl _ _ _ _ _
    refine aN rfl rfl (by constructor) ?_
    refine aC (conflict_call (P := (⟨[(0, key)], 1, 1, 0, false⟩ : PT)) (n := 1) (c := 1) (st.get (j := 0) rfl) (st.rowAcc 1 rfl (by decide) (flat_len' regE_len _)) (show (1 : Nat) ≤ 1000 by decide)) fun v90 H9 ⟨hv, st1⟩ => ?_
    subst hv
    replace st := st.call st1 rfl
    clear st1
    rw [show conflictM (⟨[(0, key)], 1, 1, 0, false⟩ : PT) 1 1 = false by simp [doM, registerP, registerE, reserveM, releaseM, freeP, freeE, keyM, setM, inc32, w32, typeB, allB, holdsM, conflictM, reservedM, frM, PT0, hk]]
    refine aN rfl rfl (by constructor) ?_
    refine sE ?_
    show AWl _ _ _ _ _
    refine aN rfl rfl (by constructor) ?_
    refine aC (conflict_call (P := (⟨[(0, key)], 1, 1, 0, false⟩ : PT)) (n := 1) (c := 2) (st.get (j := 0) rfl) (st.rowAcc 1 rfl (by decide) (flat_len' regE_len _)) (show (1 : Nat) ≤ 1000 by decide)) fun v92 H10 ⟨hv, st1⟩ => ?_
    subst hv
    replace st := st.call st1 rfl
    clear st1
    rw [show conflictM (⟨[(0, key)], 1, 1, 0, false⟩ : PT) 1 2 = true by simp [doM, registerP, registerE, reserveM, releaseM, freeP, freeE, keyM, setM, inc32, w32, typeB, allB, holdsM, conflictM, reservedM, frM, PT0, hk]]
    refine aN rfl rfl (by constructor) ?_
    refine sE ?_
    show AWl _ _ _ _ _
    refine aN rfl rfl (by constructor) ?_
    refine aN rfl rfl (by constructor) ?_
    refine gF rfl (by decide) ?_
    refine gF rfl (by decide) ?_
    refine aN rfl rfl (by constructor) ?_
    refine aN rfl rfl (by constructor) ?_
    refine sE ?_
    show AWl _ _ _ _ _
    refine aN rfl rfl (by constructor) ?_
    refine aN rfl rfl (by constructor) ?_
    refine aN rfl rfl (by constructor) ?_
    refine aBinV (.bool false) rfl rfl rfl ?_
    refine aN rfl rfl (by constructor) ?_
    refine gT rfl ?_
    refine aN rfl rfl (by constructor) ?_
    refine gT rfl ?_
    refine aN rfl rfl (by constructor) ?_
    refine gT rfl ?_
    refine aBinV (.bool false) rfl rfl rfl ?_
    refine gT rfl ?_
    refine aN rfl rfl (by constructor) ?_
    refine gT rfl ?_
    refine aN rfl rfl (by constructor) ?_
    refine gT rfl ?_
    refine aBinV (.bool false) rfl rfl rfl ?_
    refine gT rfl ?_
    refine aN rfl rfl (by constructor) ?_
    refine gT rfl ?_
    refine aN rfl rfl (by constructor) ?_
    refine gT rfl ?_
    refine aN rfl rfl (by constructor) ?_
    refine gT rfl ?_
    refine aBinV (.bool false) rfl rfl rfl ?_
    refine gT rfl ?_
    refine aN rfl rfl (by constructor) ?_
    refine gT rfl ?_
    refine aN rfl rfl (by constructor) ?_
    refine gF rfl (by decide) ?_
    refine gF rfl (by decide) ?_
    refine gT rfl ?_
    refine aN rfl rfl (by constructor) ?_
    refine gT rfl ?_
    refine aBinV (.bool false) rfl rfl rfl ?_
    refine aN rfl rfl (by constructor) ?_
    refine sE ?_
    show AW _ (.cond _ _ _) _ _ _
    refine cF' rfl ?_
    show AWl _ _ _ _ _
    refine aN rfl rfl (by constructor) ?_
    refine aN rfl rfl (by constructor) ?_
    refine aN rfl rfl (by constructor) ?_
    refine aBldA rfl (by repeat constructor) ?_
    replace st := st.sel [0, 1, 2, 3, 4] (by decide)
    refine aC (do_call (P := (⟨[(0, key)], 1, 1, 0, false⟩ : PT)) (n := 0) (o := ⟨2, 1, key, 0, false⟩) (st.get (j := 0) rfl) (st.got 1 rfl).1 (st.got 1 rfl).2 (show _ ≤ _ from (by show (1 : Nat) ≤ 400; decide)) (st.ne 1 0 rfl rfl (by decide))) fun v125 H11 ⟨o125, e125, hv, hc⟩ => ?_
    subst hv
    rw [show doM (⟨[(0, key)], 1, 1, 0, false⟩ : PT) 0 ⟨2, 1, key, 0, false⟩ = ⟨0, 0, [], (⟨[(0, key)], 1, 0, -1, false⟩ : PT)⟩ from by simp [doM, registerP, registerE, reserveM, releaseM, freeP, freeE, keyM, setM, inc32, w32, typeB, allB, holdsM, conflictM, reservedM, frM, PT0, hk]] at hc ⊢
    replace st := st.tabCall (kr' := ⟨true, 30, (((⟨[(0, key)], 1, 0, -1, false⟩ : PT)).regs).flatMap regE⟩) rfl (hc.imp (fun ⟨a, b, c⟩ => ⟨a, congrArg (fun l : List (Int × Int) => (⟨true, 30, l.flatMap regE⟩ : Blk)) b, c⟩) id)
    clear hc
    refine aN rfl rfl (by constructor) ?_
    refine aN rfl rfl (by constructor) ?_
    refine aN rfl rfl (by constructor) ?_
    refine aExtA rfl rfl ?_
    refine aN rfl rfl (by constructor) ?_
    refine aN rfl rfl (by constructor) ?_
    refine aMovA rfl ?_
    refine sE ?_
    show AWl _ _ _ _ _
    refine aN rfl rfl (by constructor) ?_
    refine sE ?_
    show AWl _ _ _ _ _
    refine aN rfl rfl (by constructor) ?_
    refine aN rfl rfl (by constructor) ?_
    refine gF rfl (by decide) ?_
    refine gF rfl (by decide) ?_
    refine aN rfl rfl (by constructor) ?_
    refine sE ?_
    show AW _ (.cond _ _ _) _ _ _
    refine cF' rfl ?_
    show AWl _ _ _ _ _
    refine aN rfl rfl (by constructor) ?_
    refine aC (reserved_call (P := (⟨[(0, key)], 1, 0, -1, false⟩ : PT)) (st.get (j := 0) rfl) (st.rowAcc 1 rfl (by decide) (flat_len' regE_len _)) (show (1 : Nat) ≤ 1000 by decide)) fun v136 H12 ⟨hv, st1⟩ => ?_
    subst hv
    replace st := st.call st1 rfl
    clear st1
    refine aN rfl rfl (by constructor) ?_
    refine aN rfl rfl (by constructor) ?_
    refine aN rfl rfl (by constructor) ?_
    refine aN rfl rfl (by constructor) ?_
    refine aN rfl rfl (by constructor) ?_
    refine sE ?_
    show AWl _ _ _ _ _
    refine aN rfl rfl (by constructor) ?_
    refine aBinV (.bool true) rfl rfl rfl ?_
    refine aN rfl rfl (by constructor) ?_
    refine gT rfl ?_
    refine aMovA rfl ?_
    refine gT rfl ?_
    refine aLen (st.rowAcc 2 rfl (by decide) (by exact flat_len' evE_len _)) rfl ?_
    refine gT rfl ?_
    refine aN rfl rfl (by constructor) ?_
    refine gT rfl ?_
    refine aBinV (.bool true) rfl rfl rfl ?_
    refine aN rfl rfl (by constructor) ?_
    refine aN rfl rfl (by constructor) ?_
    refine gT rfl ?_
    refine aN rfl rfl (by constructor) ?_
    refine gT rfl ?_
    refine aBinV (.bool true) rfl rfl rfl ?_
    refine aN rfl rfl (by constructor) ?_
    refine aN rfl rfl (by constructor) ?_
    refine gT rfl ?_
    refine aN rfl rfl (by constructor) ?_
    refine gT rfl ?_
    refine aC (conflict_call (P := (⟨[(0, key)], 1, 0, -1, false⟩ : PT)) (n := 1) (c := 2) (st.get (j := 0) rfl) (st.rowAcc 1 rfl (by decide) (flat_len' regE_len _)) (show (1 : Nat) ≤ 1000 by decide)) fun v153 H13 ⟨hv, st1⟩ => ?_
    subst hv
    replace st := st.call st1 rfl
    clear st1
    rw [show conflictM (⟨[(0, key)], 1, 0, -1, false⟩ : PT) 1 2 = false by simp [doM, registerP, registerE, reserveM, releaseM, freeP, freeE, keyM, setM, inc32, w32, typeB, allB, holdsM, conflictM, reservedM, frM, PT0, hk]]
    refine gT rfl ?_
    refine aN rfl rfl (by constructor) ?_
    refine aN rfl rfl (by constructor) ?_
    refine aN rfl rfl (by constructor) ?_
    refine sE ?_
    refine ⟨_, out1 (r_tmp rfl (by constructor)), ?_⟩
    rfl
theorem reserves0_t {H : Hp} {m : Nat} {key : Int} (hm8 : m < 256) (hm : m % 6 = 0) :
    ACalls Try.prog 5 [.int .u8 (m : Int), .int .u64 key, .bool true] H (fun v _ => v = .bool true) := by
  refine acallsW Try.func5 f5_ok (Nat.le_of_ble_eq_true rfl) fun hw => ?_
  have st : Stt [] H H [] := Stt.start hw
  unfold f5c
  show AWl _ _ _ _ _
  refine aN rfl rfl (by constructor) ?_
  refine sE ?_
  show AWl _ _ _ _ _
  refine aC (awake_call) fun v28 H1 ⟨hv, st1⟩ => ?_
  subst hv
  replace st := st.call st1 rfl
  clear st1
  refine aN rfl rfl (by constructor) ?_
  refine sE ?_
  show AW _ (.cond _ _ _) _ _ _
  refine cF' rfl ?_
  show AWl _ _ _ _ _
  refine aLit st rfl (by repeat constructor) fun b30 H2 st => ?_
  refine aN rfl rfl (by constructor) ?_
  refine sE ?_
  show AWl _ _ _ _ _
  refine aN rfl rfl (by constructor) ?_
  refine aN rfl rfl (by constructor) ?_
  refine aN rfl rfl (by constructor) ?_
  refine aBinV (.int .i64 0) rfl rfl (by have h1 := remN (a := m) (n := 6) (by decide) hm8; rw [hm] at h1; exact h1) ?_
  refine aIxL rfl rfl (by decide) ?_
  refine aLd (v := .int .u8 1) st 0 rfl rfl rfl (by constructor) ?_
  refine aN rfl rfl (by constructor) ?_
  refine sE ?_
  show AWl _ _ _ _ _
  refine aN rfl rfl (by constructor) ?_
  refine aN rfl rfl (by constructor) ?_
  refine sE ?_
  show AW _ (.cond _ _ _) _ _ _
  refine cC' rfl (fun h3 => ?_) (fun h3 => ?_)
  · show AWl _ _ _ _ _
    refine aN rfl rfl (by constructor) ?_
    refine sE ?_
    refine ⟨_, out1 (r_tmp rfl (by constructor)), ?_⟩
    rfl
  · have hk : key ≠ 0 := by simpa using h3
    show AWl _ _ _ _ _
    refine aC (new_call) fun v39 H4 ⟨b39, hv, st1⟩ => ?_
    subst hv
    replace st := st.call st1 rfl
    clear st1
    have st := st.nil 30
    refine aN rfl rfl (by constructor) ?_
    refine sE ?_
    show AWl _ _ _ _ _
    refine aN rfl rfl (by constructor) ?_
    refine aN rfl rfl (by constructor) ?_
    refine aBld rfl (by repeat constructor) ?_
    replace st := st.sel [1, 0, 2] (by decide)
    refine aC (do_call (P := PT0) (n := 0) (o := ⟨0, 0, 0, key, false⟩) (st.get (j := 0) rfl) (st.got 1 rfl).1 (st.got 1 rfl).2 (show _ ≤ _ from (by show (0 : Nat) ≤ 400; decide)) (st.ne 1 0 rfl rfl (by decide))) fun v44 H5 ⟨o44, e44, hv, hc⟩ => ?_
    subst hv
    rw [show doM PT0 0 ⟨0, 0, 0, key, false⟩ = ⟨0, 0, [], (⟨[(0, key)], 1, 0, -1, false⟩ : PT)⟩ from by simp [doM, registerP, registerE, reserveM, releaseM, freeP, freeE, keyM, setM, inc32, w32, typeB, allB, holdsM, conflictM, reservedM, frM, PT0, hk]] at hc ⊢
    replace st := st.tabCall (kr' := ⟨true, 30, (((⟨[(0, key)], 1, 0, -1, false⟩ : PT)).regs).flatMap regE⟩) rfl (hc.imp (fun ⟨a, b, c⟩ => ⟨a, congrArg (fun l : List (Int × Int) => (⟨true, 30, l.flatMap regE⟩ : Blk)) b, c⟩) id)
    clear hc
    refine aN rfl rfl (by constructor) ?_
    refine aN rfl rfl (by constructor) ?_
    refine aN rfl rfl (by constructor) ?_
    refine aExtA rfl rfl ?_
    refine aN rfl rfl (by constructor) ?_
    refine aN rfl rfl (by constructor) ?_
    refine aMovA rfl ?_
    refine sE ?_
    show AWl _ _ _ _ _
    refine aN rfl rfl (by constructor) ?_
    refine sE ?_
    show AW _ (.cond _ _ _) _ _ _
    refine cT rfl ?_
    show AWl _ _ _ _ _
    refine aN rfl rfl (by constructor) ?_
    refine aN rfl rfl (by constructor) ?_
    refine aBld rfl (by repeat constructor) ?_
    replace st := st.sel [0, 1, 2, 3] (by decide)
    refine aC (do_call (P := (⟨[(0, key)], 1, 0, -1, false⟩ : PT)) (n := 1) (o := ⟨6, 0, 0, key, false⟩) (st.get (j := 0) rfl) (st.got 1 rfl).1 (st.got 1 rfl).2 (show _ ≤ _ from (by show (1 : Nat) ≤ 400; decide)) (st.ne 1 0 rfl rfl (by decide))) fun v53 H6 ⟨o53, e53, hv, hc⟩ => ?_
    subst hv
    rw [show doM (⟨[(0, key)], 1, 0, -1, false⟩ : PT) 1 ⟨6, 0, 0, key, false⟩ = ⟨0, 0, [], (⟨[(0, key), (1, key)], 2, 0, -1, false⟩ : PT)⟩ from by simp [doM, registerP, registerE, reserveM, releaseM, freeP, freeE, keyM, setM, inc32, w32, typeB, allB, holdsM, conflictM, reservedM, frM, PT0, hk]] at hc ⊢
    replace st := st.tabCall (kr' := ⟨true, 30, (((⟨[(0, key), (1, key)], 2, 0, -1, false⟩ : PT)).regs).flatMap regE⟩) rfl (hc.imp (fun ⟨a, b, c⟩ => ⟨a, congrArg (fun l : List (Int × Int) => (⟨true, 30, l.flatMap regE⟩ : Blk)) b, c⟩) id)
    clear hc
    refine aN rfl rfl (by constructor) ?_
    refine aN rfl rfl (by constructor) ?_
    refine aN rfl rfl (by constructor) ?_
    refine aExtA rfl rfl ?_
    refine aN rfl rfl (by constructor) ?_
    refine aN rfl rfl (by constructor) ?_
    refine aMovA rfl ?_
    refine sE ?_
    show AWl _ _ _ _ _
    refine aN rfl rfl (by constructor) ?_
    refine aBinV (.bool false) rfl rfl rfl ?_
    refine sE ?_
    show AW _ (.cond _ _ _) _ _ _
    refine cF' rfl ?_
    show AWl _ _ _ _ _
    refine aN rfl rfl (by constructor) ?_
    refine aN rfl rfl (by constructor) ?_
    refine aN rfl rfl (by constructor) ?_
    refine aBldA rfl (by repeat constructor) ?_
    replace st := st.sel [0, 1, 2, 3, 4] (by decide)
    refine aC (do_call (P := (⟨[(0, key), (1, key)], 2, 0, -1, false⟩ : PT)) (n := 0) (o := ⟨1, 1, key, 0, false⟩) (st.get (j := 0) rfl) (st.got 1 rfl).1 (st.got 1 rfl).2 (show _ ≤ _ from (by show (2 : Nat) ≤ 400; decide)) (st.ne 1 0 rfl rfl (by decide))) fun v64 H7 ⟨o64, e64, hv, hc⟩ => ?_
    subst hv
    rw [show doM (⟨[(0, key), (1, key)], 2, 0, -1, false⟩ : PT) 0 ⟨1, 1, key, 0, false⟩ = ⟨0, 0, [], (⟨[(0, key), (1, key)], 2, 1, 0, false⟩ : PT)⟩ from by simp [doM, registerP, registerE, reserveM, releaseM, freeP, freeE, keyM, setM, inc32, w32, typeB, allB, holdsM, conflictM, reservedM, frM, PT0, hk]] at hc ⊢
    replace st := st.tabCall (kr' := ⟨true, 30, (((⟨[(0, key), (1, key)], 2, 1, 0, false⟩ : PT)).regs).flatMap regE⟩) rfl (hc.imp (fun ⟨a, b, c⟩ => ⟨a, congrArg (fun l : List (Int × Int) => (⟨true, 30, l.flatMap regE⟩ : Blk)) b, c⟩) id)
    clear hc
    refine aN rfl rfl (by constructor) ?_
    refine aN rfl rfl (by constructor) ?_
    refine aN rfl rfl (by constructor) ?_
    refine aExtA rfl rfl ?_
    refine aN rfl rfl (by constructor) ?_
    refine aN rfl rfl (by constructor) ?_
    refine aMovA rfl ?_
    refine sE ?_
    show AWl _ _ _ _ _
    refine aN rfl rfl (by constructor) ?_
    refine aBinV (.bool false) rfl rfl rfl ?_
    refine aN rfl rfl (by constructor) ?_
    refine gT rfl ?_
    refine aN rfl rfl (by constructor) ?_
    refine gT rfl ?_
    refine aBinV (.bool false) rfl rfl rfl ?_
    refine aN rfl rfl (by constructor) ?_
    refine aN rfl rfl (by constructor) ?_
    refine gT rfl ?_
    refine aN rfl rfl (by constructor) ?_
    refine gT rfl ?_
    refine aC (holds_call (P := (⟨[(0, key), (1, key)], 2, 1, 0, false⟩ : PT)) (n := 0) (st.get (j := 0) rfl) (st.rowAcc 1 rfl (by decide) (flat_len' regE_len _)) (show (2 : Nat) ≤ 1000 by decide)) fun v76 H8 ⟨hv, st1⟩ => ?_
    subst hv
    replace st := st.call st1 rfl
    clear st1
    rw [show holdsM (⟨[(0, key), (1, key)], 2, 1, 0, false⟩ : PT) 0 = true by simp [doM, registerP, registerE, reserveM, releaseM, freeP, freeE, keyM, setM, inc32, w32, typeB, allB, holdsM, conflictM, reservedM, frM, PT0, hk]]
    refine gT rfl ?_
    refine aN rfl rfl (by constructor) ?_
    refine aN rfl rfl (by constructor) ?_
    refine aN rfl rfl (by constructor) ?_
    refine gT rfl ?_
    refine aN rfl rfl (by constructor) ?_
    refine gT rfl ?_
    refine aC (holds_call (P := (⟨[(0, key), (1, key)], 2, 1, 0, false⟩ : PT)) (n := 1) (st.get (j := 0) rfl) (st.rowAcc 1 rfl (by decide) (flat_len' regE_len _)) (show (2 : Nat) ≤ 1000 by decide)) fun v81 H9 ⟨hv, st1⟩ => ?_
    subst hv
    replace st := st.call st1 rfl
    clear st1
    rw [show holdsM (⟨[(0, key), (1, key)], 2, 1, 0, false⟩ : PT) 1 = false by simp [doM, registerP, registerE, reserveM, releaseM, freeP, freeE, keyM, setM, inc32, w32, typeB, allB, holdsM, conflictM, reservedM, frM, PT0, hk]]
    refine gT rfl ?_
    refine aN rfl rfl (by constructor) ?_
    refine gT rfl ?_
    refine aN rfl rfl (by constructor) ?_
    refine gT rfl ?_
    refine aN rfl rfl (by constructor) ?_
    refine gT rfl ?_
    refine aC (all_call) fun v85 H10 ⟨hv, st1⟩ => ?_
    subst hv
    replace st := st.call st1 rfl
    clear st1
    refine gT rfl ?_
    refine aN rfl rfl (by constructor) ?_
    refine gT rfl ?_
    refine aBinV (.bool false) rfl rfl rfl ?_
    refine aN rfl rfl (by constructor) ?_
    refine sE ?_
    show AW _ (.cond _ _ _) _ _ _
    refine cF' rfl ?_
    show AWl _ _ _ _ _
    refine aN rfl rfl (by constructor) ?_
    refine aC (conflict_call (P := (⟨[(0, key), (1, key)], 2, 1, 0, false⟩ : PT)) (n := 1) (c := 1) (st.get (j := 0) rfl) (st.rowAcc 1 rfl (by decide) (flat_len' regE_len _)) (show (2 : Nat) ≤ 1000 by decide)) fun v90 H11 ⟨hv, st1⟩ => ?_
    subst hv
    replace st := st.call st1 rfl
    clear st1
    rw [show conflictM (⟨[(0, key), (1, key)], 2, 1, 0, false⟩ : PT) 1 1 = false by simp [doM, registerP, registerE, reserveM, releaseM, freeP, freeE, keyM, setM, inc32, w32, typeB, allB, holdsM, conflictM, reservedM, frM, PT0, hk]]
    refine aN rfl rfl (by constructor) ?_
    refine sE ?_
    show AWl _ _ _ _ _
    refine aN rfl rfl (by constructor) ?_
    refine aC (conflict_call (P := (⟨[(0, key), (1, key)], 2, 1, 0, false⟩ : PT)) (n := 1) (c := 2) (st.get (j := 0) rfl) (st.rowAcc 1 rfl (by decide) (flat_len' regE_len _)) (show (2 : Nat) ≤ 1000 by decide)) fun v92 H12 ⟨hv, st1⟩ => ?_
    subst hv
    replace st := st.call st1 rfl
    clear st1
    rw [show conflictM (⟨[(0, key), (1, key)], 2, 1, 0, false⟩ : PT) 1 2 = true by simp [doM, registerP, registerE, reserveM, releaseM, freeP, freeE, keyM, setM, inc32, w32, typeB, allB, holdsM, conflictM, reservedM, frM, PT0, hk]]
    refine aN rfl rfl (by constructor) ?_
    refine sE ?_
    show AWl _ _ _ _ _
    refine aN rfl rfl (by constructor) ?_
    refine aN rfl rfl (by constructor) ?_
    refine gT rfl ?_
    refine aN rfl rfl (by constructor) ?_
    refine gT rfl ?_
    refine aBinV (.bool false) rfl rfl rfl ?_
    refine aN rfl rfl (by constructor) ?_
    refine aN rfl rfl (by constructor) ?_
    refine sE ?_
    show AWl _ _ _ _ _
    refine aN rfl rfl (by constructor) ?_
    refine aN rfl rfl (by constructor) ?_
    refine aN rfl rfl (by constructor) ?_
    refine aBinV (.bool false) rfl rfl rfl ?_
    refine aN rfl rfl (by constructor) ?_
    refine gT rfl ?_
    refine aN rfl rfl (by constructor) ?_
    refine gT rfl ?_
    refine aN rfl rfl (by constructor) ?_
    refine gT rfl ?_
    refine aBinV (.bool false) rfl rfl rfl ?_
    refine gT rfl ?_
    refine aN rfl rfl (by constructor) ?_
    refine gT rfl ?_
    refine aN rfl rfl (by constructor) ?_
    refine gT rfl ?_
    refine aBinV (.bool false) rfl rfl rfl ?_
    refine gT rfl ?_
    refine aN rfl rfl (by constructor) ?_
    refine gT rfl ?_
    refine aN rfl rfl (by constructor) ?_
    refine gT rfl ?_
    refine aN rfl rfl (by constructor) ?_
    refine gT rfl ?_
    refine aBinV (.bool false) rfl rfl rfl ?_
    refine gT rfl ?_
    refine aN rfl rfl (by constructor) ?_
    refine gT rfl ?_
    refine aN rfl rfl (by constructor) ?_
    refine gF rfl (by decide) ?_
    refine gF rfl (by decide) ?_
    refine gT rfl ?_
    refine aN rfl rfl (by constructor) ?_
    refine gT rfl ?_
    refine aBinV (.bool false) rfl rfl rfl ?_
    refine aN rfl rfl (by constructor) ?_
    refine sE ?_
    show AW _ (.cond _ _ _) _ _ _
    refine cF' rfl ?_
    show AWl _ _ _ _ _
    refine aN rfl rfl (by constructor) ?_
    refine aN rfl rfl (by constructor) ?_
    refine aN rfl rfl (by constructor) ?_
    refine aBldA rfl (by repeat constructor) ?_
    replace st := st.sel [0, 1, 2, 3, 4, 5] (by decide)
    refine aC (do_call (P := (⟨[(0, key), (1, key)], 2, 1, 0, false⟩ : PT)) (n := 0) (o := ⟨2, 1, key, 0, false⟩) (st.get (j := 0) rfl) (st.got 1 rfl).1 (st.got 1 rfl).2 (show _ ≤ _ from (by show (2 : Nat) ≤ 400; decide)) (st.ne 1 0 rfl rfl (by decide))) fun v125 H13 ⟨o125, e125, hv, hc⟩ => ?_
    subst hv
    rw [show doM (⟨[(0, key), (1, key)], 2, 1, 0, false⟩ : PT) 0 ⟨2, 1, key, 0, false⟩ = ⟨0, 0, [], (⟨[(0, key), (1, key)], 2, 0, -1, false⟩ : PT)⟩ from by simp [doM, registerP, registerE, reserveM, releaseM, freeP, freeE, keyM, setM, inc32, w32, typeB, allB, holdsM, conflictM, reservedM, frM, PT0, hk]] at hc ⊢
    replace st := st.tabCall (kr' := ⟨true, 30, (((⟨[(0, key), (1, key)], 2, 0, -1, false⟩ : PT)).regs).flatMap regE⟩) rfl (hc.imp (fun ⟨a, b, c⟩ => ⟨a, congrArg (fun l : List (Int × Int) => (⟨true, 30, l.flatMap regE⟩ : Blk)) b, c⟩) id)
    clear hc
    refine aN rfl rfl (by constructor) ?_
    refine aN rfl rfl (by constructor) ?_
    refine aN rfl rfl (by constructor) ?_
    refine aExtA rfl rfl ?_
    refine aN rfl rfl (by constructor) ?_
    refine aN rfl rfl (by constructor) ?_
    refine aMovA rfl ?_
    refine sE ?_
    show AWl _ _ _ _ _
    refine aN rfl rfl (by constructor) ?_
    refine sE ?_
    show AWl _ _ _ _ _
    refine aN rfl rfl (by constructor) ?_
    refine aN rfl rfl (by constructor) ?_
    refine gT rfl ?_
    refine aN rfl rfl (by constructor) ?_
    refine gT rfl ?_
    refine aBinV (.bool false) rfl rfl rfl ?_
    refine aN rfl rfl (by constructor) ?_
    refine sE ?_
    show AW _ (.cond _ _ _) _ _ _
    refine cF' rfl ?_
    show AWl _ _ _ _ _
    refine aN rfl rfl (by constructor) ?_
    refine aC (reserved_call (P := (⟨[(0, key), (1, key)], 2, 0, -1, false⟩ : PT)) (st.get (j := 0) rfl) (st.rowAcc 1 rfl (by decide) (flat_len' regE_len _)) (show (2 : Nat) ≤ 1000 by decide)) fun v136 H14 ⟨hv, st1⟩ => ?_
    subst hv
    replace st := st.call st1 rfl
    clear st1
    refine aN rfl rfl (by constructor) ?_
    refine aN rfl rfl (by constructor) ?_
    refine aN rfl rfl (by constructor) ?_
    refine aN rfl rfl (by constructor) ?_
    refine aN rfl rfl (by constructor) ?_
    refine sE ?_
    show AWl _ _ _ _ _
    refine aN rfl rfl (by constructor) ?_
    refine aBinV (.bool true) rfl rfl rfl ?_
    refine aN rfl rfl (by constructor) ?_
    refine gT rfl ?_
    refine aMovA rfl ?_
    refine gT rfl ?_
    refine aLen (st.rowAcc 2 rfl (by decide) (by exact flat_len' evE_len _)) rfl ?_
    refine gT rfl ?_
    refine aN rfl rfl (by constructor) ?_
    refine gT rfl ?_
    refine aBinV (.bool true) rfl rfl rfl ?_
    refine aN rfl rfl (by constructor) ?_
    refine aN rfl rfl (by constructor) ?_
    refine gT rfl ?_
    refine aN rfl rfl (by constructor) ?_
    refine gT rfl ?_
    refine aBinV (.bool true) rfl rfl rfl ?_
    refine aN rfl rfl (by constructor) ?_
    refine aN rfl rfl (by constructor) ?_
    refine gT rfl ?_
    refine aN rfl rfl (by constructor) ?_
    refine gT rfl ?_
    refine aC (conflict_call (P := (⟨[(0, key), (1, key)], 2, 0, -1, false⟩ : PT)) (n := 1) (c := 2) (st.get (j := 0) rfl) (st.rowAcc 1 rfl (by decide) (flat_len' regE_len _)) (show (2 : Nat) ≤ 1000 by decide)) fun v153 H15 ⟨hv, st1⟩ => ?_
    subst hv
    replace st := st.call st1 rfl
    clear st1
    rw [show conflictM (⟨[(0, key), (1, key)], 2, 0, -1, false⟩ : PT) 1 2 = false by simp [doM, registerP, registerE, reserveM, releaseM, freeP, freeE, keyM, setM, inc32, w32, typeB, allB, holdsM, conflictM, reservedM, frM, PT0, hk]]
    refine gT rfl ?_
    refine aN rfl rfl (by constructor) ?_
    refine aN rfl rfl (by constructor) ?_
    refine aN rfl rfl (by constructor) ?_
    refine sE ?_
    refine ⟨_, out1 (r_tmp rfl (by constructor)), ?_⟩
    rfl
theorem reserves1_f {H : Hp} {m : Nat} {key : Int} (hm8 : m < 256) (hm : m % 6 = 1) :
    ACalls Try.prog 5 [.int .u8 (m : Int), .int .u64 key, .bool false] H (fun v _ => v = .bool true) := by
  refine acallsW Try.func5 f5_ok (Nat.le_of_ble_eq_true rfl) fun hw => ?_
  have st : Stt [] H H [] := Stt.start hw
  unfold f5c
  show AWl _ _ _ _ _
  refine aN rfl rfl (by constructor) ?_
  refine sE ?_
  show AWl _ _ _ _ _
  refine aC (awake_call) fun v28 H1 ⟨hv, st1⟩ => ?_
  subst hv
  replace st := st.call st1 rfl
  clear st1
  refine aN rfl rfl (by constructor) ?_
  refine sE ?_
  show AW _ (.cond _ _ _) _ _ _
  refine cF' rfl ?_
  show AWl _ _ _ _ _
  refine aLit st rfl (by repeat constructor) fun b30 H2 st => ?_
  refine aN rfl rfl (by constructor) ?_
  refine sE ?_
  show AWl _ _ _ _ _
  refine aN rfl rfl (by constructor) ?_
  refine aN rfl rfl (by constructor) ?_
  refine aN rfl rfl (by constructor) ?_
  refine aBinV (.int .i64 1) rfl rfl (by have h1 := remN (a := m) (n := 6) (by decide) hm8; rw [hm] at h1; exact h1) ?_
  refine aIxL rfl rfl (by decide) ?_
  refine aLd (v := .int .u8 3) st 0 rfl rfl rfl (by constructor) ?_
  refine aN rfl rfl (by constructor) ?_
  refine sE ?_
  show AWl _ _ _ _ _
  refine aN rfl rfl (by constructor) ?_
  refine aN rfl rfl (by constructor) ?_
  refine sE ?_
  show AW _ (.cond _ _ _) _ _ _
  refine cC' rfl (fun h3 => ?_) (fun h3 => ?_)
  · show AWl _ _ _ _ _
    refine aN rfl rfl (by constructor) ?_
    refine sE ?_
    refine ⟨_, out1 (r_tmp rfl (by constructor)), ?_⟩
    rfl
  · have hk : key ≠ 0 := by simpa using h3
    show AWl _ _ _ _ _
    refine aC (new_call) fun v39 H4 ⟨b39, hv, st1⟩ => ?_
    subst hv
    replace st := st.call st1 rfl
    clear st1
    have st := st.nil 30
    refine aN rfl rfl (by constructor) ?_
    refine sE ?_
    show AWl _ _ _ _ _
    refine aN rfl rfl (by constructor) ?_
    refine aN rfl rfl (by constructor) ?_
    refine aBld rfl (by repeat constructor) ?_
    replace st := st.sel [1, 0, 2] (by decide)
    refine aC (do_call (P := PT0) (n := 0) (o := ⟨0, 0, 0, key, false⟩) (st.get (j := 0) rfl) (st.got 1 rfl).1 (st.got 1 rfl).2 (show _ ≤ _ from (by show (0 : Nat) ≤ 400; decide)) (st.ne 1 0 rfl rfl (by decide))) fun v44 H5 ⟨o44, e44, hv, hc⟩ => ?_
    subst hv
    rw [show doM PT0 0 ⟨0, 0, 0, key, false⟩ = ⟨0, 0, [], (⟨[(0, key)], 1, 0, -1, false⟩ : PT)⟩ from by simp [doM, registerP, registerE, reserveM, releaseM, freeP, freeE, keyM, setM, inc32, w32, typeB, allB, holdsM, conflictM, reservedM, frM, PT0, hk]] at hc ⊢
    replace st := st.tabCall (kr' := ⟨true, 30, (((⟨[(0, key)], 1, 0, -1, false⟩ : PT)).regs).flatMap regE⟩) rfl (hc.imp (fun ⟨a, b, c⟩ => ⟨a, congrArg (fun l : List (Int × Int) => (⟨true, 30, l.flatMap regE⟩ : Blk)) b, c⟩) id)
    clear hc
    refine aN rfl rfl (by constructor) ?_
    refine aN rfl rfl (by constructor) ?_
    refine aN rfl rfl (by constructor) ?_
    refine aExtA rfl rfl ?_
    refine aN rfl rfl (by constructor) ?_
    refine aN rfl rfl (by constructor) ?_
    refine aMovA rfl ?_
    refine sE ?_
    show AWl _ _ _ _ _
    refine aN rfl rfl (by constructor) ?_
    refine sE ?_
    show AW _ (.cond _ _ _) _ _ _
    refine cF' rfl ?_
    show AWl _ _ _ _ _
    refine aN rfl rfl (by constructor) ?_
    refine aN rfl rfl (by constructor) ?_
    refine aN rfl rfl (by constructor) ?_
    refine aBldA rfl (by repeat constructor) ?_
    replace st := st.sel [0, 1, 2, 3] (by decide)
    refine aC (do_call (P := (⟨[(0, key)], 1, 0, -1, false⟩ : PT)) (n := 0) (o := ⟨1, 3, key, 0, false⟩) (st.get (j := 0) rfl) (st.got 1 rfl).1 (st.got 1 rfl).2 (show _ ≤ _ from (by show (1 : Nat) ≤ 400; decide)) (st.ne 1 0 rfl rfl (by decide))) fun v64 H6 ⟨o64, e64, hv, hc⟩ => ?_
    subst hv
    rw [show doM (⟨[(0, key)], 1, 0, -1, false⟩ : PT) 0 ⟨1, 3, key, 0, false⟩ = ⟨0, 0, [], (⟨[(0, key)], 1, 3, 0, false⟩ : PT)⟩ from by simp [doM, registerP, registerE, reserveM, releaseM, freeP, freeE, keyM, setM, inc32, w32, typeB, allB, holdsM, conflictM, reservedM, frM, PT0, hk]] at hc ⊢
    replace st := st.tabCall (kr' := ⟨true, 30, (((⟨[(0, key)], 1, 3, 0, false⟩ : PT)).regs).flatMap regE⟩) rfl (hc.imp (fun ⟨a, b, c⟩ => ⟨a, congrArg (fun l : List (Int × Int) => (⟨true, 30, l.flatMap regE⟩ : Blk)) b, c⟩) id)
    clear hc
    refine aN rfl rfl (by constructor) ?_
    refine aN rfl rfl (by constructor) ?_
    refine aN rfl rfl (by constructor) ?_
    refine aExtA rfl rfl ?_
    refine aN rfl rfl (by constructor) ?_
    refine aN rfl rfl (by constructor) ?_
    refine aMovA rfl ?_
    refine sE ?_
    show AWl _ _ _ _ _
    refine aN rfl rfl (by constructor) ?_
    refine aBinV (.bool false) rfl rfl rfl ?_
    refine aN rfl rfl (by constructor) ?_
    refine gT rfl ?_
    refine aN rfl rfl (by constructor) ?_
    refine gT rfl ?_
    refine aBinV (.bool false) rfl rfl rfl ?_
    refine aN rfl rfl (by constructor) ?_
    refine aN rfl rfl (by constructor) ?_
    refine gT rfl ?_
    refine aN rfl rfl (by constructor) ?_
    refine gT rfl ?_
    refine aC (holds_call (P := (⟨[(0, key)], 1, 3, 0, false⟩ : PT)) (n := 0) (st.get (j := 0) rfl) (st.rowAcc 1 rfl (by decide) (flat_len' regE_len _)) (show (1 : Nat) ≤ 1000 by decide)) fun v76 H7 ⟨hv, st1⟩ => ?_
    subst hv
    replace st := st.call st1 rfl
    clear st1
    rw [show holdsM (⟨[(0, key)], 1, 3, 0, false⟩ : PT) 0 = true by simp [doM, registerP, registerE, reserveM, releaseM, freeP, freeE, keyM, setM, inc32, w32, typeB, allB, holdsM, conflictM, reservedM, frM, PT0, hk]]
    refine gT rfl ?_
    refine aN rfl rfl (by constructor) ?_
    refine aN rfl rfl (by constructor) ?_
    refine aN rfl rfl (by constructor) ?_
    refine gT rfl ?_
    refine aN rfl rfl (by constructor) ?_
    refine gT rfl ?_
    refine aC (holds_call (P := (⟨[(0, key)], 1, 3, 0, false⟩ : PT)) (n := 1) (st.get (j := 0) rfl) (st.rowAcc 1 rfl (by decide) (flat_len' regE_len _)) (show (1 : Nat) ≤ 1000 by decide)) fun v81 H8 ⟨hv, st1⟩ => ?_
    subst hv
    replace st := st.call st1 rfl
    clear st1
    rw [show holdsM (⟨[(0, key)], 1, 3, 0, false⟩ : PT) 1 = false by simp [doM, registerP, registerE, reserveM, releaseM, freeP, freeE, keyM, setM, inc32, w32, typeB, allB, holdsM, conflictM, reservedM, frM, PT0, hk]]
    refine gT rfl ?_
    refine aN rfl rfl (by constructor) ?_
    refine gT rfl ?_
    refine aN rfl rfl (by constructor) ?_
    refine gF rfl (by decide) ?_
    refine gF rfl (by decide) ?_
    refine gT rfl ?_
    refine aN rfl rfl (by constructor) ?_
    refine gT rfl ?_
    refine aBinV (.bool false) rfl rfl rfl ?_
    refine aN rfl rfl (by constructor) ?_
    refine sE ?_
    show AW _ (.cond _ _ _) _ _ _
    refine cF' rfl ?_
    show AWl _ _ _ _ _
    refine aN rfl rfl (by constructor) ?_
    refine aC (conflict_call (P := (⟨[(0, key)], 1, 3, 0, false⟩ : PT)) (n := 1) (c := 1) (st.get (j := 0) rfl) (st.rowAcc 1 rfl (by decide) (flat_len' regE_len _)) (show (1 : Nat) ≤ 1000 by decide)) fun v90 H9 ⟨hv, st1⟩ => ?_
    subst hv
    replace st := st.call st1 rfl
    clear st1
    rw [show conflictM (⟨[(0, key)], 1, 3, 0, false⟩ : PT) 1 1 = true by simp [doM, registerP, registerE, reserveM, releaseM, freeP, freeE, keyM, setM, inc32, w32, typeB, allB, holdsM, conflictM, reservedM, frM, PT0, hk]]
    refine aN rfl rfl (by constructor) ?_
    refine sE ?_
    show AWl _ _ _ _ _
    refine aN rfl rfl (by constructor) ?_
    refine aC (conflict_call (P := (⟨[(0, key)], 1, 3, 0, false⟩ : PT)) (n := 1) (c := 2) (st.get (j := 0) rfl) (st.rowAcc 1 rfl (by decide) (flat_len' regE_len _)) (show (1 : Nat) ≤ 1000 by decide)) fun v92 H10 ⟨hv, st1⟩ => ?_
    subst hv
    replace st := st.call st1 rfl
    clear st1
    rw [show conflictM (⟨[(0, key)], 1, 3, 0, false⟩ : PT) 1 2 = true by simp [doM, registerP, registerE, reserveM, releaseM, freeP, freeE, keyM, setM, inc32, w32, typeB, allB, holdsM, conflictM, reservedM, frM, PT0, hk]]
    refine aN rfl rfl (by constructor) ?_
    refine sE ?_
    show AWl _ _ _ _ _
    refine aN rfl rfl (by constructor) ?_
    refine aN rfl rfl (by constructor) ?_
    refine gF rfl (by decide) ?_
    refine gF rfl (by decide) ?_
    refine aN rfl rfl (by constructor) ?_
    refine aN rfl rfl (by constructor) ?_
    refine sE ?_
    show AWl _ _ _ _ _
    refine aN rfl rfl (by constructor) ?_
    refine aN rfl rfl (by constructor) ?_
    refine aN rfl rfl (by constructor) ?_
    refine aBinV (.bool false) rfl rfl rfl ?_
    refine aN rfl rfl (by constructor) ?_
    refine gT rfl ?_
    refine aN rfl rfl (by constructor) ?_
    refine gT rfl ?_
    refine aN rfl rfl (by constructor) ?_
    refine gT rfl ?_
    refine aBinV (.bool true) rfl rfl rfl ?_
    refine gT rfl ?_
    refine aN rfl rfl (by constructor) ?_
    refine gF rfl (by decide) ?_
    refine gF rfl (by decide) ?_
    refine gT rfl ?_
    refine aN rfl rfl (by constructor) ?_
    refine gT rfl ?_
    refine aN rfl rfl (by constructor) ?_
    refine gF rfl (by decide) ?_
    refine gF rfl (by decide) ?_
    refine gT rfl ?_
    refine aN rfl rfl (by constructor) ?_
    refine gT rfl ?_
    refine aN rfl rfl (by constructor) ?_
    refine gT rfl ?_
    refine aN rfl rfl (by constructor) ?_
    refine gT rfl ?_
    refine aN rfl rfl (by constructor) ?_
    refine gT rfl ?_
    refine aN rfl rfl (by constructor) ?_
    refine gT rfl ?_
    refine aBinV (.bool false) rfl rfl rfl ?_
    refine aN rfl rfl (by constructor) ?_
    refine sE ?_
    show AW _ (.cond _ _ _) _ _ _
    refine cF' rfl ?_
    show AWl _ _ _ _ _
    refine aN rfl rfl (by constructor) ?_
    refine aN rfl rfl (by constructor) ?_
    refine aN rfl rfl (by constructor) ?_
    refine aBldA rfl (by repeat constructor) ?_
    replace st := st.sel [0, 1, 2, 3, 4] (by decide)
    refine aC (do_call (P := (⟨[(0, key)], 1, 3, 0, false⟩ : PT)) (n := 0) (o := ⟨2, 3, key, 0, false⟩) (st.get (j := 0) rfl) (st.got 1 rfl).1 (st.got 1 rfl).2 (show _ ≤ _ from (by show (1 : Nat) ≤ 400; decide)) (st.ne 1 0 rfl rfl (by decide))) fun v125 H11 ⟨o125, e125, hv, hc⟩ => ?_
    subst hv
    rw [show doM (⟨[(0, key)], 1, 3, 0, false⟩ : PT) 0 ⟨2, 3, key, 0, false⟩ = ⟨0, 0, [], (⟨[(0, key)], 1, 0, -1, false⟩ : PT)⟩ from by simp [doM, registerP, registerE, reserveM, releaseM, freeP, freeE, keyM, setM, inc32, w32, typeB, allB, holdsM, conflictM, reservedM, frM, PT0, hk]] at hc ⊢
    replace st := st.tabCall (kr' := ⟨true, 30, (((⟨[(0, key)], 1, 0, -1, false⟩ : PT)).regs).flatMap regE⟩) rfl (hc.imp (fun ⟨a, b, c⟩ => ⟨a, congrArg (fun l : List (Int × Int) => (⟨true, 30, l.flatMap regE⟩ : Blk)) b, c⟩) id)
    clear hc
    refine aN rfl rfl (by constructor) ?_
    refine aN rfl rfl (by constructor) ?_
    refine aN rfl rfl (by constructor) ?_
    refine aExtA rfl rfl ?_
    refine aN rfl rfl (by constructor) ?_
    refine aN rfl rfl (by constructor) ?_
    refine aMovA rfl ?_
    refine sE ?_
    show AWl _ _ _ _ _
    refine aN rfl rfl (by constructor) ?_
    refine sE ?_
    show AWl _ _ _ _ _
    refine aN rfl rfl (by constructor) ?_
    refine aN rfl rfl (by constructor) ?_
    refine gF rfl (by decide) ?_
    refine gF rfl (by decide) ?_
    refine aN rfl rfl (by constructor) ?_
    refine sE ?_
    show AW _ (.cond _ _ _) _ _ _
    refine cF' rfl ?_
    show AWl _ _ _ _ _
    refine aN rfl rfl (by constructor) ?_
    refine aC (reserved_call (P := (⟨[(0, key)], 1, 0, -1, false⟩ : PT)) (st.get (j := 0) rfl) (st.rowAcc 1 rfl (by decide) (flat_len' regE_len _)) (show (1 : Nat) ≤ 1000 by decide)) fun v136 H12 ⟨hv, st1⟩ => ?_
    subst hv
    replace st := st.call st1 rfl
    clear st1
    refine aN rfl rfl (by constructor) ?_
    refine aN rfl rfl (by constructor) ?_
    refine aN rfl rfl (by constructor) ?_
    refine aN rfl rfl (by constructor) ?_
    refine aN rfl rfl (by constructor) ?_
    refine sE ?_
    show AWl _ _ _ _ _
    refine aN rfl rfl (by constructor) ?_
    refine aBinV (.bool true) rfl rfl rfl ?_
    refine aN rfl rfl (by constructor) ?_
    refine gT rfl ?_
    refine aMovA rfl ?_
    refine gT rfl ?_
    refine aLen (st.rowAcc 2 rfl (by decide) (by exact flat_len' evE_len _)) rfl ?_
    refine gT rfl ?_
    refine aN rfl rfl (by constructor) ?_
    refine gT rfl ?_
    refine aBinV (.bool true) rfl rfl rfl ?_
    refine aN rfl rfl (by constructor) ?_
    refine aN rfl rfl (by constructor) ?_
    refine gT rfl ?_
    refine aN rfl rfl (by constructor) ?_
    refine gT rfl ?_
    refine aBinV (.bool true) rfl rfl rfl ?_
    refine aN rfl rfl (by constructor) ?_
    refine aN rfl rfl (by constructor) ?_
    refine gT rfl ?_
    refine aN rfl rfl (by constructor) ?_
    refine gT rfl ?_
    refine aC (conflict_call (P := (⟨[(0, key)], 1, 0, -1, false⟩ : PT)) (n := 1) (c := 2) (st.get (j := 0) rfl) (st.rowAcc 1 rfl (by decide) (flat_len' regE_len _)) (show (1 : Nat) ≤ 1000 by decide)) fun v153 H13 ⟨hv, st1⟩ => ?_
    subst hv
    replace st := st.call st1 rfl
    clear st1
    rw [show conflictM (⟨[(0, key)], 1, 0, -1, false⟩ : PT) 1 2 = false by simp [doM, registerP, registerE, reserveM, releaseM, freeP, freeE, keyM, setM, inc32, w32, typeB, allB, holdsM, conflictM, reservedM, frM, PT0, hk]]
    refine gT rfl ?_
    refine aN rfl rfl (by constructor) ?_
    refine aN rfl rfl (by constructor) ?_
    refine aN rfl rfl (by constructor) ?_
    refine sE ?_
    refine ⟨_, out1 (r_tmp rfl (by constructor)), ?_⟩
    rfl
theorem reserves1_t {H : Hp} {m : Nat} {key : Int} (hm8 : m < 256) (hm : m % 6 = 1) :
    ACalls Try.prog 5 [.int .u8 (m : Int), .int .u64 key, .bool true] H (fun v _ => v = .bool true) := by
  refine acallsW Try.func5 f5_ok (Nat.le_of_ble_eq_true rfl) fun hw => ?_
  have st : Stt [] H H [] := Stt.start hw
  unfold f5c
  show AWl _ _ _ _ _
  refine aN rfl rfl (by constructor) ?_
  refine sE ?_
  show AWl _ _ _ _ _
  refine aC (awake_call) fun v28 H1 ⟨hv, st1⟩ => ?_
  subst hv
  replace st := st.call st1 rfl
  clear st1
  refine aN rfl rfl (by constructor) ?_
  refine sE ?_
  show AW _ (.cond _ _ _) _ _ _
  refine cF' rfl ?_
  show AWl _ _ _ _ _
  refine aLit st rfl (by repeat constructor) fun b30 H2 st => ?_
  refine aN rfl rfl (by constructor) ?_
  refine sE ?_
  show AWl _ _ _ _ _
  refine aN rfl rfl (by constructor) ?_
  refine aN rfl rfl (by constructor) ?_
  refine aN rfl rfl (by constructor) ?_
  refine aBinV (.int .i64 1) rfl rfl (by have h1 := remN (a := m) (n := 6) (by decide) hm8; rw [hm] at h1; exact h1) ?_
  refine aIxL rfl rfl (by decide) ?_
  refine aLd (v := .int .u8 3) st 0 rfl rfl rfl (by constructor) ?_
  refine aN rfl rfl (by constructor) ?_
  refine sE ?_
  show AWl _ _ _ _ _
  refine aN rfl rfl (by constructor) ?_
  refine aN rfl rfl (by constructor) ?_
  refine sE ?_
  show AW _ (.cond _ _ _) _ _ _
  refine cC' rfl (fun h3 => ?_) (fun h3 => ?_)
  · show AWl _ _ _ _ _
    refine aN rfl rfl (by constructor) ?_
    refine sE ?_
    refine ⟨_, out1 (r_tmp rfl (by constructor)), ?_⟩
    rfl
  · have hk : key ≠ 0 := by simpa using h3
    show AWl _ _ _ _ _
    refine aC (new_call) fun v39 H4 ⟨b39, hv, st1⟩ => ?_
    subst hv
    replace st := st.call st1 rfl
    clear st1
    have st := st.nil 30
    refine aN rfl rfl (by constructor) ?_
    refine sE ?_
    show AWl _ _ _ _ _
    refine aN rfl rfl (by constructor) ?_
    refine aN rfl rfl (by constructor) ?_
    refine aBld rfl (by repeat constructor) ?_
    replace st := st.sel [1, 0, 2] (by decide)
    refine aC (do_call (P := PT0) (n := 0) (o := ⟨0, 0, 0, key, false⟩) (st.get (j := 0) rfl) (st.got 1 rfl).1 (st.got 1 rfl).2 (show _ ≤ _ from (by show (0 : Nat) ≤ 400; decide)) (st.ne 1 0 rfl rfl (by decide))) fun v44 H5 ⟨o44, e44, hv, hc⟩ => ?_
    subst hv
    rw [show doM PT0 0 ⟨0, 0, 0, key, false⟩ = ⟨0, 0, [], (⟨[(0, key)], 1, 0, -1, false⟩ : PT)⟩ from by simp [doM, registerP, registerE, reserveM, releaseM, freeP, freeE, keyM, setM, inc32, w32, typeB, allB, holdsM, conflictM, reservedM, frM, PT0, hk]] at hc ⊢
    replace st := st.tabCall (kr' := ⟨true, 30, (((⟨[(0, key)], 1, 0, -1, false⟩ : PT)).regs).flatMap regE⟩) rfl (hc.imp (fun ⟨a, b, c⟩ => ⟨a, congrArg (fun l : List (Int × Int) => (⟨true, 30, l.flatMap regE⟩ : Blk)) b, c⟩) id)
    clear hc
    refine aN rfl rfl (by constructor) ?_
    refine aN rfl rfl (by constructor) ?_
    refine aN rfl rfl (by constructor) ?_
    refine aExtA rfl rfl ?_
    refine aN rfl rfl (by constructor) ?_
    refine aN rfl rfl (by constructor) ?_
    refine aMovA rfl ?_
    refine sE ?_
    show AWl _ _ _ _ _
    refine aN rfl rfl (by constructor) ?_
    refine sE ?_
    show AW _ (.cond _ _ _) _ _ _
    refine cT rfl ?_
    show AWl _ _ _ _ _
    refine aN rfl rfl (by constructor) ?_
    refine aN rfl rfl (by constructor) ?_
    refine aBld rfl (by repeat constructor) ?_
    replace st := st.sel [0, 1, 2, 3] (by decide)
    refine aC (do_call (P := (⟨[(0, key)], 1, 0, -1, false⟩ : PT)) (n := 1) (o := ⟨6, 0, 0, key, false⟩) (st.get (j := 0) rfl) (st.got 1 rfl).1 (st.got 1 rfl).2 (show _ ≤ _ from (by show (1 : Nat) ≤ 400; decide)) (st.ne 1 0 rfl rfl (by decide))) fun v53 H6 ⟨o53, e53, hv, hc⟩ => ?_
    subst hv
    rw [show doM (⟨[(0, key)], 1, 0, -1, false⟩ : PT) 1 ⟨6, 0, 0, key, false⟩ = ⟨0, 0, [], (⟨[(0, key), (1, key)], 2, 0, -1, false⟩ : PT)⟩ from by simp [doM, registerP, registerE, reserveM, releaseM, freeP, freeE, keyM, setM, inc32, w32, typeB, allB, holdsM, conflictM, reservedM, frM, PT0, hk]] at hc ⊢
    replace st := st.tabCall (kr' := ⟨true, 30, (((⟨[(0, key), (1, key)], 2, 0, -1, false⟩ : PT)).regs).flatMap regE⟩) rfl (hc.imp (fun ⟨a, b, c⟩ => ⟨a, congrArg (fun l : List (Int × Int) => (⟨true, 30, l.flatMap regE⟩ : Blk)) b, c⟩) id)
    clear hc
    refine aN rfl rfl (by constructor) ?_
    refine aN rfl rfl (by constructor) ?_
    refine aN rfl rfl (by constructor) ?_
    refine aExtA rfl rfl ?_
    refine aN rfl rfl (by constructor) ?_
    refine aN rfl rfl (by constructor) ?_
    refine aMovA rfl ?_
    refine sE ?_
    show AWl _ _ _ _ _
    refine aN rfl rfl (by constructor) ?_
    refine aBinV (.bool false) rfl rfl rfl ?_
    refine sE ?_
    show AW _ (.cond _ _ _) _ _ _
    refine cF' rfl ?_
    show AWl _ _ _ _ _
    refine aN rfl rfl (by constructor) ?_
    refine aN rfl rfl (by constructor) ?_
    refine aN rfl rfl (by constructor) ?_
    refine aBldA rfl (by repeat constructor) ?_
    replace st := st.sel [0, 1, 2, 3, 4] (by decide)
    refine aC (do_call (P := (⟨[(0, key), (1, key)], 2, 0, -1, false⟩ : PT)) (n := 0) (o := ⟨1, 3, key, 0, false⟩) (st.get (j := 0) rfl) (st.got 1 rfl).1 (st.got 1 rfl).2 (show _ ≤ _ from (by show (2 : Nat) ≤ 400; decide)) (st.ne 1 0 rfl rfl (by decide))) fun v64 H7 ⟨o64, e64, hv, hc⟩ => ?_
    subst hv
    rw [show doM (⟨[(0, key), (1, key)], 2, 0, -1, false⟩ : PT) 0 ⟨1, 3, key, 0, false⟩ = ⟨0, 0, [], (⟨[(0, key), (1, key)], 2, 3, 0, false⟩ : PT)⟩ from by simp [doM, registerP, registerE, reserveM, releaseM, freeP, freeE, keyM, setM, inc32, w32, typeB, allB, holdsM, conflictM, reservedM, frM, PT0, hk]] at hc ⊢
    replace st := st.tabCall (kr' := ⟨true, 30, (((⟨[(0, key), (1, key)], 2, 3, 0, false⟩ : PT)).regs).flatMap regE⟩) rfl (hc.imp (fun ⟨a, b, c⟩ => ⟨a, congrArg (fun l : List (Int × Int) => (⟨true, 30, l.flatMap regE⟩ : Blk)) b, c⟩) id)
    clear hc
    refine aN rfl rfl (by constructor) ?_
    refine aN rfl rfl (by constructor) ?_
    refine aN rfl rfl (by constructor) ?_
    refine aExtA rfl rfl ?_
    refine aN rfl rfl (by constructor) ?_
    refine aN rfl rfl (by constructor) ?_
    refine aMovA rfl ?_
    refine sE ?_
    show AWl _ _ _ _ _
    refine aN rfl rfl (by constructor) ?_
    refine aBinV (.bool false) rfl rfl rfl ?_
    refine aN rfl rfl (by constructor) ?_
    refine gT rfl ?_
    refine aN rfl rfl (by constructor) ?_
    refine gT rfl ?_
    refine aBinV (.bool false) rfl rfl rfl ?_
    refine aN rfl rfl (by constructor) ?_
    refine aN rfl rfl (by constructor) ?_
    refine gT rfl ?_
    refine aN rfl rfl (by constructor) ?_
    refine gT rfl ?_
    refine aC (holds_call (P := (⟨[(0, key), (1, key)], 2, 3, 0, false⟩ : PT)) (n := 0) (st.get (j := 0) rfl) (st.rowAcc 1 rfl (by decide) (flat_len' regE_len _)) (show (2 : Nat) ≤ 1000 by decide)) fun v76 H8 ⟨hv, st1⟩ => ?_
    subst hv
    replace st := st.call st1 rfl
    clear st1
    rw [show holdsM (⟨[(0, key), (1, key)], 2, 3, 0, false⟩ : PT) 0 = true by simp [doM, registerP, registerE, reserveM, releaseM, freeP, freeE, keyM, setM, inc32, w32, typeB, allB, holdsM, conflictM, reservedM, frM, PT0, hk]]
    refine gT rfl ?_
    refine aN rfl rfl (by constructor) ?_
    refine aN rfl rfl (by constructor) ?_
    refine aN rfl rfl (by constructor) ?_
    refine gT rfl ?_
    refine aN rfl rfl (by constructor) ?_
    refine gT rfl ?_
    refine aC (holds_call (P := (⟨[(0, key), (1, key)], 2, 3, 0, false⟩ : PT)) (n := 1) (st.get (j := 0) rfl) (st.rowAcc 1 rfl (by decide) (flat_len' regE_len _)) (show (2 : Nat) ≤ 1000 by decide)) fun v81 H9 ⟨hv, st1⟩ => ?_
    subst hv
    replace st := st.call st1 rfl
    clear st1
    rw [show holdsM (⟨[(0, key), (1, key)], 2, 3, 0, false⟩ : PT) 1 = false by simp [doM, registerP, registerE, reserveM, releaseM, freeP, freeE, keyM, setM, inc32, w32, typeB, allB, holdsM, conflictM, reservedM, frM, PT0, hk]]
    refine gT rfl ?_
    refine aN rfl rfl (by constructor) ?_
    refine gT rfl ?_
    refine aN rfl rfl (by constructor) ?_
    refine gT rfl ?_
    refine aN rfl rfl (by constructor) ?_
    refine gT rfl ?_
    refine aC (all_call) fun v85 H10 ⟨hv, st1⟩ => ?_
    subst hv
    replace st := st.call st1 rfl
    clear st1
    refine gT rfl ?_
    refine aN rfl rfl (by constructor) ?_
    refine gT rfl ?_
    refine aBinV (.bool false) rfl rfl rfl ?_
    refine aN rfl rfl (by constructor) ?_
    refine sE ?_
    show AW _ (.cond _ _ _) _ _ _
    refine cF' rfl ?_
    show AWl _ _ _ _ _
    refine aN rfl rfl (by constructor) ?_
    refine aC (conflict_call (P := (⟨[(0, key), (1, key)], 2, 3, 0, false⟩ : PT)) (n := 1) (c := 1) (st.get (j := 0) rfl) (st.rowAcc 1 rfl (by decide) (flat_len' regE_len _)) (show (2 : Nat) ≤ 1000 by decide)) fun v90 H11 ⟨hv, st1⟩ => ?_
    subst hv
    replace st := st.call st1 rfl
    clear st1
    rw [show conflictM (⟨[(0, key), (1, key)], 2, 3, 0, false⟩ : PT) 1 1 = true by simp [doM, registerP, registerE, reserveM, releaseM, freeP, freeE, keyM, setM, inc32, w32, typeB, allB, holdsM, conflictM, reservedM, frM, PT0, hk]]
    refine aN rfl rfl (by constructor) ?_
    refine sE ?_
    show AWl _ _ _ _ _
    refine aN rfl rfl (by constructor) ?_
    refine aC (conflict_call (P := (⟨[(0, key), (1, key)], 2, 3, 0, false⟩ : PT)) (n := 1) (c := 2) (st.get (j := 0) rfl) (st.rowAcc 1 rfl (by decide) (flat_len' regE_len _)) (show (2 : Nat) ≤ 1000 by decide)) fun v92 H12 ⟨hv, st1⟩ => ?_
    subst hv
    replace st := st.call st1 rfl
    clear st1
    rw [show conflictM (⟨[(0, key), (1, key)], 2, 3, 0, false⟩ : PT) 1 2 = true by simp [doM, registerP, registerE, reserveM, releaseM, freeP, freeE, keyM, setM, inc32, w32, typeB, allB, holdsM, conflictM, reservedM, frM, PT0, hk]]
    refine aN rfl rfl (by constructor) ?_
    refine sE ?_
    show AWl _ _ _ _ _
    refine aN rfl rfl (by constructor) ?_
    refine aN rfl rfl (by constructor) ?_
    refine gT rfl ?_
    refine aN rfl rfl (by constructor) ?_
    refine gT rfl ?_
    refine aBinV (.bool false) rfl rfl rfl ?_
    refine aN rfl rfl (by constructor) ?_
    refine aN rfl rfl (by constructor) ?_
    refine sE ?_
    show AWl _ _ _ _ _
    refine aN rfl rfl (by constructor) ?_
    refine aN rfl rfl (by constructor) ?_
    refine aN rfl rfl (by constructor) ?_
    refine aBinV (.bool false) rfl rfl rfl ?_
    refine aN rfl rfl (by constructor) ?_
    refine gT rfl ?_
    refine aN rfl rfl (by constructor) ?_
    refine gT rfl ?_
    refine aN rfl rfl (by constructor) ?_
    refine gT rfl ?_
    refine aBinV (.bool true) rfl rfl rfl ?_
    refine gT rfl ?_
    refine aN rfl rfl (by constructor) ?_
    refine gF rfl (by decide) ?_
    refine gF rfl (by decide) ?_
    refine gT rfl ?_
    refine aN rfl rfl (by constructor) ?_
    refine gT rfl ?_
    refine aN rfl rfl (by constructor) ?_
    refine gF rfl (by decide) ?_
    refine gF rfl (by decide) ?_
    refine gT rfl ?_
    refine aN rfl rfl (by constructor) ?_
    refine gT rfl ?_
    refine aN rfl rfl (by constructor) ?_
    refine gT rfl ?_
    refine aN rfl rfl (by constructor) ?_
    refine gT rfl ?_
    refine aN rfl rfl (by constructor) ?_
    refine gT rfl ?_
    refine aN rfl rfl (by constructor) ?_
    refine gT rfl ?_
    refine aBinV (.bool false) rfl rfl rfl ?_
    refine aN rfl rfl (by constructor) ?_
    refine sE ?_
    show AW _ (.cond _ _ _) _ _ _
    refine cF' rfl ?_
    show AWl _ _ _ _ _
    refine aN rfl rfl (by constructor) ?_
    refine aN rfl rfl (by constructor) ?_
    refine aN rfl rfl (by constructor) ?_
    refine aBldA rfl (by repeat constructor) ?_
    replace st := st.sel [0, 1, 2, 3, 4, 5] (by decide)
    refine aC (do_call (P := (⟨[(0, key), (1, key)], 2, 3, 0, false⟩ : PT)) (n := 0) (o := ⟨2, 3, key, 0, false⟩) (st.get (j := 0) rfl) (st.got 1 rfl).1 (st.got 1 rfl).2 (show _ ≤ _ from (by show (2 : Nat) ≤ 400; decide)) (st.ne 1 0 rfl rfl (by decide))) fun v125 H13 ⟨o125, e125, hv, hc⟩ => ?_
    subst hv
    rw [show doM (⟨[(0, key), (1, key)], 2, 3, 0, false⟩ : PT) 0 ⟨2, 3, key, 0, false⟩ = ⟨0, 0, [], (⟨[(0, key), (1, key)], 2, 0, -1, false⟩ : PT)⟩ from by simp [doM, registerP, registerE, reserveM, releaseM, freeP, freeE, keyM, setM, inc32, w32, typeB, allB, holdsM, conflictM, reservedM, frM, PT0, hk]] at hc ⊢
    replace st := st.tabCall (kr' := ⟨true, 30, (((⟨[(0, key), (1, key)], 2, 0, -1, false⟩ : PT)).regs).flatMap regE⟩) rfl (hc.imp (fun ⟨a, b, c⟩ => ⟨a, congrArg (fun l : List (Int × Int) => (⟨true, 30, l.flatMap regE⟩ : Blk)) b, c⟩) id)
    clear hc
    refine aN rfl rfl (by constructor) ?_
    refine aN rfl rfl (by constructor) ?_
    refine aN rfl rfl (by constructor) ?_
    refine aExtA rfl rfl ?_
    refine aN rfl rfl (by constructor) ?_
    refine aN rfl rfl (by constructor) ?_
    refine aMovA rfl ?_
    refine sE ?_
    show AWl _ _ _ _ _
    refine aN rfl rfl (by constructor) ?_
    refine sE ?_
    show AWl _ _ _ _ _
    refine aN rfl rfl (by constructor) ?_
    refine aN rfl rfl (by constructor) ?_
    refine gT rfl ?_
    refine aN rfl rfl (by constructor) ?_
    refine gT rfl ?_
    refine aBinV (.bool false) rfl rfl rfl ?_
    refine aN rfl rfl (by constructor) ?_
    refine sE ?_
    show AW _ (.cond _ _ _) _ _ _
    refine cF' rfl ?_
    show AWl _ _ _ _ _
    refine aN rfl rfl (by constructor) ?_
    refine aC (reserved_call (P := (⟨[(0, key), (1, key)], 2, 0, -1, false⟩ : PT)) (st.get (j := 0) rfl) (st.rowAcc 1 rfl (by decide) (flat_len' regE_len _)) (show (2 : Nat) ≤ 1000 by decide)) fun v136 H14 ⟨hv, st1⟩ => ?_
    subst hv
    replace st := st.call st1 rfl
    clear st1
    refine aN rfl rfl (by constructor) ?_
    refine aN rfl rfl (by constructor) ?_
    refine aN rfl rfl (by constructor) ?_
    refine aN rfl rfl (by constructor) ?_
    refine aN rfl rfl (by constructor) ?_
    refine sE ?_
    show AWl _ _ _ _ _
    refine aN rfl rfl (by constructor) ?_
    refine aBinV (.bool true) rfl rfl rfl ?_
    refine aN rfl rfl (by constructor) ?_
    refine gT rfl ?_
    refine aMovA rfl ?_
    refine gT rfl ?_
    refine aLen (st.rowAcc 2 rfl (by decide) (by exact flat_len' evE_len _)) rfl ?_
    refine gT rfl ?_
    refine aN rfl rfl (by constructor) ?_
    refine gT rfl ?_
    refine aBinV (.bool true) rfl rfl rfl ?_
    refine aN rfl rfl (by constructor) ?_
    refine aN rfl rfl (by constructor) ?_
    refine gT rfl ?_
    refine aN rfl rfl (by constructor) ?_
    refine gT rfl ?_
    refine aBinV (.bool true) rfl rfl rfl ?_
    refine aN rfl rfl (by constructor) ?_
    refine aN rfl rfl (by constructor) ?_
    refine gT rfl ?_
    refine aN rfl rfl (by constructor) ?_
    refine gT rfl ?_
    refine aC (conflict_call (P := (⟨[(0, key), (1, key)], 2, 0, -1, false⟩ : PT)) (n := 1) (c := 2) (st.get (j := 0) rfl) (st.rowAcc 1 rfl (by decide) (flat_len' regE_len _)) (show (2 : Nat) ≤ 1000 by decide)) fun v153 H15 ⟨hv, st1⟩ => ?_
    subst hv
    replace st := st.call st1 rfl
    clear st1
    rw [show conflictM (⟨[(0, key), (1, key)], 2, 0, -1, false⟩ : PT) 1 2 = false by simp [doM, registerP, registerE, reserveM, releaseM, freeP, freeE, keyM, setM, inc32, w32, typeB, allB, holdsM, conflictM, reservedM, frM, PT0, hk]]
    refine gT rfl ?_
    refine aN rfl rfl (by constructor) ?_
    refine aN rfl rfl (by constructor) ?_
    refine aN rfl rfl (by constructor) ?_
    refine sE ?_
    refine ⟨_, out1 (r_tmp rfl (by constructor)), ?_⟩
    rfl
theorem reserves2_f {H : Hp} {m : Nat} {key : Int} (hm8 : m < 256) (hm : m % 6 = 2) :
    ACalls Try.prog 5 [.int .u8 (m : Int), .int .u64 key, .bool false] H (fun v _ => v = .bool true) := by
  refine acallsW Try.func5 f5_ok (Nat.le_of_ble_eq_true rfl) fun hw => ?_
  have st : Stt [] H H [] := Stt.start hw
  unfold f5c
  show AWl _ _ _ _ _
  refine aN rfl rfl (by constructor) ?_
  refine sE ?_
  show AWl _ _ _ _ _
  refine aC (awake_call) fun v28 H1 ⟨hv, st1⟩ => ?_
  subst hv
  replace st := st.call st1 rfl
  clear st1
  refine aN rfl rfl (by constructor) ?_
  refine sE ?_
  show AW _ (.cond _ _ _) _ _ _
  refine cF' rfl ?_
  show AWl _ _ _ _ _
  refine aLit st rfl (by repeat constructor) fun b30 H2 st => ?_
  refine aN rfl rfl (by constructor) ?_
  refine sE ?_
  show AWl _ _ _ _ _
  refine aN rfl rfl (by constructor) ?_
  refine aN rfl rfl (by constructor) ?_
  refine aN rfl rfl (by constructor) ?_
  refine aBinV (.int .i64 2) rfl rfl (by have h1 := remN (a := m) (n := 6) (by decide) hm8; rw [hm] at h1; exact h1) ?_
  refine aIxL rfl rfl (by decide) ?_
  refine aLd (v := .int .u8 5) st 0 rfl rfl rfl (by constructor) ?_
  refine aN rfl rfl (by constructor) ?_
  refine sE ?_
  show AWl _ _ _ _ _
  refine aN rfl rfl (by constructor) ?_
  refine aN rfl rfl (by constructor) ?_
  refine sE ?_
  show AW _ (.cond _ _ _) _ _ _
  refine cC' rfl (fun h3 => ?_) (fun h3 => ?_)
  · show AWl _ _ _ _ _
    refine aN rfl rfl (by constructor) ?_
    refine sE ?_
    refine ⟨_, out1 (r_tmp rfl (by constructor)), ?_⟩
    rfl
  · have hk : key ≠ 0 := by simpa using h3
    show AWl _ _ _ _ _
    refine aC (new_call) fun v39 H4 ⟨b39, hv, st1⟩ => ?_
    subst hv
    replace st := st.call st1 rfl
    clear st1
    have st := st.nil 30
    refine aN rfl rfl (by constructor) ?_
    refine sE ?_
    show AWl _ _ _ _ _
    refine aN rfl rfl (by constructor) ?_
    refine aN rfl rfl (by constructor) ?_
    refine aBld rfl (by repeat constructor) ?_
    replace st := st.sel [1, 0, 2] (by decide)
    refine aC (do_call (P := PT0) (n := 0) (o := ⟨0, 0, 0, key, false⟩) (st.get (j := 0) rfl) (st.got 1 rfl).1 (st.got 1 rfl).2 (show _ ≤ _ from (by show (0 : Nat) ≤ 400; decide)) (st.ne 1 0 rfl rfl (by decide))) fun v44 H5 ⟨o44, e44, hv, hc⟩ => ?_
    subst hv
    rw [show doM PT0 0 ⟨0, 0, 0, key, false⟩ = ⟨0, 0, [], (⟨[(0, key)], 1, 0, -1, false⟩ : PT)⟩ from by simp [doM, registerP, registerE, reserveM, releaseM, freeP, freeE, keyM, setM, inc32, w32, typeB, allB, holdsM, conflictM, reservedM, frM, PT0, hk]] at hc ⊢
    replace st := st.tabCall (kr' := ⟨true, 30, (((⟨[(0, key)], 1, 0, -1, false⟩ : PT)).regs).flatMap regE⟩) rfl (hc.imp (fun ⟨a, b, c⟩ => ⟨a, congrArg (fun l : List (Int × Int) => (⟨true, 30, l.flatMap regE⟩ : Blk)) b, c⟩) id)
    clear hc
    refine aN rfl rfl (by constructor) ?_
    refine aN rfl rfl (by constructor) ?_
    refine aN rfl rfl (by constructor) ?_
    refine aExtA rfl rfl ?_
    refine aN rfl rfl (by constructor) ?_
    refine aN rfl rfl (by constructor) ?_
    refine aMovA rfl ?_
    refine sE ?_
    show AWl _ _ _ _ _
    refine aN rfl rfl (by constructor) ?_
    refine sE ?_
    show AW _ (.cond _ _ _) _ _ _
    refine cF' rfl ?_
    show AWl _ _ _ _ _
    refine aN rfl rfl (by constructor) ?_
    refine aN rfl rfl (by constructor) ?_
    refine aN rfl rfl (by constructor) ?_
    refine aBldA rfl (by repeat constructor) ?_
    replace st := st.sel [0, 1, 2, 3] (by decide)
    refine aC (do_call (P := (⟨[(0, key)], 1, 0, -1, false⟩ : PT)) (n := 0) (o := ⟨1, 5, key, 0, false⟩) (st.get (j := 0) rfl) (st.got 1 rfl).1 (st.got 1 rfl).2 (show _ ≤ _ from (by show (1 : Nat) ≤ 400; decide)) (st.ne 1 0 rfl rfl (by decide))) fun v64 H6 ⟨o64, e64, hv, hc⟩ => ?_
    subst hv
    rw [show doM (⟨[(0, key)], 1, 0, -1, false⟩ : PT) 0 ⟨1, 5, key, 0, false⟩ = ⟨0, 0, [], (⟨[(0, key)], 1, 5, 0, false⟩ : PT)⟩ from by simp [doM, registerP, registerE, reserveM, releaseM, freeP, freeE, keyM, setM, inc32, w32, typeB, allB, holdsM, conflictM, reservedM, frM, PT0, hk]] at hc ⊢
    replace st := st.tabCall (kr' := ⟨true, 30, (((⟨[(0, key)], 1, 5, 0, false⟩ : PT)).regs).flatMap regE⟩) rfl (hc.imp (fun ⟨a, b, c⟩ => ⟨a, congrArg (fun l : List (Int × Int) => (⟨true, 30, l.flatMap regE⟩ : Blk)) b, c⟩) id)
    clear hc
    refine aN rfl rfl (by constructor) ?_
    refine aN rfl rfl (by constructor) ?_
    refine aN rfl rfl (by constructor) ?_
    refine aExtA rfl rfl ?_
    refine aN rfl rfl (by constructor) ?_
    refine aN rfl rfl (by constructor) ?_
    refine aMovA rfl ?_
    refine sE ?_
    show AWl _ _ _ _ _
    refine aN rfl rfl (by constructor) ?_
    refine aBinV (.bool false) rfl rfl rfl ?_
    refine aN rfl rfl (by constructor) ?_
    refine gT rfl ?_
    refine aN rfl rfl (by constructor) ?_
    refine gT rfl ?_
    refine aBinV (.bool false) rfl rfl rfl ?_
    refine aN rfl rfl (by constructor) ?_
    refine aN rfl rfl (by constructor) ?_
    refine gT rfl ?_
    refine aN rfl rfl (by constructor) ?_
    refine gT rfl ?_
    refine aC (holds_call (P := (⟨[(0, key)], 1, 5, 0, false⟩ : PT)) (n := 0) (st.get (j := 0) rfl) (st.rowAcc 1 rfl (by decide) (flat_len' regE_len _)) (show (1 : Nat) ≤ 1000 by decide)) fun v76 H7 ⟨hv, st1⟩ => ?_
    subst hv
    replace st := st.call st1 rfl
    clear st1
    rw [show holdsM (⟨[(0, key)], 1, 5, 0, false⟩ : PT) 0 = true by simp [doM, registerP, registerE, reserveM, releaseM, freeP, freeE, keyM, setM, inc32, w32, typeB, allB, holdsM, conflictM, reservedM, frM, PT0, hk]]
    refine gT rfl ?_
    refine aN rfl rfl (by constructor) ?_
    refine aN rfl rfl (by constructor) ?_
    refine aN rfl rfl (by constructor) ?_
    refine gT rfl ?_
    refine aN rfl rfl (by constructor) ?_
    refine gT rfl ?_
    refine aC (holds_call (P := (⟨[(0, key)], 1, 5, 0, false⟩ : PT)) (n := 1) (st.get (j := 0) rfl) (st.rowAcc 1 rfl (by decide) (flat_len' regE_len _)) (show (1 : Nat) ≤ 1000 by decide)) fun v81 H8 ⟨hv, st1⟩ => ?_
    subst hv
    replace st := st.call st1 rfl
    clear st1
    rw [show holdsM (⟨[(0, key)], 1, 5, 0, false⟩ : PT) 1 = false by simp [doM, registerP, registerE, reserveM, releaseM, freeP, freeE, keyM, setM, inc32, w32, typeB, allB, holdsM, conflictM, reservedM, frM, PT0, hk]]
    refine gT rfl ?_
    refine aN rfl rfl (by constructor) ?_
    refine gT rfl ?_
    refine aN rfl rfl (by constructor) ?_
    refine gF rfl (by decide) ?_
    refine gF rfl (by decide) ?_
    refine gT rfl ?_
    refine aN rfl rfl (by constructor) ?_
    refine gT rfl ?_
    refine aBinV (.bool false) rfl rfl rfl ?_
    refine aN rfl rfl (by constructor) ?_
    refine sE ?_
    show AW _ (.cond _ _ _) _ _ _
    refine cF' rfl ?_
    show AWl _ _ _ _ _
    refine aN rfl rfl (by constructor) ?_
    refine aC (conflict_call (P := (⟨[(0, key)], 1, 5, 0, false⟩ : PT)) (n := 1) (c := 1) (st.get (j := 0) rfl) (st.rowAcc 1 rfl (by decide) (flat_len' regE_len _)) (show (1 : Nat) ≤ 1000 by decide)) fun v90 H9 ⟨hv, st1⟩ => ?_
    subst hv
    replace st := st.call st1 rfl
    clear st1
    rw [show conflictM (⟨[(0, key)], 1, 5, 0, false⟩ : PT) 1 1 = false by simp [doM, registerP, registerE, reserveM, releaseM, freeP, freeE, keyM, setM, inc32, w32, typeB, allB, holdsM, conflictM, reservedM, frM, PT0, hk]]
    refine aN rfl rfl (by constructor) ?_
    refine sE ?_
    show AWl _ _ _ _ _
    refine aN rfl rfl (by constructor) ?_
    refine aC (conflict_call (P := (⟨[(0, key)], 1, 5, 0, false⟩ : PT)) (n := 1) (c := 2) (st.get (j := 0) rfl) (st.rowAcc 1 rfl (by decide) (flat_len' regE_len _)) (show (1 : Nat) ≤ 1000 by decide)) fun v92 H10 ⟨hv, st1⟩ => ?_
    subst hv
    replace st := st.call st1 rfl
    clear st1
    rw [show conflictM (⟨[(0, key)], 1, 5, 0, false⟩ : PT) 1 2 = true by simp [doM, registerP, registerE, reserveM, releaseM, freeP, freeE, keyM, setM, inc32, w32, typeB, allB, holdsM, conflictM, reservedM, frM, PT0, hk]]
    refine aN rfl rfl (by constructor) ?_
    refine sE ?_
    show AWl _ _ _ _ _
    refine aN rfl rfl (by constructor) ?_
    refine aN rfl rfl (by constructor) ?_
    refine gF rfl (by decide) ?_
    refine gF rfl (by decide) ?_
    refine aN rfl rfl (by constructor) ?_
    refine aN rfl rfl (by constructor) ?_
    refine sE ?_
    show AWl _ _ _ _ _
    refine aN rfl rfl (by constructor) ?_
    refine aN rfl rfl (by constructor) ?_
    refine aN rfl rfl (by constructor) ?_
    refine aBinV (.bool false) rfl rfl rfl ?_
    refine aN rfl rfl (by constructor) ?_
    refine gT rfl ?_
    refine aN rfl rfl (by constructor) ?_
    refine gT rfl ?_
    refine aN rfl rfl (by constructor) ?_
    refine gT rfl ?_
    refine aBinV (.bool false) rfl rfl rfl ?_
    refine gT rfl ?_
    refine aN rfl rfl (by constructor) ?_
    refine gT rfl ?_
    refine aN rfl rfl (by constructor) ?_
    refine gT rfl ?_
    refine aBinV (.bool false) rfl rfl rfl ?_
    refine gT rfl ?_
    refine aN rfl rfl (by constructor) ?_
    refine gT rfl ?_
    refine aN rfl rfl (by constructor) ?_
    refine gT rfl ?_
    refine aN rfl rfl (by constructor) ?_
    refine gT rfl ?_
    refine aBinV (.bool false) rfl rfl rfl ?_
    refine gT rfl ?_
    refine aN rfl rfl (by constructor) ?_
    refine gT rfl ?_
    refine aN rfl rfl (by constructor) ?_
    refine gF rfl (by decide) ?_
    refine gF rfl (by decide) ?_
    refine gT rfl ?_
    refine aN rfl rfl (by constructor) ?_
    refine gT rfl ?_
    refine aBinV (.bool false) rfl rfl rfl ?_
    refine aN rfl rfl (by constructor) ?_
    refine sE ?_
    show AW _ (.cond _ _ _) _ _ _
    refine cF' rfl ?_
    show AWl _ _ _ _ _
    refine aN rfl rfl (by constructor) ?_
    refine aN rfl rfl (by constructor) ?_
    refine aN rfl rfl (by constructor) ?_
    refine aBldA rfl (by repeat constructor) ?_
    replace st := st.sel [0, 1, 2, 3, 4] (by decide)
    refine aC (do_call (P := (⟨[(0, key)], 1, 5, 0, false⟩ : PT)) (n := 0) (o := ⟨2, 5, key, 0, false⟩) (st.get (j := 0) rfl) (st.got 1 rfl).1 (st.got 1 rfl).2 (show _ ≤ _ from (by show (1 : Nat) ≤ 400; decide)) (st.ne 1 0 rfl rfl (by decide))) fun v125 H11 ⟨o125, e125, hv, hc⟩ => ?_
    subst hv
    rw [show doM (⟨[(0, key)], 1, 5, 0, false⟩ : PT) 0 ⟨2, 5, key, 0, false⟩ = ⟨0, 0, [], (⟨[(0, key)], 1, 0, -1, false⟩ : PT)⟩ from by simp [doM, registerP, registerE, reserveM, releaseM, freeP, freeE, keyM, setM, inc32, w32, typeB, allB, holdsM, conflictM, reservedM, frM, PT0, hk]] at hc ⊢
    replace st := st.tabCall (kr' := ⟨true, 30, (((⟨[(0, key)], 1, 0, -1, false⟩ : PT)).regs).flatMap regE⟩) rfl (hc.imp (fun ⟨a, b, c⟩ => ⟨a, congrArg (fun l : List (Int × Int) => (⟨true, 30, l.flatMap regE⟩ : Blk)) b, c⟩) id)
    clear hc
    refine aN rfl rfl (by constructor) ?_
    refine aN rfl rfl (by constructor) ?_
    refine aN rfl rfl (by constructor) ?_
    refine aExtA rfl rfl ?_
    refine aN rfl rfl (by constructor) ?_
    refine aN rfl rfl (by constructor) ?_
    refine aMovA rfl ?_
    refine sE ?_
    show AWl _ _ _ _ _
    refine aN rfl rfl (by constructor) ?_
    refine sE ?_
    show AWl _ _ _ _ _
    refine aN rfl rfl (by constructor) ?_
    refine aN rfl rfl (by constructor) ?_
    refine gF rfl (by decide) ?_
    refine gF rfl (by decide) ?_
    refine aN rfl rfl (by constructor) ?_
    refine sE ?_
    show AW _ (.cond _ _ _) _ _ _
    refine cF' rfl ?_
    show AWl _ _ _ _ _
    refine aN rfl rfl (by constructor) ?_
    refine aC (reserved_call (P := (⟨[(0, key)], 1, 0, -1, false⟩ : PT)) (st.get (j := 0) rfl) (st.rowAcc 1 rfl (by decide) (flat_len' regE_len _)) (show (1 : Nat) ≤ 1000 by decide)) fun v136 H12 ⟨hv, st1⟩ => ?_
    subst hv
    replace st := st.call st1 rfl
    clear st1
    refine aN rfl rfl (by constructor) ?_
    refine aN rfl rfl (by constructor) ?_
    refine aN rfl rfl (by constructor) ?_
    refine aN rfl rfl (by constructor) ?_
    refine aN rfl rfl (by constructor) ?_
    refine sE ?_
    show AWl _ _ _ _ _
    refine aN rfl rfl (by constructor) ?_
    refine aBinV (.bool true) rfl rfl rfl ?_
    refine aN rfl rfl (by constructor) ?_
    refine gT rfl ?_
    refine aMovA rfl ?_
    refine gT rfl ?_
    refine aLen (st.rowAcc 2 rfl (by decide) (by exact flat_len' evE_len _)) rfl ?_
    refine gT rfl ?_
    refine aN rfl rfl (by constructor) ?_
    refine gT rfl ?_
    refine aBinV (.bool true) rfl rfl rfl ?_
    refine aN rfl rfl (by constructor) ?_
    refine aN rfl rfl (by constructor) ?_
    refine gT rfl ?_
    refine aN rfl rfl (by constructor) ?_
    refine gT rfl ?_
    refine aBinV (.bool true) rfl rfl rfl ?_
    refine aN rfl rfl (by constructor) ?_
    refine aN rfl rfl (by constructor) ?_
    refine gT rfl ?_
    refine aN rfl rfl (by constructor) ?_
    refine gT rfl ?_
    refine aC (conflict_call (P := (⟨[(0, key)], 1, 0, -1, false⟩ : PT)) (n := 1) (c := 2) (st.get (j := 0) rfl) (st.rowAcc 1 rfl (by decide) (flat_len' regE_len _)) (show (1 : Nat) ≤ 1000 by decide)) fun v153 H13 ⟨hv, st1⟩ => ?_
    subst hv
    replace st := st.call st1 rfl
    clear st1
    rw [show conflictM (⟨[(0, key)], 1, 0, -1, false⟩ : PT) 1 2 = false by simp [doM, registerP, registerE, reserveM, releaseM, freeP, freeE, keyM, setM, inc32, w32, typeB, allB, holdsM, conflictM, reservedM, frM, PT0, hk]]
    refine gT rfl ?_
    refine aN rfl rfl (by constructor) ?_
    refine aN rfl rfl (by constructor) ?_
    refine aN rfl rfl (by constructor) ?_
    refine sE ?_
    refine ⟨_, out1 (r_tmp rfl (by constructor)), ?_⟩
    rfl
theorem reserves2_t {H : Hp} {m : Nat} {key : Int} (hm8 : m < 256) (hm : m % 6 = 2) :
    ACalls Try.prog 5 [.int .u8 (m : Int), .int .u64 key, .bool true] H (fun v _ => v = .bool true) := by
  refine acallsW Try.func5 f5_ok (Nat.le_of_ble_eq_true rfl) fun hw => ?_
  have st : Stt [] H H [] := Stt.start hw
  unfold f5c
  show AWl _ _ _ _ _
  refine aN rfl rfl (by constructor) ?_
  refine sE ?_
  show AWl _ _ _ _ _
  refine aC (awake_call) fun v28 H1 ⟨hv, st1⟩ => ?_
  subst hv
  replace st := st.call st1 rfl
  clear st1
  refine aN rfl rfl (by constructor) ?_
  refine sE ?_
  show AW _ (.cond _ _ _) _ _ _
  refine cF' rfl ?_
  show AWl _ _ _ _ _
  refine aLit st rfl (by repeat constructor) fun b30 H2 st => ?_
  refine aN rfl rfl (by constructor) ?_
  refine sE ?_
  show AWl _ _ _ _ _
  refine aN rfl rfl (by constructor) ?_
  refine aN rfl rfl (by constructor) ?_
  refine aN rfl rfl (by constructor) ?_
  refine aBinV (.int .i64 2) rfl rfl (by have h1 := remN (a := m) (n := 6) (by decide) hm8; rw [hm] at h1; exact h1) ?_
  refine aIxL rfl rfl (by decide) ?_
  refine aLd (v := .int .u8 5) st 0 rfl rfl rfl (by constructor) ?_
  refine aN rfl rfl (by constructor) ?_
  refine sE ?_
  show AWl _ _ _ _ _
  refine aN rfl rfl (by constructor) ?_
  refine aN rfl rfl (by constructor) ?_
  refine sE ?_
  show AW _ (.cond _ _ _) _ _ _
  refine cC' rfl (fun h3 => ?_) (fun h3 => ?_)
  · show AWl _ _ _ _ _
    refine aN rfl rfl (by constructor) ?_
    refine sE ?_
    refine ⟨_, out1 (r_tmp rfl (by constructor)), ?_⟩
    rfl
  · have hk : key ≠ 0 := by simpa using h3
    show AWl _ _ _ _ _
    refine aC (new_call) fun v39 H4 ⟨b39, hv, st1⟩ => ?_
    subst hv
    replace st := st.call st1 rfl
    clear st1
    have st := st.nil 30
    refine aN rfl rfl (by constructor) ?_
    refine sE ?_
    show AWl _ _ _ _ _
    refine aN rfl rfl (by constructor) ?_
    refine aN rfl rfl (by constructor) ?_
    refine aBld rfl (by repeat constructor) ?_
    replace st := st.sel [1, 0, 2] (by decide)
    refine aC (do_call (P := PT0) (n := 0) (o := ⟨0, 0, 0, key, false⟩) (st.get (j := 0) rfl) (st.got 1 rfl).1 (st.got 1 rfl).2 (show _ ≤ _ from (by show (0 : Nat) ≤ 400; decide)) (st.ne 1 0 rfl rfl (by decide))) fun v44 H5 ⟨o44, e44, hv, hc⟩ => ?_
    subst hv
    rw [show doM PT0 0 ⟨0, 0, 0, key, false⟩ = ⟨0, 0, [], (⟨[(0, key)], 1, 0, -1, false⟩ : PT)⟩ from by simp [doM, registerP, registerE, reserveM, releaseM, freeP, freeE, keyM, setM, inc32, w32, typeB, allB, holdsM, conflictM, reservedM, frM, PT0, hk]] at hc ⊢
    replace st := st.tabCall (kr' := ⟨true, 30, (((⟨[(0, key)], 1, 0, -1, false⟩ : PT)).regs).flatMap regE⟩) rfl (hc.imp (fun ⟨a, b, c⟩ => ⟨a, congrArg (fun l : List (Int × Int) => (⟨true, 30, l.flatMap regE⟩ : Blk)) b, c⟩) id)
    clear hc
    refine aN rfl rfl (by constructor) ?_
    refine aN rfl rfl (by constructor) ?_
    refine aN rfl rfl (by constructor) ?_
    refine aExtA rfl rfl ?_
    refine aN rfl rfl (by constructor) ?_
    refine aN rfl rfl (by constructor) ?_
    refine aMovA rfl ?_
    refine sE ?_
    show AWl _ _ _ _ _
    refine aN rfl rfl (by constructor) ?_
    refine sE ?_
    show AW _ (.cond _ _ _) _ _ _
    refine cT rfl ?_
    show AWl _ _ _ _ _
    refine aN rfl rfl (by constructor) ?_
    refine aN rfl rfl (by constructor) ?_
    refine aBld rfl (by repeat constructor) ?_
    replace st := st.sel [0, 1, 2, 3] (by decide)
    refine aC (do_call (P := (⟨[(0, key)], 1, 0, -1, false⟩ : PT)) (n := 1) (o := ⟨6, 0, 0, key, false⟩) (st.get (j := 0) rfl) (st.got 1 rfl).1 (st.got 1 rfl).2 (show _ ≤ _ from (by show (1 : Nat) ≤ 400; decide)) (st.ne 1 0 rfl rfl (by decide))) fun v53 H6 ⟨o53, e53, hv, hc⟩ => ?_
    subst hv
    rw [show doM (⟨[(0, key)], 1, 0, -1, false⟩ : PT) 1 ⟨6, 0, 0, key, false⟩ = ⟨0, 0, [], (⟨[(0, key), (1, key)], 2, 0, -1, false⟩ : PT)⟩ from by simp [doM, registerP, registerE, reserveM, releaseM, freeP, freeE, keyM, setM, inc32, w32, typeB, allB, holdsM, conflictM, reservedM, frM, PT0, hk]] at hc ⊢
    replace st := st.tabCall (kr' := ⟨true, 30, (((⟨[(0, key), (1, key)], 2, 0, -1, false⟩ : PT)).regs).flatMap regE⟩) rfl (hc.imp (fun ⟨a, b, c⟩ => ⟨a, congrArg (fun l : List (Int × Int) => (⟨true, 30, l.flatMap regE⟩ : Blk)) b, c⟩) id)
    clear hc
    refine aN rfl rfl (by constructor) ?_
    refine aN rfl rfl (by constructor) ?_
    refine aN rfl rfl (by constructor) ?_
    refine aExtA rfl rfl ?_
    refine aN rfl rfl (by constructor) ?_
    refine aN rfl rfl (by constructor) ?_
    refine aMovA rfl ?_
    refine sE ?_
    show AWl _ _ _ _ _
    refine aN rfl rfl (by constructor) ?_
    refine aBinV (.bool false) rfl rfl rfl ?_
    refine sE ?_
    show AW _ (.cond _ _ _) _ _ _
    refine cF' rfl ?_
    show AWl _ _ _ _ _
    refine aN rfl rfl (by constructor) ?_
    refine aN rfl rfl (by constructor) ?_
    refine aN rfl rfl (by constructor) ?_
    refine aBldA rfl (by repeat constructor) ?_
    replace st := st.sel [0, 1, 2, 3, 4] (by decide)
    refine aC (do_call (P := (⟨[(0, key), (1, key)], 2, 0, -1, false⟩ : PT)) (n := 0) (o := ⟨1, 5, key, 0, false⟩) (st.get (j := 0) rfl) (st.got 1 rfl).1 (st.got 1 rfl).2 (show _ ≤ _ from (by show (2 : Nat) ≤ 400; decide)) (st.ne 1 0 rfl rfl (by decide))) fun v64 H7 ⟨o64, e64, hv, hc⟩ => ?_
    subst hv
    rw [show doM (⟨[(0, key), (1, key)], 2, 0, -1, false⟩ : PT) 0 ⟨1, 5, key, 0, false⟩ = ⟨0, 0, [], (⟨[(0, key), (1, key)], 2, 5, 0, false⟩ : PT)⟩ from by simp [doM, registerP, registerE, reserveM, releaseM, freeP, freeE, keyM, setM, inc32, w32, typeB, allB, holdsM, conflictM, reservedM, frM, PT0, hk]] at hc ⊢
    replace st := st.tabCall (kr' := ⟨true, 30, (((⟨[(0, key), (1, key)], 2, 5, 0, false⟩ : PT)).regs).flatMap regE⟩) rfl (hc.imp (fun ⟨a, b, c⟩ => ⟨a, congrArg (fun l : List (Int × Int) => (⟨true, 30, l.flatMap regE⟩ : Blk)) b, c⟩) id)
    clear hc
    refine aN rfl rfl (by constructor) ?_
    refine aN rfl rfl (by constructor) ?_
    refine aN rfl rfl (by constructor) ?_
    refine aExtA rfl rfl ?_
    refine aN rfl rfl (by constructor) ?_
    refine aN rfl rfl (by constructor) ?_
    refine aMovA rfl ?_
    refine sE ?_
    show AWl _ _ _ _ _
    refine aN rfl rfl (by constructor) ?_
    refine aBinV (.bool false) rfl rfl rfl ?_
    refine aN rfl rfl (by constructor) ?_
    refine gT rfl ?_
    refine aN rfl rfl (by constructor) ?_
    refine gT rfl ?_
    refine aBinV (.bool false) rfl rfl rfl ?_
    refine aN rfl rfl (by constructor) ?_
    refine aN rfl rfl (by constructor) ?_
    refine gT rfl ?_
    refine aN rfl rfl (by constructor) ?_
    refine gT rfl ?_
    refine aC (holds_call (P := (⟨[(0, key), (1, key)], 2, 5, 0, false⟩ : PT)) (n := 0) (st.get (j := 0) rfl) (st.rowAcc 1 rfl (by decide) (flat_len' regE_len _)) (show (2 : Nat) ≤ 1000 by decide)) fun v76 H8 ⟨hv, st1⟩ => ?_
    subst hv
    replace st := st.call st1 rfl
    clear st1
    rw [show holdsM (⟨[(0, key), (1, key)], 2, 5, 0, false⟩ : PT) 0 = true by simp [doM, registerP, registerE, reserveM, releaseM, freeP, freeE, keyM, setM, inc32, w32, typeB, allB, holdsM, conflictM, reservedM, frM, PT0, hk]]
    refine gT rfl ?_
    refine aN rfl rfl (by constructor) ?_
    refine aN rfl rfl (by constructor) ?_
    refine aN rfl rfl (by constructor) ?_
    refine gT rfl ?_
    refine aN rfl rfl (by constructor) ?_
    refine gT rfl ?_
    refine aC (holds_call (P := (⟨[(0, key), (1, key)], 2, 5, 0, false⟩ : PT)) (n := 1) (st.get (j := 0) rfl) (st.rowAcc 1 rfl (by decide) (flat_len' regE_len _)) (show (2 : Nat) ≤ 1000 by decide)) fun v81 H9 ⟨hv, st1⟩ => ?_
    subst hv
    replace st := st.call st1 rfl
    clear st1
    rw [show holdsM (⟨[(0, key), (1, key)], 2, 5, 0, false⟩ : PT) 1 = false by simp [doM, registerP, registerE, reserveM, releaseM, freeP, freeE, keyM, setM, inc32, w32, typeB, allB, holdsM, conflictM, reservedM, frM, PT0, hk]]
    refine gT rfl ?_
    refine aN rfl rfl (by constructor) ?_
    refine gT rfl ?_
    refine aN rfl rfl (by constructor) ?_
    refine gT rfl ?_
    refine aN rfl rfl (by constructor) ?_
    refine gT rfl ?_
    refine aC (all_call) fun v85 H10 ⟨hv, st1⟩ => ?_
    subst hv
    replace st := st.call st1 rfl
    clear st1
    refine gT rfl ?_
    refine aN rfl rfl (by constructor) ?_
    refine gT rfl ?_
    refine aBinV (.bool false) rfl rfl rfl ?_
    refine aN rfl rfl (by constructor) ?_
    refine sE ?_
    show AW _ (.cond _ _ _) _ _ _
    refine cF' rfl ?_
    show AWl _ _ _ _ _
    refine aN rfl rfl (by constructor) ?_
    refine aC (conflict_call (P := (⟨[(0, key), (1, key)], 2, 5, 0, false⟩ : PT)) (n := 1) (c := 1) (st.get (j := 0) rfl) (st.rowAcc 1 rfl (by decide) (flat_len' regE_len _)) (show (2 : Nat) ≤ 1000 by decide)) fun v90 H11 ⟨hv, st1⟩ => ?_
    subst hv
    replace st := st.call st1 rfl
    clear st1
    rw [show conflictM (⟨[(0, key), (1, key)], 2, 5, 0, false⟩ : PT) 1 1 = false by simp [doM, registerP, registerE, reserveM, releaseM, freeP, freeE, keyM, setM, inc32, w32, typeB, allB, holdsM, conflictM, reservedM, frM, PT0, hk]]
    refine aN rfl rfl (by constructor) ?_
    refine sE ?_
    show AWl _ _ _ _ _
    refine aN rfl rfl (by constructor) ?_
    refine aC (conflict_call (P := (⟨[(0, key), (1, key)], 2, 5, 0, false⟩ : PT)) (n := 1) (c := 2) (st.get (j := 0) rfl) (st.rowAcc 1 rfl (by decide) (flat_len' regE_len _)) (show (2 : Nat) ≤ 1000 by decide)) fun v92 H12 ⟨hv, st1⟩ => ?_
    subst hv
    replace st := st.call st1 rfl
    clear st1
    rw [show conflictM (⟨[(0, key), (1, key)], 2, 5, 0, false⟩ : PT) 1 2 = false by simp [doM, registerP, registerE, reserveM, releaseM, freeP, freeE, keyM, setM, inc32, w32, typeB, allB, holdsM, conflictM, reservedM, frM, PT0, hk]]
    refine aN rfl rfl (by constructor) ?_
    refine sE ?_
    show AWl _ _ _ _ _
    refine aN rfl rfl (by constructor) ?_
    refine aN rfl rfl (by constructor) ?_
    refine gT rfl ?_
    refine aN rfl rfl (by constructor) ?_
    refine gT rfl ?_
    refine aBinV (.bool true) rfl rfl rfl ?_
    refine aN rfl rfl (by constructor) ?_
    refine aN rfl rfl (by constructor) ?_
    refine sE ?_
    show AWl _ _ _ _ _
    refine aN rfl rfl (by constructor) ?_
    refine aN rfl rfl (by constructor) ?_
    refine aN rfl rfl (by constructor) ?_
    refine aBinV (.bool false) rfl rfl rfl ?_
    refine aN rfl rfl (by constructor) ?_
    refine gT rfl ?_
    refine aN rfl rfl (by constructor) ?_
    refine gT rfl ?_
    refine aN rfl rfl (by constructor) ?_
    refine gT rfl ?_
    refine aBinV (.bool false) rfl rfl rfl ?_
    refine gT rfl ?_
    refine aN rfl rfl (by constructor) ?_
    refine gT rfl ?_
    refine aN rfl rfl (by constructor) ?_
    refine gT rfl ?_
    refine aBinV (.bool false) rfl rfl rfl ?_
    refine gT rfl ?_
    refine aN rfl rfl (by constructor) ?_
    refine gT rfl ?_
    refine aN rfl rfl (by constructor) ?_
    refine gT rfl ?_
    refine aN rfl rfl (by constructor) ?_
    refine gT rfl ?_
    refine aBinV (.bool false) rfl rfl rfl ?_
    refine gT rfl ?_
    refine aN rfl rfl (by constructor) ?_
    refine gT rfl ?_
    refine aN rfl rfl (by constructor) ?_
    refine gF rfl (by decide) ?_
    refine gF rfl (by decide) ?_
    refine gT rfl ?_
    refine aN rfl rfl (by constructor) ?_
    refine gT rfl ?_
    refine aBinV (.bool false) rfl rfl rfl ?_
    refine aN rfl rfl (by constructor) ?_
    refine sE ?_
    show AW _ (.cond _ _ _) _ _ _
    refine cF' rfl ?_
    show AWl _ _ _ _ _
    refine aN rfl rfl (by constructor) ?_
    refine aN rfl rfl (by constructor) ?_
    refine aN rfl rfl (by constructor) ?_
    refine aBldA rfl (by repeat constructor) ?_
    replace st := st.sel [0, 1, 2, 3, 4, 5] (by decide)
    refine aC (do_call (P := (⟨[(0, key), (1, key)], 2, 5, 0, false⟩ : PT)) (n := 0) (o := ⟨2, 5, key, 0, false⟩) (st.get (j := 0) rfl) (st.got 1 rfl).1 (st.got 1 rfl).2 (show _ ≤ _ from (by show (2 : Nat) ≤ 400; decide)) (st.ne 1 0 rfl rfl (by decide))) fun v125 H13 ⟨o125, e125, hv, hc⟩ => ?_
    subst hv
    rw [show doM (⟨[(0, key), (1, key)], 2, 5, 0, false⟩ : PT) 0 ⟨2, 5, key, 0, false⟩ = ⟨0, 0, [(1, 10756)], (⟨[(0, key), (1, key)], 2, 0, -1, false⟩ : PT)⟩ from by simp [doM, registerP, registerE, reserveM, releaseM, freeP, freeE, keyM, setM, inc32, w32, typeB, allB, holdsM, conflictM, reservedM, frM, PT0, hk]] at hc ⊢
    replace st := st.tabCall (kr' := ⟨true, 30, (((⟨[(0, key), (1, key)], 2, 0, -1, false⟩ : PT)).regs).flatMap regE⟩) rfl (hc.imp (fun ⟨a, b, c⟩ => ⟨a, congrArg (fun l : List (Int × Int) => (⟨true, 30, l.flatMap regE⟩ : Blk)) b, c⟩) id)
    clear hc
    refine aN rfl rfl (by constructor) ?_
    refine aN rfl rfl (by constructor) ?_
    refine aN rfl rfl (by constructor) ?_
    refine aExtA rfl rfl ?_
    refine aN rfl rfl (by constructor) ?_
    refine aN rfl rfl (by constructor) ?_
    refine aMovA rfl ?_
    refine sE ?_
    show AWl _ _ _ _ _
    refine aN rfl rfl (by constructor) ?_
    refine sE ?_
    show AWl _ _ _ _ _
    refine aN rfl rfl (by constructor) ?_
    refine aN rfl rfl (by constructor) ?_
    refine gT rfl ?_
    refine aN rfl rfl (by constructor) ?_
    refine gT rfl ?_
    refine aBinV (.bool true) rfl rfl rfl ?_
    refine aN rfl rfl (by constructor) ?_
    refine sE ?_
    show AW _ (.cond _ _ _) _ _ _
    refine cT rfl ?_
    show AWl _ _ _ _ _
    refine aN rfl rfl (by constructor) ?_
    refine sE ?_
    show AWl _ _ _ _ _
    refine aN rfl rfl (by constructor) ?_
    refine aC (reserved_call (P := (⟨[(0, key), (1, key)], 2, 0, -1, false⟩ : PT)) (st.get (j := 0) rfl) (st.rowAcc 1 rfl (by decide) (flat_len' regE_len _)) (show (2 : Nat) ≤ 1000 by decide)) fun v136 H14 ⟨hv, st1⟩ => ?_
    subst hv
    replace st := st.call st1 rfl
    clear st1
    refine aN rfl rfl (by constructor) ?_
    refine aN rfl rfl (by constructor) ?_
    refine aN rfl rfl (by constructor) ?_
    refine aN rfl rfl (by constructor) ?_
    refine aN rfl rfl (by constructor) ?_
    refine sE ?_
    show AWl _ _ _ _ _
    refine aN rfl rfl (by constructor) ?_
    refine aBinV (.bool true) rfl rfl rfl ?_
    refine aN rfl rfl (by constructor) ?_
    refine gT rfl ?_
    refine aMovA rfl ?_
    refine gT rfl ?_
    refine aLen (st.rowAcc 2 rfl (by decide) (by exact flat_len' evE_len _)) rfl ?_
    refine gT rfl ?_
    refine aN rfl rfl (by constructor) ?_
    refine gT rfl ?_
    refine aBinV (.bool true) rfl rfl rfl ?_
    refine aN rfl rfl (by constructor) ?_
    refine aN rfl rfl (by constructor) ?_
    refine gT rfl ?_
    refine aN rfl rfl (by constructor) ?_
    refine gT rfl ?_
    refine aBinV (.bool true) rfl rfl rfl ?_
    refine aN rfl rfl (by constructor) ?_
    refine aN rfl rfl (by constructor) ?_
    refine gT rfl ?_
    refine aN rfl rfl (by constructor) ?_
    refine gT rfl ?_
    refine aC (conflict_call (P := (⟨[(0, key), (1, key)], 2, 0, -1, false⟩ : PT)) (n := 1) (c := 2) (st.get (j := 0) rfl) (st.rowAcc 1 rfl (by decide) (flat_len' regE_len _)) (show (2 : Nat) ≤ 1000 by decide)) fun v153 H15 ⟨hv, st1⟩ => ?_
    subst hv
    replace st := st.call st1 rfl
    clear st1
    rw [show conflictM (⟨[(0, key), (1, key)], 2, 0, -1, false⟩ : PT) 1 2 = false by simp [doM, registerP, registerE, reserveM, releaseM, freeP, freeE, keyM, setM, inc32, w32, typeB, allB, holdsM, conflictM, reservedM, frM, PT0, hk]]
    refine gT rfl ?_
    refine aN rfl rfl (by constructor) ?_
    refine aN rfl rfl (by constructor) ?_
    refine aN rfl rfl (by constructor) ?_
    refine sE ?_
    refine ⟨_, out1 (r_tmp rfl (by constructor)), ?_⟩
    rfl
theorem reserves3_f {H : Hp} {m : Nat} {key : Int} (hm8 : m < 256) (hm : m % 6 = 3) :
    ACalls Try.prog 5 [.int .u8 (m : Int), .int .u64 key, .bool false] H (fun v _ => v = .bool true) := by
  refine acallsW Try.func5 f5_ok (Nat.le_of_ble_eq_true rfl) fun hw => ?_
  have st : Stt [] H H [] := Stt.start hw
  unfold f5c
  show AWl _ _ _ _ _
  refine aN rfl rfl (by constructor) ?_
  refine sE ?_
  show AWl _ _ _ _ _
  refine aC (awake_call) fun v28 H1 ⟨hv, st1⟩ => ?_
  subst hv
  replace st := st.call st1 rfl
  clear st1
  refine aN rfl rfl (by constructor) ?_
  refine sE ?_
  show AW _ (.cond _ _ _) _ _ _
  refine cF' rfl ?_
  show AWl _ _ _ _ _
  refine aLit st rfl (by repeat constructor) fun b30 H2 st => ?_
  refine aN rfl rfl (by constructor) ?_
  refine sE ?_
  show AWl _ _ _ _ _
  refine aN rfl rfl (by constructor) ?_
  refine aN rfl rfl (by constructor) ?_
  refine aN rfl rfl (by constructor) ?_
  refine aBinV (.int .i64 3) rfl rfl (by have h1 := remN (a := m) (n := 6) (by decide) hm8; rw [hm] at h1; exact h1) ?_
  refine aIxL rfl rfl (by decide) ?_
  refine aLd (v := .int .u8 6) st 0 rfl rfl rfl (by constructor) ?_
  refine aN rfl rfl (by constructor) ?_
  refine sE ?_
  show AWl _ _ _ _ _
  refine aN rfl rfl (by constructor) ?_
  refine aN rfl rfl (by constructor) ?_
  refine sE ?_
  show AW _ (.cond _ _ _) _ _ _
  refine cC' rfl (fun h3 => ?_) (fun h3 => ?_)
  · show AWl _ _ _ _ _
    refine aN rfl rfl (by constructor) ?_
    refine sE ?_
    refine ⟨_, out1 (r_tmp rfl (by constructor)), ?_⟩
    rfl
  · have hk : key ≠ 0 := by simpa using h3
    show AWl _ _ _ _ _
    refine aC (new_call) fun v39 H4 ⟨b39, hv, st1⟩ => ?_
    subst hv
    replace st := st.call st1 rfl
    clear st1
    have st := st.nil 30
    refine aN rfl rfl (by constructor) ?_
    refine sE ?_
    show AWl _ _ _ _ _
    refine aN rfl rfl (by constructor) ?_
    refine aN rfl rfl (by constructor) ?_
    refine aBld rfl (by repeat constructor) ?_
    replace st := st.sel [1, 0, 2] (by decide)
    refine aC (do_call (P := PT0) (n := 0) (o := ⟨0, 0, 0, key, false⟩) (st.get (j := 0) rfl) (st.got 1 rfl).1 (st.got 1 rfl).2 (show _ ≤ _ from (by show (0 : Nat) ≤ 400; decide)) (st.ne 1 0 rfl rfl (by decide))) fun v44 H5 ⟨o44, e44, hv, hc⟩ => ?_
    subst hv
    rw [show doM PT0 0 ⟨0, 0, 0, key, false⟩ = ⟨0, 0, [], (⟨[(0, key)], 1, 0, -1, false⟩ : PT)⟩ from by simp [doM, registerP, registerE, reserveM, releaseM, freeP, freeE, keyM, setM, inc32, w32, typeB, allB, holdsM, conflictM, reservedM, frM, PT0, hk]] at hc ⊢
    replace st := st.tabCall (kr' := ⟨true, 30, (((⟨[(0, key)], 1, 0, -1, false⟩ : PT)).regs).flatMap regE⟩) rfl (hc.imp (fun ⟨a, b, c⟩ => ⟨a, congrArg (fun l : List (Int × Int) => (⟨true, 30, l.flatMap regE⟩ : Blk)) b, c⟩) id)
    clear hc
    refine aN rfl rfl (by constructor) ?_
    refine aN rfl rfl (by constructor) ?_
    refine aN rfl rfl (by constructor) ?_
    refine aExtA rfl rfl ?_
    refine aN rfl rfl (by constructor) ?_
    refine aN rfl rfl (by constructor) ?_
    refine aMovA rfl ?_
    refine sE ?_
    show AWl _ _ _ _ _
    refine aN rfl rfl (by constructor) ?_
    refine sE ?_
    show AW _ (.cond _ _ _) _ _ _
    refine cF' rfl ?_
    show AWl _ _ _ _ _
    refine aN rfl rfl (by constructor) ?_
    refine aN rfl rfl (by constructor) ?_
    refine aN rfl rfl (by constructor) ?_
    refine aBldA rfl (by repeat constructor) ?_
    replace st := st.sel [0, 1, 2, 3] (by decide)
    refine aC (do_call (P := (⟨[(0, key)], 1, 0, -1, false⟩ : PT)) (n := 0) (o := ⟨1, 6, key, 0, false⟩) (st.get (j := 0) rfl) (st.got 1 rfl).1 (st.got 1 rfl).2 (show _ ≤ _ from (by show (1 : Nat) ≤ 400; decide)) (st.ne 1 0 rfl rfl (by decide))) fun v64 H6 ⟨o64, e64, hv, hc⟩ => ?_
    subst hv
    rw [show doM (⟨[(0, key)], 1, 0, -1, false⟩ : PT) 0 ⟨1, 6, key, 0, false⟩ = ⟨0, 0, [], (⟨[(0, key)], 1, 6, 0, false⟩ : PT)⟩ from by simp [doM, registerP, registerE, reserveM, releaseM, freeP, freeE, keyM, setM, inc32, w32, typeB, allB, holdsM, conflictM, reservedM, frM, PT0, hk]] at hc ⊢
    replace st := st.tabCall (kr' := ⟨true, 30, (((⟨[(0, key)], 1, 6, 0, false⟩ : PT)).regs).flatMap regE⟩) rfl (hc.imp (fun ⟨a, b, c⟩ => ⟨a, congrArg (fun l : List (Int × Int) => (⟨true, 30, l.flatMap regE⟩ : Blk)) b, c⟩) id)
    clear hc
    refine aN rfl rfl (by constructor) ?_
    refine aN rfl rfl (by constructor) ?_
    refine aN rfl rfl (by constructor) ?_
    refine aExtA rfl rfl ?_
    refine aN rfl rfl (by constructor) ?_
    refine aN rfl rfl (by constructor) ?_
    refine aMovA rfl ?_
    refine sE ?_
    show AWl _ _ _ _ _
    refine aN rfl rfl (by constructor) ?_
    refine aBinV (.bool false) rfl rfl rfl ?_
    refine aN rfl rfl (by constructor) ?_
    refine gT rfl ?_
    refine aN rfl rfl (by constructor) ?_
    refine gT rfl ?_
    refine aBinV (.bool false) rfl rfl rfl ?_
    refine aN rfl rfl (by constructor) ?_
    refine aN rfl rfl (by constructor) ?_
    refine gT rfl ?_
    refine aN rfl rfl (by constructor) ?_
    refine gT rfl ?_
    refine aC (holds_call (P := (⟨[(0, key)], 1, 6, 0, false⟩ : PT)) (n := 0) (st.get (j := 0) rfl) (st.rowAcc 1 rfl (by decide) (flat_len' regE_len _)) (show (1 : Nat) ≤ 1000 by decide)) fun v76 H7 ⟨hv, st1⟩ => ?_
    subst hv
    replace st := st.call st1 rfl
    clear st1
    rw [show holdsM (⟨[(0, key)], 1, 6, 0, false⟩ : PT) 0 = true by simp [doM, registerP, registerE, reserveM, releaseM, freeP, freeE, keyM, setM, inc32, w32, typeB, allB, holdsM, conflictM, reservedM, frM, PT0, hk]]
    refine gT rfl ?_
    refine aN rfl rfl (by constructor) ?_
    refine aN rfl rfl (by constructor) ?_
    refine aN rfl rfl (by constructor) ?_
    refine gT rfl ?_
    refine aN rfl rfl (by constructor) ?_
    refine gT rfl ?_
    refine aC (holds_call (P := (⟨[(0, key)], 1, 6, 0, false⟩ : PT)) (n := 1) (st.get (j := 0) rfl) (st.rowAcc 1 rfl (by decide) (flat_len' regE_len _)) (show (1 : Nat) ≤ 1000 by decide)) fun v81 H8 ⟨hv, st1⟩ => ?_
    subst hv
    replace st := st.call st1 rfl
    clear st1
    rw [show holdsM (⟨[(0, key)], 1, 6, 0, false⟩ : PT) 1 = false by simp [doM, registerP, registerE, reserveM, releaseM, freeP, freeE, keyM, setM, inc32, w32, typeB, allB, holdsM, conflictM, reservedM, frM, PT0, hk]]
    refine gT rfl ?_
    refine aN rfl rfl (by constructor) ?_
    refine gT rfl ?_
    refine aN rfl rfl (by constructor) ?_
    refine gF rfl (by decide) ?_
    refine gF rfl (by decide) ?_
    refine gT rfl ?_
    refine aN rfl rfl (by constructor) ?_
    refine gT rfl ?_
    refine aBinV (.bool false) rfl rfl rfl ?_
    refine aN rfl rfl (by constructor) ?_
    refine sE ?_
    show AW _ (.cond _ _ _) _ _ _
    refine cF' rfl ?_
    show AWl _ _ _ _ _
    refine aN rfl rfl (by constructor) ?_
    refine aC (conflict_call (P := (⟨[(0, key)], 1, 6, 0, false⟩ : PT)) (n := 1) (c := 1) (st.get (j := 0) rfl) (st.rowAcc 1 rfl (by decide) (flat_len' regE_len _)) (show (1 : Nat) ≤ 1000 by decide)) fun v90 H9 ⟨hv, st1⟩ => ?_
    subst hv
    replace st := st.call st1 rfl
    clear st1
    rw [show conflictM (⟨[(0, key)], 1, 6, 0, false⟩ : PT) 1 1 = true by simp [doM, registerP, registerE, reserveM, releaseM, freeP, freeE, keyM, setM, inc32, w32, typeB, allB, holdsM, conflictM, reservedM, frM, PT0, hk]]
    refine aN rfl rfl (by constructor) ?_
    refine sE ?_
    show AWl _ _ _ _ _
    refine aN rfl rfl (by constructor) ?_
    refine aC (conflict_call (P := (⟨[(0, key)], 1, 6, 0, false⟩ : PT)) (n := 1) (c := 2) (st.get (j := 0) rfl) (st.rowAcc 1 rfl (by decide) (flat_len' regE_len _)) (show (1 : Nat) ≤ 1000 by decide)) fun v92 H10 ⟨hv, st1⟩ => ?_
    subst hv
    replace st := st.call st1 rfl
    clear st1
    rw [show conflictM (⟨[(0, key)], 1, 6, 0, false⟩ : PT) 1 2 = true by simp [doM, registerP, registerE, reserveM, releaseM, freeP, freeE, keyM, setM, inc32, w32, typeB, allB, holdsM, conflictM, reservedM, frM, PT0, hk]]
    refine aN rfl rfl (by constructor) ?_
    refine sE ?_
    show AWl _ _ _ _ _
    refine aN rfl rfl (by constructor) ?_
    refine aN rfl rfl (by constructor) ?_
    refine gF rfl (by decide) ?_
    refine gF rfl (by decide) ?_
    refine aN rfl rfl (by constructor) ?_
    refine aN rfl rfl (by constructor) ?_
    refine sE ?_
    show AWl _ _ _ _ _
    refine aN rfl rfl (by constructor) ?_
    refine aN rfl rfl (by constructor) ?_
    refine aN rfl rfl (by constructor) ?_
    refine aBinV (.bool false) rfl rfl rfl ?_
    refine aN rfl rfl (by constructor) ?_
    refine gT rfl ?_
    refine aN rfl rfl (by constructor) ?_
    refine gT rfl ?_
    refine aN rfl rfl (by constructor) ?_
    refine gT rfl ?_
    refine aBinV (.bool false) rfl rfl rfl ?_
    refine gT rfl ?_
    refine aN rfl rfl (by constructor) ?_
    refine gT rfl ?_
    refine aN rfl rfl (by constructor) ?_
    refine gT rfl ?_
    refine aBinV (.bool true) rfl rfl rfl ?_
    refine gT rfl ?_
    refine aN rfl rfl (by constructor) ?_
    refine gT rfl ?_
    refine aN rfl rfl (by constructor) ?_
    refine gF rfl (by decide) ?_
    refine gF rfl (by decide) ?_
    refine gT rfl ?_
    refine aN rfl rfl (by constructor) ?_
    refine gT rfl ?_
    refine aN rfl rfl (by constructor) ?_
    refine gT rfl ?_
    refine aN rfl rfl (by constructor) ?_
    refine gT rfl ?_
    refine aN rfl rfl (by constructor) ?_
    refine gT rfl ?_
    refine aN rfl rfl (by constructor) ?_
    refine gT rfl ?_
    refine aBinV (.bool false) rfl rfl rfl ?_
    refine aN rfl rfl (by constructor) ?_
    refine sE ?_
    show AW _ (.cond _ _ _) _ _ _
    refine cF' rfl ?_
    show AWl _ _ _ _ _
    refine aN rfl rfl (by constructor) ?_
    refine aN rfl rfl (by constructor) ?_
    refine aN rfl rfl (by constructor) ?_
    refine aBldA rfl (by repeat constructor) ?_
    replace st := st.sel [0, 1, 2, 3, 4] (by decide)
    refine aC (do_call (P := (⟨[(0, key)], 1, 6, 0, false⟩ : PT)) (n := 0) (o := ⟨2, 6, key, 0, false⟩) (st.get (j := 0) rfl) (st.got 1 rfl).1 (st.got 1 rfl).2 (show _ ≤ _ from (by show (1 : Nat) ≤ 400; decide)) (st.ne 1 0 rfl rfl (by decide))) fun v125 H11 ⟨o125, e125, hv, hc⟩ => ?_
    subst hv
    rw [show doM (⟨[(0, key)], 1, 6, 0, false⟩ : PT) 0 ⟨2, 6, key, 0, false⟩ = ⟨0, 0, [], (⟨[(0, key)], 1, 0, -1, false⟩ : PT)⟩ from by simp [doM, registerP, registerE, reserveM, releaseM, freeP, freeE, keyM, setM, inc32, w32, typeB, allB, holdsM, conflictM, reservedM, frM, PT0, hk]] at hc ⊢
    replace st := st.tabCall (kr' := ⟨true, 30, (((⟨[(0, key)], 1, 0, -1, false⟩ : PT)).regs).flatMap regE⟩) rfl (hc.imp (fun ⟨a, b, c⟩ => ⟨a, congrArg (fun l : List (Int × Int) => (⟨true, 30, l.flatMap regE⟩ : Blk)) b, c⟩) id)
    clear hc
    refine aN rfl rfl (by constructor) ?_
    refine aN rfl rfl (by constructor) ?_
    refine aN rfl rfl (by constructor) ?_
    refine aExtA rfl rfl ?_
    refine aN rfl rfl (by constructor) ?_
    refine aN rfl rfl (by constructor) ?_
    refine aMovA rfl ?_
    refine sE ?_
    show AWl _ _ _ _ _
    refine aN rfl rfl (by constructor) ?_
    refine sE ?_
    show AWl _ _ _ _ _
    refine aN rfl rfl (by constructor) ?_
    refine aN rfl rfl (by constructor) ?_
    refine gF rfl (by decide) ?_
    refine gF rfl (by decide) ?_
    refine aN rfl rfl (by constructor) ?_
    refine sE ?_
    show AW _ (.cond _ _ _) _ _ _
    refine cF' rfl ?_
    show AWl _ _ _ _ _
    refine aN rfl rfl (by constructor) ?_
    refine aC (reserved_call (P := (⟨[(0, key)], 1, 0, -1, false⟩ : PT)) (st.get (j := 0) rfl) (st.rowAcc 1 rfl (by decide) (flat_len' regE_len _)) (show (1 : Nat) ≤ 1000 by decide)) fun v136 H12 ⟨hv, st1⟩ => ?_
    subst hv
    replace st := st.call st1 rfl
    clear st1
    refine aN rfl rfl (by constructor) ?_
    refine aN rfl rfl (by constructor) ?_
    refine aN rfl rfl (by constructor) ?_
    refine aN rfl rfl (by constructor) ?_
    refine aN rfl rfl (by constructor) ?_
    refine sE ?_
    show AWl _ _ _ _ _
    refine aN rfl rfl (by constructor) ?_
    refine aBinV (.bool true) rfl rfl rfl ?_
    refine aN rfl rfl (by constructor) ?_
    refine gT rfl ?_
    refine aMovA rfl ?_
    refine gT rfl ?_
    refine aLen (st.rowAcc 2 rfl (by decide) (by exact flat_len' evE_len _)) rfl ?_
    refine gT rfl ?_
    refine aN rfl rfl (by constructor) ?_
    refine gT rfl ?_
    refine aBinV (.bool true) rfl rfl rfl ?_
    refine aN rfl rfl (by constructor) ?_
    refine aN rfl rfl (by constructor) ?_
    refine gT rfl ?_
    refine aN rfl rfl (by constructor) ?_
    refine gT rfl ?_
    refine aBinV (.bool true) rfl rfl rfl ?_
    refine aN rfl rfl (by constructor) ?_
    refine aN rfl rfl (by constructor) ?_
    refine gT rfl ?_
    refine aN rfl rfl (by constructor) ?_
    refine gT rfl ?_
    refine aC (conflict_call (P := (⟨[(0, key)], 1, 0, -1, false⟩ : PT)) (n := 1) (c := 2) (st.get (j := 0) rfl) (st.rowAcc 1 rfl (by decide) (flat_len' regE_len _)) (show (1 : Nat) ≤ 1000 by decide)) fun v153 H13 ⟨hv, st1⟩ => ?_
    subst hv
    replace st := st.call st1 rfl
    clear st1
    rw [show conflictM (⟨[(0, key)], 1, 0, -1, false⟩ : PT) 1 2 = false by simp [doM, registerP, registerE, reserveM, releaseM, freeP, freeE, keyM, setM, inc32, w32, typeB, allB, holdsM, conflictM, reservedM, frM, PT0, hk]]
    refine gT rfl ?_
    refine aN rfl rfl (by constructor) ?_
    refine aN rfl rfl (by constructor) ?_
    refine aN rfl rfl (by constructor) ?_
    refine sE ?_
    refine ⟨_, out1 (r_tmp rfl (by constructor)), ?_⟩
    rfl
theorem reserves3_t {H : Hp} {m : Nat} {key : Int} (hm8 : m < 256) (hm : m % 6 = 3) :
    ACalls Try.prog 5 [.int .u8 (m : Int), .int .u64 key, .bool true] H (fun v _ => v = .bool true) := by
  refine acallsW Try.func5 f5_ok (Nat.le_of_ble_eq_true rfl) fun hw => ?_
  have st : Stt [] H H [] := Stt.start hw
  unfold f5c
  show AWl _ _ _ _ _
  refine aN rfl rfl (by constructor) ?_
  refine sE ?_
  show AWl _ _ _ _ _
  refine aC (awake_call) fun v28 H1 ⟨hv, st1⟩ => ?_
  subst hv
  replace st := st.call st1 rfl
  clear st1
  refine aN rfl rfl (by constructor) ?_
  refine sE ?_
  show AW _ (.cond _ _ _) _ _ _
  refine cF' rfl ?_
  show AWl _ _ _ _ _
  refine aLit st rfl (by repeat constructor) fun b30 H2 st => ?_
  refine aN rfl rfl (by constructor) ?_
  refine sE ?_
  show AWl _ _ _ _ _
  refine aN rfl rfl (by constructor) ?_
  refine aN rfl rfl (by constructor) ?_
  refine aN rfl rfl (by constructor) ?_
  refine aBinV (.int .i64 3) rfl rfl (by have h1 := remN (a := m) (n := 6) (by decide) hm8; rw [hm] at h1; exact h1) ?_
  refine aIxL rfl rfl (by decide) ?_
  refine aLd (v := .int .u8 6) st 0 rfl rfl rfl (by constructor) ?_
  refine aN rfl rfl (by constructor) ?_
  refine sE ?_
  show AWl _ _ _ _ _
  refine aN rfl rfl (by constructor) ?_
  refine aN rfl rfl (by constructor) ?_
  refine sE ?_
  show AW _ (.cond _ _ _) _ _ _
  refine cC' rfl (fun h3 => ?_) (fun h3 => ?_)
  · show AWl _ _ _ _ _
    refine aN rfl rfl (by constructor) ?_
    refine sE ?_
    refine ⟨_, out1 (r_tmp rfl (by constructor)), ?_⟩
    rfl
  · have hk : key ≠ 0 := by simpa using h3
    show AWl _ _ _ _ _
    refine aC (new_call) fun v39 H4 ⟨b39, hv, st1⟩ => ?_
    subst hv
    replace st := st.call st1 rfl
    clear st1
    have st := st.nil 30
    refine aN rfl rfl (by constructor) ?_
    refine sE ?_
    show AWl _ _ _ _ _
    refine aN rfl rfl (by constructor) ?_
    refine aN rfl rfl (by constructor) ?_
    refine aBld rfl (by repeat constructor) ?_
    replace st := st.sel [1, 0, 2] (by decide)
    refine aC (do_call (P := PT0) (n := 0) (o := ⟨0, 0, 0, key, false⟩) (st.get (j := 0) rfl) (st.got 1 rfl).1 (st.got 1 rfl).2 (show _ ≤ _ from (by show (0 : Nat) ≤ 400; decide)) (st.ne 1 0 rfl rfl (by decide))) fun v44 H5 ⟨o44, e44, hv, hc⟩ => ?_
    subst hv
    rw [show doM PT0 0 ⟨0, 0, 0, key, false⟩ = ⟨0, 0, [], (⟨[(0, key)], 1, 0, -1, false⟩ : PT)⟩ from by simp [doM, registerP, registerE, reserveM, releaseM, freeP, freeE, keyM, setM, inc32, w32, typeB, allB, holdsM, conflictM, reservedM, frM, PT0, hk]] at hc ⊢
    replace st := st.tabCall (kr' := ⟨true, 30, (((⟨[(0, key)], 1, 0, -1, false⟩ : PT)).regs).flatMap regE⟩) rfl (hc.imp (fun ⟨a, b, c⟩ => ⟨a, congrArg (fun l : List (Int × Int) => (⟨true, 30, l.flatMap regE⟩ : Blk)) b, c⟩) id)
    clear hc
    refine aN rfl rfl (by constructor) ?_
    refine aN rfl rfl (by constructor) ?_
    refine aN rfl rfl (by constructor) ?_
    refine aExtA rfl rfl ?_
    refine aN rfl rfl (by constructor) ?_
    refine aN rfl rfl (by constructor) ?_
    refine aMovA rfl ?_
    refine sE ?_
    show AWl _ _ _ _ _
    refine aN rfl rfl (by constructor) ?_
    refine sE ?_
    show AW _ (.cond _ _ _) _ _ _
    refine cT rfl ?_
    show AWl _ _ _ _ _
    refine aN rfl rfl (by constructor) ?_
    refine aN rfl rfl (by constructor) ?_
    refine aBld rfl (by repeat constructor) ?_
    replace st := st.sel [0, 1, 2, 3] (by decide)
    refine aC (do_call (P := (⟨[(0, key)], 1, 0, -1, false⟩ : PT)) (n := 1) (o := ⟨6, 0, 0, key, false⟩) (st.get (j := 0) rfl) (st.got 1 rfl).1 (st.got 1 rfl).2 (show _ ≤ _ from (by show (1 : Nat) ≤ 400; decide)) (st.ne 1 0 rfl rfl (by decide))) fun v53 H6 ⟨o53, e53, hv, hc⟩ => ?_
    subst hv
    rw [show doM (⟨[(0, key)], 1, 0, -1, false⟩ : PT) 1 ⟨6, 0, 0, key, false⟩ = ⟨0, 0, [], (⟨[(0, key), (1, key)], 2, 0, -1, false⟩ : PT)⟩ from by simp [doM, registerP, registerE, reserveM, releaseM, freeP, freeE, keyM, setM, inc32, w32, typeB, allB, holdsM, conflictM, reservedM, frM, PT0, hk]] at hc ⊢
    replace st := st.tabCall (kr' := ⟨true, 30, (((⟨[(0, key), (1, key)], 2, 0, -1, false⟩ : PT)).regs).flatMap regE⟩) rfl (hc.imp (fun ⟨a, b, c⟩ => ⟨a, congrArg (fun l : List (Int × Int) => (⟨true, 30, l.flatMap regE⟩ : Blk)) b, c⟩) id)
    clear hc
    refine aN rfl rfl (by constructor) ?_
    refine aN rfl rfl (by constructor) ?_
    refine aN rfl rfl (by constructor) ?_
    refine aExtA rfl rfl ?_
    refine aN rfl rfl (by constructor) ?_
    refine aN rfl rfl (by constructor) ?_
    refine aMovA rfl ?_
    refine sE ?_
    show AWl _ _ _ _ _
    refine aN rfl rfl (by constructor) ?_
    refine aBinV (.bool false) rfl rfl rfl ?_
    refine sE ?_
    show AW _ (.cond _ _ _) _ _ _
    refine cF' rfl ?_
    show AWl _ _ _ _ _
    refine aN rfl rfl (by constructor) ?_
    refine aN rfl rfl (by constructor) ?_
    refine aN rfl rfl (by constructor) ?_
    refine aBldA rfl (by repeat constructor) ?_
    replace st := st.sel [0, 1, 2, 3, 4] (by decide)
    refine aC (do_call (P := (⟨[(0, key), (1, key)], 2, 0, -1, false⟩ : PT)) (n := 0) (o := ⟨1, 6, key, 0, false⟩) (st.get (j := 0) rfl) (st.got 1 rfl).1 (st.got 1 rfl).2 (show _ ≤ _ from (by show (2 : Nat) ≤ 400; decide)) (st.ne 1 0 rfl rfl (by decide))) fun v64 H7 ⟨o64, e64, hv, hc⟩ => ?_
    subst hv
    rw [show doM (⟨[(0, key), (1, key)], 2, 0, -1, false⟩ : PT) 0 ⟨1, 6, key, 0, false⟩ = ⟨0, 0, [], (⟨[(0, key), (1, key)], 2, 6, 0, false⟩ : PT)⟩ from by simp [doM, registerP, registerE, reserveM, releaseM, freeP, freeE, keyM, setM, inc32, w32, typeB, allB, holdsM, conflictM, reservedM, frM, PT0, hk]] at hc ⊢
    replace st := st.tabCall (kr' := ⟨true, 30, (((⟨[(0, key), (1, key)], 2, 6, 0, false⟩ : PT)).regs).flatMap regE⟩) rfl (hc.imp (fun ⟨a, b, c⟩ => ⟨a, congrArg (fun l : List (Int × Int) => (⟨true, 30, l.flatMap regE⟩ : Blk)) b, c⟩) id)
    clear hc
    refine aN rfl rfl (by constructor) ?_
    refine aN rfl rfl (by constructor) ?_
    refine aN rfl rfl (by constructor) ?_
    refine aExtA rfl rfl ?_
    refine aN rfl rfl (by constructor) ?_
    refine aN rfl rfl (by constructor) ?_
    refine aMovA rfl ?_
    refine sE ?_
    show AWl _ _ _ _ _
    refine aN rfl rfl (by constructor) ?_
    refine aBinV (.bool false) rfl rfl rfl ?_
    refine aN rfl rfl (by constructor) ?_
    refine gT rfl ?_
    refine aN rfl rfl (by constructor) ?_
    refine gT rfl ?_
    refine aBinV (.bool false) rfl rfl rfl ?_
    refine aN rfl rfl (by constructor) ?_
    refine aN rfl rfl (by constructor) ?_
    refine gT rfl ?_
    refine aN rfl rfl (by constructor) ?_
    refine gT rfl ?_
    refine aC (holds_call (P := (⟨[(0, key), (1, key)], 2, 6, 0, false⟩ : PT)) (n := 0) (st.get (j := 0) rfl) (st.rowAcc 1 rfl (by decide) (flat_len' regE_len _)) (show (2 : Nat) ≤ 1000 by decide)) fun v76 H8 ⟨hv, st1⟩ => ?_
    subst hv
    replace st := st.call st1 rfl
    clear st1
    rw [show holdsM (⟨[(0, key), (1, key)], 2, 6, 0, false⟩ : PT) 0 = true by simp [doM, registerP, registerE, reserveM, releaseM, freeP, freeE, keyM, setM, inc32, w32, typeB, allB, holdsM, conflictM, reservedM, frM, PT0, hk]]
    refine gT rfl ?_
    refine aN rfl rfl (by constructor) ?_
    refine aN rfl rfl (by constructor) ?_
    refine aN rfl rfl (by constructor) ?_
    refine gT rfl ?_
    refine aN rfl rfl (by constructor) ?_
    refine gT rfl ?_
    refine aC (holds_call (P := (⟨[(0, key), (1, key)], 2, 6, 0, false⟩ : PT)) (n := 1) (st.get (j := 0) rfl) (st.rowAcc 1 rfl (by decide) (flat_len' regE_len _)) (show (2 : Nat) ≤ 1000 by decide)) fun v81 H9 ⟨hv, st1⟩ => ?_
    subst hv
    replace st := st.call st1 rfl
    clear st1
    rw [show holdsM (⟨[(0, key), (1, key)], 2, 6, 0, false⟩ : PT) 1 = false by simp [doM, registerP, registerE, reserveM, releaseM, freeP, freeE, keyM, setM, inc32, w32, typeB, allB, holdsM, conflictM, reservedM, frM, PT0, hk]]
    refine gT rfl ?_
    refine aN rfl rfl (by constructor) ?_
    refine gT rfl ?_
    refine aN rfl rfl (by constructor) ?_
    refine gT rfl ?_
    refine aN rfl rfl (by constructor) ?_
    refine gT rfl ?_
    refine aC (all_call) fun v85 H10 ⟨hv, st1⟩ => ?_
    subst hv
    replace st := st.call st1 rfl
    clear st1
    refine gT rfl ?_
    refine aN rfl rfl (by constructor) ?_
    refine gT rfl ?_
    refine aBinV (.bool false) rfl rfl rfl ?_
    refine aN rfl rfl (by constructor) ?_
    refine sE ?_
    show AW _ (.cond _ _ _) _ _ _
    refine cF' rfl ?_
    show AWl _ _ _ _ _
    refine aN rfl rfl (by constructor) ?_
    refine aC (conflict_call (P := (⟨[(0, key), (1, key)], 2, 6, 0, false⟩ : PT)) (n := 1) (c := 1) (st.get (j := 0) rfl) (st.rowAcc 1 rfl (by decide) (flat_len' regE_len _)) (show (2 : Nat) ≤ 1000 by decide)) fun v90 H11 ⟨hv, st1⟩ => ?_
    subst hv
    replace st := st.call st1 rfl
    clear st1
    rw [show conflictM (⟨[(0, key), (1, key)], 2, 6, 0, false⟩ : PT) 1 1 = false by simp [doM, registerP, registerE, reserveM, releaseM, freeP, freeE, keyM, setM, inc32, w32, typeB, allB, holdsM, conflictM, reservedM, frM, PT0, hk]]
    refine aN rfl rfl (by constructor) ?_
    refine sE ?_
    show AWl _ _ _ _ _
    refine aN rfl rfl (by constructor) ?_
    refine aC (conflict_call (P := (⟨[(0, key), (1, key)], 2, 6, 0, false⟩ : PT)) (n := 1) (c := 2) (st.get (j := 0) rfl) (st.rowAcc 1 rfl (by decide) (flat_len' regE_len _)) (show (2 : Nat) ≤ 1000 by decide)) fun v92 H12 ⟨hv, st1⟩ => ?_
    subst hv
    replace st := st.call st1 rfl
    clear st1
    rw [show conflictM (⟨[(0, key), (1, key)], 2, 6, 0, false⟩ : PT) 1 2 = false by simp [doM, registerP, registerE, reserveM, releaseM, freeP, freeE, keyM, setM, inc32, w32, typeB, allB, holdsM, conflictM, reservedM, frM, PT0, hk]]
    refine aN rfl rfl (by constructor) ?_
    refine sE ?_
    show AWl _ _ _ _ _
    refine aN rfl rfl (by constructor) ?_
    refine aN rfl rfl (by constructor) ?_
    refine gT rfl ?_
    refine aN rfl rfl (by constructor) ?_
    refine gT rfl ?_
    refine aBinV (.bool true) rfl rfl rfl ?_
    refine aN rfl rfl (by constructor) ?_
    refine aN rfl rfl (by constructor) ?_
    refine sE ?_
    show AWl _ _ _ _ _
    refine aN rfl rfl (by constructor) ?_
    refine aN rfl rfl (by constructor) ?_
    refine aN rfl rfl (by constructor) ?_
    refine aBinV (.bool false) rfl rfl rfl ?_
    refine aN rfl rfl (by constructor) ?_
    refine gT rfl ?_
    refine aN rfl rfl (by constructor) ?_
    refine gT rfl ?_
    refine aN rfl rfl (by constructor) ?_
    refine gT rfl ?_
    refine aBinV (.bool false) rfl rfl rfl ?_
    refine gT rfl ?_
    refine aN rfl rfl (by constructor) ?_
    refine gT rfl ?_
    refine aN rfl rfl (by constructor) ?_
    refine gT rfl ?_
    refine aBinV (.bool true) rfl rfl rfl ?_
    refine gT rfl ?_
    refine aN rfl rfl (by constructor) ?_
    refine gT rfl ?_
    refine aN rfl rfl (by constructor) ?_
    refine gF rfl (by decide) ?_
    refine gF rfl (by decide) ?_
    refine gT rfl ?_
    refine aN rfl rfl (by constructor) ?_
    refine gT rfl ?_
    refine aN rfl rfl (by constructor) ?_
    refine gT rfl ?_
    refine aN rfl rfl (by constructor) ?_
    refine gT rfl ?_
    refine aN rfl rfl (by constructor) ?_
    refine gT rfl ?_
    refine aN rfl rfl (by constructor) ?_
    refine gT rfl ?_
    refine aBinV (.bool false) rfl rfl rfl ?_
    refine aN rfl rfl (by constructor) ?_
    refine sE ?_
    show AW _ (.cond _ _ _) _ _ _
    refine cF' rfl ?_
    show AWl _ _ _ _ _
    refine aN rfl rfl (by constructor) ?_
    refine aN rfl rfl (by constructor) ?_
    refine aN rfl rfl (by constructor) ?_
    refine aBldA rfl (by repeat constructor) ?_
    replace st := st.sel [0, 1, 2, 3, 4, 5] (by decide)
    refine aC (do_call (P := (⟨[(0, key), (1, key)], 2, 6, 0, false⟩ : PT)) (n := 0) (o := ⟨2, 6, key, 0, false⟩) (st.get (j := 0) rfl) (st.got 1 rfl).1 (st.got 1 rfl).2 (show _ ≤ _ from (by show (2 : Nat) ≤ 400; decide)) (st.ne 1 0 rfl rfl (by decide))) fun v125 H13 ⟨o125, e125, hv, hc⟩ => ?_
    subst hv
    rw [show doM (⟨[(0, key), (1, key)], 2, 6, 0, false⟩ : PT) 0 ⟨2, 6, key, 0, false⟩ = ⟨0, 0, [(1, 10756)], (⟨[(0, key), (1, key)], 2, 0, -1, false⟩ : PT)⟩ from by simp [doM, registerP, registerE, reserveM, releaseM, freeP, freeE, keyM, setM, inc32, w32, typeB, allB, holdsM, conflictM, reservedM, frM, PT0, hk]] at hc ⊢
    replace st := st.tabCall (kr' := ⟨true, 30, (((⟨[(0, key), (1, key)], 2, 0, -1, false⟩ : PT)).regs).flatMap regE⟩) rfl (hc.imp (fun ⟨a, b, c⟩ => ⟨a, congrArg (fun l : List (Int × Int) => (⟨true, 30, l.flatMap regE⟩ : Blk)) b, c⟩) id)
    clear hc
    refine aN rfl rfl (by constructor) ?_
    refine aN rfl rfl (by constructor) ?_
    refine aN rfl rfl (by constructor) ?_
    refine aExtA rfl rfl ?_
    refine aN rfl rfl (by constructor) ?_
    refine aN rfl rfl (by constructor) ?_
    refine aMovA rfl ?_
    refine sE ?_
    show AWl _ _ _ _ _
    refine aN rfl rfl (by constructor) ?_
    refine sE ?_
    show AWl _ _ _ _ _
    refine aN rfl rfl (by constructor) ?_
    refine aN rfl rfl (by constructor) ?_
    refine gT rfl ?_
    refine aN rfl rfl (by constructor) ?_
    refine gT rfl ?_
    refine aBinV (.bool true) rfl rfl rfl ?_
    refine aN rfl rfl (by constructor) ?_
    refine sE ?_
    show AW _ (.cond _ _ _) _ _ _
    refine cT rfl ?_
    show AWl _ _ _ _ _
    refine aN rfl rfl (by constructor) ?_
    refine sE ?_
    show AWl _ _ _ _ _
    refine aN rfl rfl (by constructor) ?_
    refine aC (reserved_call (P := (⟨[(0, key), (1, key)], 2, 0, -1, false⟩ : PT)) (st.get (j := 0) rfl) (st.rowAcc 1 rfl (by decide) (flat_len' regE_len _)) (show (2 : Nat) ≤ 1000 by decide)) fun v136 H14 ⟨hv, st1⟩ => ?_
    subst hv
    replace st := st.call st1 rfl
    clear st1
    refine aN rfl rfl (by constructor) ?_
    refine aN rfl rfl (by constructor) ?_
    refine aN rfl rfl (by constructor) ?_
    refine aN rfl rfl (by constructor) ?_
    refine aN rfl rfl (by constructor) ?_
    refine sE ?_
    show AWl _ _ _ _ _
    refine aN rfl rfl (by constructor) ?_
    refine aBinV (.bool true) rfl rfl rfl ?_
    refine aN rfl rfl (by constructor) ?_
    refine gT rfl ?_
    refine aMovA rfl ?_
    refine gT rfl ?_
    refine aLen (st.rowAcc 2 rfl (by decide) (by exact flat_len' evE_len _)) rfl ?_
    refine gT rfl ?_
    refine aN rfl rfl (by constructor) ?_
    refine gT rfl ?_
    refine aBinV (.bool true) rfl rfl rfl ?_
    refine aN rfl rfl (by constructor) ?_
    refine aN rfl rfl (by constructor) ?_
    refine gT rfl ?_
    refine aN rfl rfl (by constructor) ?_
    refine gT rfl ?_
    refine aBinV (.bool true) rfl rfl rfl ?_
    refine aN rfl rfl (by constructor) ?_
    refine aN rfl rfl (by constructor) ?_
    refine gT rfl ?_
    refine aN rfl rfl (by constructor) ?_
    refine gT rfl ?_
    refine aC (conflict_call (P := (⟨[(0, key), (1, key)], 2, 0, -1, false⟩ : PT)) (n := 1) (c := 2) (st.get (j := 0) rfl) (st.rowAcc 1 rfl (by decide) (flat_len' regE_len _)) (show (2 : Nat) ≤ 1000 by decide)) fun v153 H15 ⟨hv, st1⟩ => ?_
    subst hv
    replace st := st.call st1 rfl
    clear st1
    rw [show conflictM (⟨[(0, key), (1, key)], 2, 0, -1, false⟩ : PT) 1 2 = false by simp [doM, registerP, registerE, reserveM, releaseM, freeP, freeE, keyM, setM, inc32, w32, typeB, allB, holdsM, conflictM, reservedM, frM, PT0, hk]]
    refine gT rfl ?_
    refine aN rfl rfl (by constructor) ?_
    refine aN rfl rfl (by constructor) ?_
    refine aN rfl rfl (by constructor) ?_
    refine sE ?_
    refine ⟨_, out1 (r_tmp rfl (by constructor)), ?_⟩
    rfl
theorem reserves4_f {H : Hp} {m : Nat} {key : Int} (hm8 : m < 256) (hm : m % 6 = 4) :
    ACalls Try.prog 5 [.int .u8 (m : Int), .int .u64 key, .bool false] H (fun v _ => v = .bool true) := by
  refine acallsW Try.func5 f5_ok (Nat.le_of_ble_eq_true rfl) fun hw => ?_
  have st : Stt [] H H [] := Stt.start hw
  unfold f5c
  show AWl _ _ _ _ _
  refine aN rfl rfl (by constructor) ?_
  refine sE ?_
  show AWl _ _ _ _ _
  refine aC (awake_call) fun v28 H1 ⟨hv, st1⟩ => ?_
  subst hv
  replace st := st.call st1 rfl
  clear st1
  refine aN rfl rfl (by constructor) ?_
  refine sE ?_
  show AW _ (.cond _ _ _) _ _ _
  refine cF' rfl ?_
  show AWl _ _ _ _ _
  refine aLit st rfl (by repeat constructor) fun b30 H2 st => ?_
  refine aN rfl rfl (by constructor) ?_
  refine sE ?_
  show AWl _ _ _ _ _
  refine aN rfl rfl (by constructor) ?_
  refine aN rfl rfl (by constructor) ?_
  refine aN rfl rfl (by constructor) ?_
  refine aBinV (.int .i64 4) rfl rfl (by have h1 := remN (a := m) (n := 6) (by decide) hm8; rw [hm] at h1; exact h1) ?_
  refine aIxL rfl rfl (by decide) ?_
  refine aLd (v := .int .u8 7) st 0 rfl rfl rfl (by constructor) ?_
  refine aN rfl rfl (by constructor) ?_
  refine sE ?_
  show AWl _ _ _ _ _
  refine aN rfl rfl (by constructor) ?_
  refine aN rfl rfl (by constructor) ?_
  refine sE ?_
  show AW _ (.cond _ _ _) _ _ _
  refine cC' rfl (fun h3 => ?_) (fun h3 => ?_)
  · show AWl _ _ _ _ _
    refine aN rfl rfl (by constructor) ?_
    refine sE ?_
    refine ⟨_, out1 (r_tmp rfl (by constructor)), ?_⟩
    rfl
  · have hk : key ≠ 0 := by simpa using h3
    show AWl _ _ _ _ _
    refine aC (new_call) fun v39 H4 ⟨b39, hv, st1⟩ => ?_
    subst hv
    replace st := st.call st1 rfl
    clear st1
    have st := st.nil 30
    refine aN rfl rfl (by constructor) ?_
    refine sE ?_
    show AWl _ _ _ _ _
    refine aN rfl rfl (by constructor) ?_
    refine aN rfl rfl (by constructor) ?_
    refine aBld rfl (by repeat constructor) ?_
    replace st := st.sel [1, 0, 2] (by decide)
    refine aC (do_call (P := PT0) (n := 0) (o := ⟨0, 0, 0, key, false⟩) (st.get (j := 0) rfl) (st.got 1 rfl).1 (st.got 1 rfl).2 (show _ ≤ _ from (by show (0 : Nat) ≤ 400; decide)) (st.ne 1 0 rfl rfl (by decide))) fun v44 H5 ⟨o44, e44, hv, hc⟩ => ?_
    subst hv
    rw [show doM PT0 0 ⟨0, 0, 0, key, false⟩ = ⟨0, 0, [], (⟨[(0, key)], 1, 0, -1, false⟩ : PT)⟩ from by simp [doM, registerP, registerE, reserveM, releaseM, freeP, freeE, keyM, setM, inc32, w32, typeB, allB, holdsM, conflictM, reservedM, frM, PT0, hk]] at hc ⊢
    replace st := st.tabCall (kr' := ⟨true, 30, (((⟨[(0, key)], 1, 0, -1, false⟩ : PT)).regs).flatMap regE⟩) rfl (hc.imp (fun ⟨a, b, c⟩ => ⟨a, congrArg (fun l : List (Int × Int) => (⟨true, 30, l.flatMap regE⟩ : Blk)) b, c⟩) id)
    clear hc
    refine aN rfl rfl (by constructor) ?_
    refine aN rfl rfl (by constructor) ?_
    refine aN rfl rfl (by constructor) ?_
    refine aExtA rfl rfl ?_
    refine aN rfl rfl (by constructor) ?_
    refine aN rfl rfl (by constructor) ?_
    refine aMovA rfl ?_
    refine sE ?_
    show AWl _ _ _ _ _
    refine aN rfl rfl (by constructor) ?_
    refine sE ?_
    show AW _ (.cond _ _ _) _ _ _
    refine cF' rfl ?_
    show AWl _ _ _ _ _
    refine aN rfl rfl (by constructor) ?_
    refine aN rfl rfl (by constructor) ?_
    refine aN rfl rfl (by constructor) ?_
    refine aBldA rfl (by repeat constructor) ?_
    replace st := st.sel [0, 1, 2, 3] (by decide)
    refine aC (do_call (P := (⟨[(0, key)], 1, 0, -1, false⟩ : PT)) (n := 0) (o := ⟨1, 7, key, 0, false⟩) (st.get (j := 0) rfl) (st.got 1 rfl).1 (st.got 1 rfl).2 (show _ ≤ _ from (by show (1 : Nat) ≤ 400; decide)) (st.ne 1 0 rfl rfl (by decide))) fun v64 H6 ⟨o64, e64, hv, hc⟩ => ?_
    subst hv
    rw [show doM (⟨[(0, key)], 1, 0, -1, false⟩ : PT) 0 ⟨1, 7, key, 0, false⟩ = ⟨0, 0, [], (⟨[(0, key)], 1, 7, 0, false⟩ : PT)⟩ from by simp [doM, registerP, registerE, reserveM, releaseM, freeP, freeE, keyM, setM, inc32, w32, typeB, allB, holdsM, conflictM, reservedM, frM, PT0, hk]] at hc ⊢
    replace st := st.tabCall (kr' := ⟨true, 30, (((⟨[(0, key)], 1, 7, 0, false⟩ : PT)).regs).flatMap regE⟩) rfl (hc.imp (fun ⟨a, b, c⟩ => ⟨a, congrArg (fun l : List (Int × Int) => (⟨true, 30, l.flatMap regE⟩ : Blk)) b, c⟩) id)
    clear hc
    refine aN rfl rfl (by constructor) ?_
    refine aN rfl rfl (by constructor) ?_
    refine aN rfl rfl (by constructor) ?_
    refine aExtA rfl rfl ?_
    refine aN rfl rfl (by constructor) ?_
    refine aN rfl rfl (by constructor) ?_
    refine aMovA rfl ?_
    refine sE ?_
    show AWl _ _ _ _ _
    refine aN rfl rfl (by constructor) ?_
    refine aBinV (.bool false) rfl rfl rfl ?_
    refine aN rfl rfl (by constructor) ?_
    refine gT rfl ?_
    refine aN rfl rfl (by constructor) ?_
    refine gT rfl ?_
    refine aBinV (.bool false) rfl rfl rfl ?_
    refine aN rfl rfl (by constructor) ?_
    refine aN rfl rfl (by constructor) ?_
    refine gT rfl ?_
    refine aN rfl rfl (by constructor) ?_
    refine gT rfl ?_
    refine aC (holds_call (P := (⟨[(0, key)], 1, 7, 0, false⟩ : PT)) (n := 0) (st.get (j := 0) rfl) (st.rowAcc 1 rfl (by decide) (flat_len' regE_len _)) (show (1 : Nat) ≤ 1000 by decide)) fun v76 H7 ⟨hv, st1⟩ => ?_
    subst hv
    replace st := st.call st1 rfl
    clear st1
    rw [show holdsM (⟨[(0, key)], 1, 7, 0, false⟩ : PT) 0 = true by simp [doM, registerP, registerE, reserveM, releaseM, freeP, freeE, keyM, setM, inc32, w32, typeB, allB, holdsM, conflictM, reservedM, frM, PT0, hk]]
    refine gT rfl ?_
    refine aN rfl rfl (by constructor) ?_
    refine aN rfl rfl (by constructor) ?_
    refine aN rfl rfl (by constructor) ?_
    refine gT rfl ?_
    refine aN rfl rfl (by constructor) ?_
    refine gT rfl ?_
    refine aC (holds_call (P := (⟨[(0, key)], 1, 7, 0, false⟩ : PT)) (n := 1) (st.get (j := 0) rfl) (st.rowAcc 1 rfl (by decide) (flat_len' regE_len _)) (show (1 : Nat) ≤ 1000 by decide)) fun v81 H8 ⟨hv, st1⟩ => ?_
    subst hv
    replace st := st.call st1 rfl
    clear st1
    rw [show holdsM (⟨[(0, key)], 1, 7, 0, false⟩ : PT) 1 = false by simp [doM, registerP, registerE, reserveM, releaseM, freeP, freeE, keyM, setM, inc32, w32, typeB, allB, holdsM, conflictM, reservedM, frM, PT0, hk]]
    refine gT rfl ?_
    refine aN rfl rfl (by constructor) ?_
    refine gT rfl ?_
    refine aN rfl rfl (by constructor) ?_
    refine gF rfl (by decide) ?_
    refine gF rfl (by decide) ?_
    refine gT rfl ?_
    refine aN rfl rfl (by constructor) ?_
    refine gT rfl ?_
    refine aBinV (.bool false) rfl rfl rfl ?_
    refine aN rfl rfl (by constructor) ?_
    refine sE ?_
    show AW _ (.cond _ _ _) _ _ _
    refine cF' rfl ?_
    show AWl _ _ _ _ _
    refine aN rfl rfl (by constructor) ?_
    refine aC (conflict_call (P := (⟨[(0, key)], 1, 7, 0, false⟩ : PT)) (n := 1) (c := 1) (st.get (j := 0) rfl) (st.rowAcc 1 rfl (by decide) (flat_len' regE_len _)) (show (1 : Nat) ≤ 1000 by decide)) fun v90 H9 ⟨hv, st1⟩ => ?_
    subst hv
    replace st := st.call st1 rfl
    clear st1
    rw [show conflictM (⟨[(0, key)], 1, 7, 0, false⟩ : PT) 1 1 = false by simp [doM, registerP, registerE, reserveM, releaseM, freeP, freeE, keyM, setM, inc32, w32, typeB, allB, holdsM, conflictM, reservedM, frM, PT0, hk]]
    refine aN rfl rfl (by constructor) ?_
    refine sE ?_
    show AWl _ _ _ _ _
    refine aN rfl rfl (by constructor) ?_
    refine aC (conflict_call (P := (⟨[(0, key)], 1, 7, 0, false⟩ : PT)) (n := 1) (c := 2) (st.get (j := 0) rfl) (st.rowAcc 1 rfl (by decide) (flat_len' regE_len _)) (show (1 : Nat) ≤ 1000 by decide)) fun v92 H10 ⟨hv, st1⟩ => ?_
    subst hv
    replace st := st.call st1 rfl
    clear st1
    rw [show conflictM (⟨[(0, key)], 1, 7, 0, false⟩ : PT) 1 2 = true by simp [doM, registerP, registerE, reserveM, releaseM, freeP, freeE, keyM, setM, inc32, w32, typeB, allB, holdsM, conflictM, reservedM, frM, PT0, hk]]
    refine aN rfl rfl (by constructor) ?_
    refine sE ?_
    show AWl _ _ _ _ _
    refine aN rfl rfl (by constructor) ?_
    refine aN rfl rfl (by constructor) ?_
    refine gF rfl (by decide) ?_
    refine gF rfl (by decide) ?_
    refine aN rfl rfl (by constructor) ?_
    refine aN rfl rfl (by constructor) ?_
    refine sE ?_
    show AWl _ _ _ _ _
    refine aN rfl rfl (by constructor) ?_
    refine aN rfl rfl (by constructor) ?_
    refine aN rfl rfl (by constructor) ?_
    refine aBinV (.bool false) rfl rfl rfl ?_
    refine aN rfl rfl (by constructor) ?_
    refine gT rfl ?_
    refine aN rfl rfl (by constructor) ?_
    refine gT rfl ?_
    refine aN rfl rfl (by constructor) ?_
    refine gT rfl ?_
    refine aBinV (.bool false) rfl rfl rfl ?_
    refine gT rfl ?_
    refine aN rfl rfl (by constructor) ?_
    refine gT rfl ?_
    refine aN rfl rfl (by constructor) ?_
    refine gT rfl ?_
    refine aBinV (.bool false) rfl rfl rfl ?_
    refine gT rfl ?_
    refine aN rfl rfl (by constructor) ?_
    refine gT rfl ?_
    refine aN rfl rfl (by constructor) ?_
    refine gT rfl ?_
    refine aN rfl rfl (by constructor) ?_
    refine gT rfl ?_
    refine aBinV (.bool false) rfl rfl rfl ?_
    refine gT rfl ?_
    refine aN rfl rfl (by constructor) ?_
    refine gT rfl ?_
    refine aN rfl rfl (by constructor) ?_
    refine gF rfl (by decide) ?_
    refine gF rfl (by decide) ?_
    refine gT rfl ?_
    refine aN rfl rfl (by constructor) ?_
    refine gT rfl ?_
    refine aBinV (.bool false) rfl rfl rfl ?_
    refine aN rfl rfl (by constructor) ?_
    refine sE ?_
    show AW _ (.cond _ _ _) _ _ _
    refine cF' rfl ?_
    show AWl _ _ _ _ _
    refine aN rfl rfl (by constructor) ?_
    refine aN rfl rfl (by constructor) ?_
    refine aN rfl rfl (by constructor) ?_
    refine aBldA rfl (by repeat constructor) ?_
    replace st := st.sel [0, 1, 2, 3, 4] (by decide)
    refine aC (do_call (P := (⟨[(0, key)], 1, 7, 0, false⟩ : PT)) (n := 0) (o := ⟨2, 7, key, 0, false⟩) (st.get (j := 0) rfl) (st.got 1 rfl).1 (st.got 1 rfl).2 (show _ ≤ _ from (by show (1 : Nat) ≤ 400; decide)) (st.ne 1 0 rfl rfl (by decide))) fun v125 H11 ⟨o125, e125, hv, hc⟩ => ?_
    subst hv
    rw [show doM (⟨[(0, key)], 1, 7, 0, false⟩ : PT) 0 ⟨2, 7, key, 0, false⟩ = ⟨0, 0, [], (⟨[(0, key)], 1, 0, -1, false⟩ : PT)⟩ from by simp [doM, registerP, registerE, reserveM, releaseM, freeP, freeE, keyM, setM, inc32, w32, typeB, allB, holdsM, conflictM, reservedM, frM, PT0, hk]] at hc ⊢
    replace st := st.tabCall (kr' := ⟨true, 30, (((⟨[(0, key)], 1, 0, -1, false⟩ : PT)).regs).flatMap regE⟩) rfl (hc.imp (fun ⟨a, b, c⟩ => ⟨a, congrArg (fun l : List (Int × Int) => (⟨true, 30, l.flatMap regE⟩ : Blk)) b, c⟩) id)
    clear hc
    refine aN rfl rfl (by constructor) ?_
    refine aN rfl rfl (by constructor) ?_
    refine aN rfl rfl (by constructor) ?_
    refine aExtA rfl rfl ?_
    refine aN rfl rfl (by constructor) ?_
    refine aN rfl rfl (by constructor) ?_
    refine aMovA rfl ?_
    refine sE ?_
    show AWl _ _ _ _ _
    refine aN rfl rfl (by constructor) ?_
    refine sE ?_
    show AWl _ _ _ _ _
    refine aN rfl rfl (by constructor) ?_
    refine aN rfl rfl (by constructor) ?_
    refine gF rfl (by decide) ?_
    refine gF rfl (by decide) ?_
    refine aN rfl rfl (by constructor) ?_
    refine sE ?_
    show AW _ (.cond _ _ _) _ _ _
    refine cF' rfl ?_
    show AWl _ _ _ _ _
    refine aN rfl rfl (by constructor) ?_
    refine aC (reserved_call (P := (⟨[(0, key)], 1, 0, -1, false⟩ : PT)) (st.get (j := 0) rfl) (st.rowAcc 1 rfl (by decide) (flat_len' regE_len _)) (show (1 : Nat) ≤ 1000 by decide)) fun v136 H12 ⟨hv, st1⟩ => ?_
    subst hv
    replace st := st.call st1 rfl
    clear st1
    refine aN rfl rfl (by constructor) ?_
    refine aN rfl rfl (by constructor) ?_
    refine aN rfl rfl (by constructor) ?_
    refine aN rfl rfl (by constructor) ?_
    refine aN rfl rfl (by constructor) ?_
    refine sE ?_
    show AWl _ _ _ _ _
    refine aN rfl rfl (by constructor) ?_
    refine aBinV (.bool true) rfl rfl rfl ?_
    refine aN rfl rfl (by constructor) ?_
    refine gT rfl ?_
    refine aMovA rfl ?_
    refine gT rfl ?_
    refine aLen (st.rowAcc 2 rfl (by decide) (by exact flat_len' evE_len _)) rfl ?_
    refine gT rfl ?_
    refine aN rfl rfl (by constructor) ?_
    refine gT rfl ?_
    refine aBinV (.bool true) rfl rfl rfl ?_
    refine aN rfl rfl (by constructor) ?_
    refine aN rfl rfl (by constructor) ?_
    refine gT rfl ?_
    refine aN rfl rfl (by constructor) ?_
    refine gT rfl ?_
    refine aBinV (.bool true) rfl rfl rfl ?_
    refine aN rfl rfl (by constructor) ?_
    refine aN rfl rfl (by constructor) ?_
    refine gT rfl ?_
    refine aN rfl rfl (by constructor) ?_
    refine gT rfl ?_
    refine aC (conflict_call (P := (⟨[(0, key)], 1, 0, -1, false⟩ : PT)) (n := 1) (c := 2) (st.get (j := 0) rfl) (st.rowAcc 1 rfl (by decide) (flat_len' regE_len _)) (show (1 : Nat) ≤ 1000 by decide)) fun v153 H13 ⟨hv, st1⟩ => ?_
    subst hv
    replace st := st.call st1 rfl
    clear st1
    rw [show conflictM (⟨[(0, key)], 1, 0, -1, false⟩ : PT) 1 2 = false by simp [doM, registerP, registerE, reserveM, releaseM, freeP, freeE, keyM, setM, inc32, w32, typeB, allB, holdsM, conflictM, reservedM, frM, PT0, hk]]
    refine gT rfl ?_
    refine aN rfl rfl (by constructor) ?_
    refine aN rfl rfl (by constructor) ?_
    refine aN rfl rfl (by constructor) ?_
    refine sE ?_
    refine ⟨_, out1 (r_tmp rfl (by constructor)), ?_⟩
    rfl
theorem reserves4_t {H : Hp} {m : Nat} {key : Int} (hm8 : m < 256) (hm : m % 6 = 4) :
    ACalls Try.prog 5 [.int .u8 (m : Int), .int .u64 key, .bool true] H (fun v _ => v = .bool true) := by
  refine acallsW Try.func5 f5_ok (Nat.le_of_ble_eq_true rfl) fun hw => ?_
  have st : Stt [] H H [] := Stt.start hw
  unfold f5c
  show AWl _ _ _ _ _
  refine aN rfl rfl (by constructor) ?_
  refine sE ?_
  show AWl _ _ _ _ _
  refine aC (awake_call) fun v28 H1 ⟨hv, st1⟩ => ?_
  subst hv
  replace st := st.call st1 rfl
  clear st1
  refine aN rfl rfl (by constructor) ?_
  refine sE ?_
  show AW _ (.cond _ _ _) _ _ _
  refine cF' rfl ?_
  show AWl _ _ _ _ _
  refine aLit st rfl (by repeat constructor) fun b30 H2 st => ?_
  refine aN rfl rfl (by constructor) ?_
  refine sE ?_
  show AWl _ _ _ _ _
  refine aN rfl rfl (by constructor) ?_
  refine aN rfl rfl (by constructor) ?_
  refine aN rfl rfl (by constructor) ?_
  refine aBinV (.int .i64 4) rfl rfl (by have h1 := remN (a := m) (n := 6) (by decide) hm8; rw [hm] at h1; exact h1) ?_
  refine aIxL rfl rfl (by decide) ?_
  refine aLd (v := .int .u8 7) st 0 rfl rfl rfl (by constructor) ?_
  refine aN rfl rfl (by constructor) ?_
  refine sE ?_
  show AWl _ _ _ _ _
  refine aN rfl rfl (by constructor) ?_
  refine aN rfl rfl (by constructor) ?_
  refine sE ?_
  show AW _ (.cond _ _ _) _ _ _
  refine cC' rfl (fun h3 => ?_) (fun h3 => ?_)
  · show AWl _ _ _ _ _
    refine aN rfl rfl (by constructor) ?_
    refine sE ?_
    refine ⟨_, out1 (r_tmp rfl (by constructor)), ?_⟩
    rfl
  · have hk : key ≠ 0 := by simpa using h3
    show AWl _ _ _ _ _
    refine aC (new_call) fun v39 H4 ⟨b39, hv, st1⟩ => ?_
    subst hv
    replace st := st.call st1 rfl
    clear st1
    have st := st.nil 30
    refine aN rfl rfl (by constructor) ?_
    refine sE ?_
    show AWl _ _ _ _ _
    refine aN rfl rfl (by constructor) ?_
    refine aN rfl rfl (by constructor) ?_
    refine aBld rfl (by repeat constructor) ?_
    replace st := st.sel [1, 0, 2] (by decide)
    refine aC (do_call (P := PT0) (n := 0) (o := ⟨0, 0, 0, key, false⟩) (st.get (j := 0) rfl) (st.got 1 rfl).1 (st.got 1 rfl).2 (show _ ≤ _ from (by show (0 : Nat) ≤ 400; decide)) (st.ne 1 0 rfl rfl (by decide))) fun v44 H5 ⟨o44, e44, hv, hc⟩ => ?_
    subst hv
    rw [show doM PT0 0 ⟨0, 0, 0, key, false⟩ = ⟨0, 0, [], (⟨[(0, key)], 1, 0, -1, false⟩ : PT)⟩ from by simp [doM, registerP, registerE, reserveM, releaseM, freeP, freeE, keyM, setM, inc32, w32, typeB, allB, holdsM, conflictM, reservedM, frM, PT0, hk]] at hc ⊢
    replace st := st.tabCall (kr' := ⟨true, 30, (((⟨[(0, key)], 1, 0, -1, false⟩ : PT)).regs).flatMap regE⟩) rfl (hc.imp (fun ⟨a, b, c⟩ => ⟨a, congrArg (fun l : List (Int × Int) => (⟨true, 30, l.flatMap regE⟩ : Blk)) b, c⟩) id)
    clear hc
    refine aN rfl rfl (by constructor) ?_
    refine aN rfl rfl (by constructor) ?_
    refine aN rfl rfl (by constructor) ?_
    refine aExtA rfl rfl ?_
    refine aN rfl rfl (by constructor) ?_
    refine aN rfl rfl (by constructor) ?_
    refine aMovA rfl ?_
    refine sE ?_
    show AWl _ _ _ _ _
    refine aN rfl rfl (by constructor) ?_
    refine sE ?_
    show AW _ (.cond _ _ _) _ _ _
    refine cT rfl ?_
    show AWl _ _ _ _ _
    refine aN rfl rfl (by constructor) ?_
    refine aN rfl rfl (by constructor) ?_
    refine aBld rfl (by repeat constructor) ?_
    replace st := st.sel [0, 1, 2, 3] (by decide)
    refine aC (do_call (P := (⟨[(0, key)], 1, 0, -1, false⟩ : PT)) (n := 1) (o := ⟨6, 0, 0, key, false⟩) (st.get (j := 0) rfl) (st.got 1 rfl).1 (st.got 1 rfl).2 (show _ ≤ _ from (by show (1 : Nat) ≤ 400; decide)) (st.ne 1 0 rfl rfl (by decide))) fun v53 H6 ⟨o53, e53, hv, hc⟩ => ?_
    subst hv
    rw [show doM (⟨[(0, key)], 1, 0, -1, false⟩ : PT) 1 ⟨6, 0, 0, key, false⟩ = ⟨0, 0, [], (⟨[(0, key), (1, key)], 2, 0, -1, false⟩ : PT)⟩ from by simp [doM, registerP, registerE, reserveM, releaseM, freeP, freeE, keyM, setM, inc32, w32, typeB, allB, holdsM, conflictM, reservedM, frM, PT0, hk]] at hc ⊢
    replace st := st.tabCall (kr' := ⟨true, 30, (((⟨[(0, key), (1, key)], 2, 0, -1, false⟩ : PT)).regs).flatMap regE⟩) rfl (hc.imp (fun ⟨a, b, c⟩ => ⟨a, congrArg (fun l : List (Int × Int) => (⟨true, 30, l.flatMap regE⟩ : Blk)) b, c⟩) id)
    clear hc
    refine aN rfl rfl (by constructor) ?_
    refine aN rfl rfl (by constructor) ?_
    refine aN rfl rfl (by constructor) ?_
    refine aExtA rfl rfl ?_
    refine aN rfl rfl (by constructor) ?_
    refine aN rfl rfl (by constructor) ?_
    refine aMovA rfl ?_
    refine sE ?_
    show AWl _ _ _ _ _
    refine aN rfl rfl (by constructor) ?_
    refine aBinV (.bool false) rfl rfl rfl ?_
    refine sE ?_
    show AW _ (.cond _ _ _) _ _ _
    refine cF' rfl ?_
    show AWl _ _ _ _ _
    refine aN rfl rfl (by constructor) ?_
    refine aN rfl rfl (by constructor) ?_
    refine aN rfl rfl (by constructor) ?_
    refine aBldA rfl (by repeat constructor) ?_
    replace st := st.sel [0, 1, 2, 3, 4] (by decide)
    refine aC (do_call (P := (⟨[(0, key), (1, key)], 2, 0, -1, false⟩ : PT)) (n := 0) (o := ⟨1, 7, key, 0, false⟩) (st.get (j := 0) rfl) (st.got 1 rfl).1 (st.got 1 rfl).2 (show _ ≤ _ from (by show (2 : Nat) ≤ 400; decide)) (st.ne 1 0 rfl rfl (by decide))) fun v64 H7 ⟨o64, e64, hv, hc⟩ => ?_
    subst hv
    rw [show doM (⟨[(0, key), (1, key)], 2, 0, -1, false⟩ : PT) 0 ⟨1, 7, key, 0, false⟩ = ⟨0, 0, [], (⟨[(0, key), (1, key)], 2, 7, 0, false⟩ : PT)⟩ from by simp [doM, registerP, registerE, reserveM, releaseM, freeP, freeE, keyM, setM, inc32, w32, typeB, allB, holdsM, conflictM, reservedM, frM, PT0, hk]] at hc ⊢
    replace st := st.tabCall (kr' := ⟨true, 30, (((⟨[(0, key), (1, key)], 2, 7, 0, false⟩ : PT)).regs).flatMap regE⟩) rfl (hc.imp (fun ⟨a, b, c⟩ => ⟨a, congrArg (fun l : List (Int × Int) => (⟨true, 30, l.flatMap regE⟩ : Blk)) b, c⟩) id)
    clear hc
    refine aN rfl rfl (by constructor) ?_
    refine aN rfl rfl (by constructor) ?_
    refine aN rfl rfl (by constructor) ?_
    refine aExtA rfl rfl ?_
    refine aN rfl rfl (by constructor) ?_
    refine aN rfl rfl (by constructor) ?_
    refine aMovA rfl ?_
    refine sE ?_
    show AWl _ _ _ _ _
    refine aN rfl rfl (by constructor) ?_
    refine aBinV (.bool false) rfl rfl rfl ?_
    refine aN rfl rfl (by constructor) ?_
    refine gT rfl ?_
    refine aN rfl rfl (by constructor) ?_
    refine gT rfl ?_
    refine aBinV (.bool false) rfl rfl rfl ?_
    refine aN rfl rfl (by constructor) ?_
    refine aN rfl rfl (by constructor) ?_
    refine gT rfl ?_
    refine aN rfl rfl (by constructor) ?_
    refine gT rfl ?_
    refine aC (holds_call (P := (⟨[(0, key), (1, key)], 2, 7, 0, false⟩ : PT)) (n := 0) (st.get (j := 0) rfl) (st.rowAcc 1 rfl (by decide) (flat_len' regE_len _)) (show (2 : Nat) ≤ 1000 by decide)) fun v76 H8 ⟨hv, st1⟩ => ?_
    subst hv
    replace st := st.call st1 rfl
    clear st1
    rw [show holdsM (⟨[(0, key), (1, key)], 2, 7, 0, false⟩ : PT) 0 = true by simp [doM, registerP, registerE, reserveM, releaseM, freeP, freeE, keyM, setM, inc32, w32, typeB, allB, holdsM, conflictM, reservedM, frM, PT0, hk]]
    refine gT rfl ?_
    refine aN rfl rfl (by constructor) ?_
    refine aN rfl rfl (by constructor) ?_
    refine aN rfl rfl (by constructor) ?_
    refine gT rfl ?_
    refine aN rfl rfl (by constructor) ?_
    refine gT rfl ?_
    refine aC (holds_call (P := (⟨[(0, key), (1, key)], 2, 7, 0, false⟩ : PT)) (n := 1) (st.get (j := 0) rfl) (st.rowAcc 1 rfl (by decide) (flat_len' regE_len _)) (show (2 : Nat) ≤ 1000 by decide)) fun v81 H9 ⟨hv, st1⟩ => ?_
    subst hv
    replace st := st.call st1 rfl
    clear st1
    rw [show holdsM (⟨[(0, key), (1, key)], 2, 7, 0, false⟩ : PT) 1 = true by simp [doM, registerP, registerE, reserveM, releaseM, freeP, freeE, keyM, setM, inc32, w32, typeB, allB, holdsM, conflictM, reservedM, frM, PT0, hk]]
    refine gT rfl ?_
    refine aN rfl rfl (by constructor) ?_
    refine gT rfl ?_
    refine aN rfl rfl (by constructor) ?_
    refine gT rfl ?_
    refine aN rfl rfl (by constructor) ?_
    refine gT rfl ?_
    refine aC (all_call) fun v85 H10 ⟨hv, st1⟩ => ?_
    subst hv
    replace st := st.call st1 rfl
    clear st1
    refine gT rfl ?_
    refine aN rfl rfl (by constructor) ?_
    refine gT rfl ?_
    refine aBinV (.bool false) rfl rfl rfl ?_
    refine aN rfl rfl (by constructor) ?_
    refine sE ?_
    show AW _ (.cond _ _ _) _ _ _
    refine cF' rfl ?_
    show AWl _ _ _ _ _
    refine aN rfl rfl (by constructor) ?_
    refine aC (conflict_call (P := (⟨[(0, key), (1, key)], 2, 7, 0, false⟩ : PT)) (n := 1) (c := 1) (st.get (j := 0) rfl) (st.rowAcc 1 rfl (by decide) (flat_len' regE_len _)) (show (2 : Nat) ≤ 1000 by decide)) fun v90 H11 ⟨hv, st1⟩ => ?_
    subst hv
    replace st := st.call st1 rfl
    clear st1
    rw [show conflictM (⟨[(0, key), (1, key)], 2, 7, 0, false⟩ : PT) 1 1 = false by simp [doM, registerP, registerE, reserveM, releaseM, freeP, freeE, keyM, setM, inc32, w32, typeB, allB, holdsM, conflictM, reservedM, frM, PT0, hk]]
    refine aN rfl rfl (by constructor) ?_
    refine sE ?_
    show AWl _ _ _ _ _
    refine aN rfl rfl (by constructor) ?_
    refine aC (conflict_call (P := (⟨[(0, key), (1, key)], 2, 7, 0, false⟩ : PT)) (n := 1) (c := 2) (st.get (j := 0) rfl) (st.rowAcc 1 rfl (by decide) (flat_len' regE_len _)) (show (2 : Nat) ≤ 1000 by decide)) fun v92 H12 ⟨hv, st1⟩ => ?_
    subst hv
    replace st := st.call st1 rfl
    clear st1
    rw [show conflictM (⟨[(0, key), (1, key)], 2, 7, 0, false⟩ : PT) 1 2 = false by simp [doM, registerP, registerE, reserveM, releaseM, freeP, freeE, keyM, setM, inc32, w32, typeB, allB, holdsM, conflictM, reservedM, frM, PT0, hk]]
    refine aN rfl rfl (by constructor) ?_
    refine sE ?_
    show AWl _ _ _ _ _
    refine aN rfl rfl (by constructor) ?_
    refine aN rfl rfl (by constructor) ?_
    refine gT rfl ?_
    refine aN rfl rfl (by constructor) ?_
    refine gT rfl ?_
    refine aBinV (.bool true) rfl rfl rfl ?_
    refine aN rfl rfl (by constructor) ?_
    refine aN rfl rfl (by constructor) ?_
    refine sE ?_
    show AWl _ _ _ _ _
    refine aN rfl rfl (by constructor) ?_
    refine aN rfl rfl (by constructor) ?_
    refine aN rfl rfl (by constructor) ?_
    refine aBinV (.bool false) rfl rfl rfl ?_
    refine aN rfl rfl (by constructor) ?_
    refine gT rfl ?_
    refine aN rfl rfl (by constructor) ?_
    refine gT rfl ?_
    refine aN rfl rfl (by constructor) ?_
    refine gT rfl ?_
    refine aBinV (.bool false) rfl rfl rfl ?_
    refine gT rfl ?_
    refine aN rfl rfl (by constructor) ?_
    refine gT rfl ?_
    refine aN rfl rfl (by constructor) ?_
    refine gT rfl ?_
    refine aBinV (.bool false) rfl rfl rfl ?_
    refine gT rfl ?_
    refine aN rfl rfl (by constructor) ?_
    refine gT rfl ?_
    refine aN rfl rfl (by constructor) ?_
    refine gT rfl ?_
    refine aN rfl rfl (by constructor) ?_
    refine gT rfl ?_
    refine aBinV (.bool false) rfl rfl rfl ?_
    refine gT rfl ?_
    refine aN rfl rfl (by constructor) ?_
    refine gT rfl ?_
    refine aN rfl rfl (by constructor) ?_
    refine gF rfl (by decide) ?_
    refine gF rfl (by decide) ?_
    refine gT rfl ?_
    refine aN rfl rfl (by constructor) ?_
    refine gT rfl ?_
    refine aBinV (.bool false) rfl rfl rfl ?_
    refine aN rfl rfl (by constructor) ?_
    refine sE ?_
    show AW _ (.cond _ _ _) _ _ _
    refine cF' rfl ?_
    show AWl _ _ _ _ _
    refine aN rfl rfl (by constructor) ?_
    refine aN rfl rfl (by constructor) ?_
    refine aN rfl rfl (by constructor) ?_
    refine aBldA rfl (by repeat constructor) ?_
    replace st := st.sel [0, 1, 2, 3, 4, 5] (by decide)
    refine aC (do_call (P := (⟨[(0, key), (1, key)], 2, 7, 0, false⟩ : PT)) (n := 0) (o := ⟨2, 7, key, 0, false⟩) (st.get (j := 0) rfl) (st.got 1 rfl).1 (st.got 1 rfl).2 (show _ ≤ _ from (by show (2 : Nat) ≤ 400; decide)) (st.ne 1 0 rfl rfl (by decide))) fun v125 H13 ⟨o125, e125, hv, hc⟩ => ?_
    subst hv
    rw [show doM (⟨[(0, key), (1, key)], 2, 7, 0, false⟩ : PT) 0 ⟨2, 7, key, 0, false⟩ = ⟨0, 0, [(1, 10756)], (⟨[(0, key), (1, key)], 2, 0, -1, false⟩ : PT)⟩ from by simp [doM, registerP, registerE, reserveM, releaseM, freeP, freeE, keyM, setM, inc32, w32, typeB, allB, holdsM, conflictM, reservedM, frM, PT0, hk]] at hc ⊢
    replace st := st.tabCall (kr' := ⟨true, 30, (((⟨[(0, key), (1, key)], 2, 0, -1, false⟩ : PT)).regs).flatMap regE⟩) rfl (hc.imp (fun ⟨a, b, c⟩ => ⟨a, congrArg (fun l : List (Int × Int) => (⟨true, 30, l.flatMap regE⟩ : Blk)) b, c⟩) id)
    clear hc
    refine aN rfl rfl (by constructor) ?_
    refine aN rfl rfl (by constructor) ?_
    refine aN rfl rfl (by constructor) ?_
    refine aExtA rfl rfl ?_
    refine aN rfl rfl (by constructor) ?_
    refine aN rfl rfl (by constructor) ?_
    refine aMovA rfl ?_
    refine sE ?_
    show AWl _ _ _ _ _
    refine aN rfl rfl (by constructor) ?_
    refine sE ?_
    show AWl _ _ _ _ _
    refine aN rfl rfl (by constructor) ?_
    refine aN rfl rfl (by constructor) ?_
    refine gT rfl ?_
    refine aN rfl rfl (by constructor) ?_
    refine gT rfl ?_
    refine aBinV (.bool true) rfl rfl rfl ?_
    refine aN rfl rfl (by constructor) ?_
    refine sE ?_
    show AW _ (.cond _ _ _) _ _ _
    refine cT rfl ?_
    show AWl _ _ _ _ _
    refine aN rfl rfl (by constructor) ?_
    refine sE ?_
    show AWl _ _ _ _ _
    refine aN rfl rfl (by constructor) ?_
    refine aC (reserved_call (P := (⟨[(0, key), (1, key)], 2, 0, -1, false⟩ : PT)) (st.get (j := 0) rfl) (st.rowAcc 1 rfl (by decide) (flat_len' regE_len _)) (show (2 : Nat) ≤ 1000 by decide)) fun v136 H14 ⟨hv, st1⟩ => ?_
    subst hv
    replace st := st.call st1 rfl
    clear st1
    refine aN rfl rfl (by constructor) ?_
    refine aN rfl rfl (by constructor) ?_
    refine aN rfl rfl (by constructor) ?_
    refine aN rfl rfl (by constructor) ?_
    refine aN rfl rfl (by constructor) ?_
    refine sE ?_
    show AWl _ _ _ _ _
    refine aN rfl rfl (by constructor) ?_
    refine aBinV (.bool true) rfl rfl rfl ?_
    refine aN rfl rfl (by constructor) ?_
    refine gT rfl ?_
    refine aMovA rfl ?_
    refine gT rfl ?_
    refine aLen (st.rowAcc 2 rfl (by decide) (by exact flat_len' evE_len _)) rfl ?_
    refine gT rfl ?_
    refine aN rfl rfl (by constructor) ?_
    refine gT rfl ?_
    refine aBinV (.bool true) rfl rfl rfl ?_
    refine aN rfl rfl (by constructor) ?_
    refine aN rfl rfl (by constructor) ?_
    refine gT rfl ?_
    refine aN rfl rfl (by constructor) ?_
    refine gT rfl ?_
    refine aBinV (.bool true) rfl rfl rfl ?_
    refine aN rfl rfl (by constructor) ?_
    refine aN rfl rfl (by constructor) ?_
    refine gT rfl ?_
    refine aN rfl rfl (by constructor) ?_
    refine gT rfl ?_
    refine aC (conflict_call (P := (⟨[(0, key), (1, key)], 2, 0, -1, false⟩ : PT)) (n := 1) (c := 2) (st.get (j := 0) rfl) (st.rowAcc 1 rfl (by decide) (flat_len' regE_len _)) (show (2 : Nat) ≤ 1000 by decide)) fun v153 H15 ⟨hv, st1⟩ => ?_
    subst hv
    replace st := st.call st1 rfl
    clear st1
    rw [show conflictM (⟨[(0, key), (1, key)], 2, 0, -1, false⟩ : PT) 1 2 = false by simp [doM, registerP, registerE, reserveM, releaseM, freeP, freeE, keyM, setM, inc32, w32, typeB, allB, holdsM, conflictM, reservedM, frM, PT0, hk]]
    refine gT rfl ?_
    refine aN rfl rfl (by constructor) ?_
    refine aN rfl rfl (by constructor) ?_
    refine aN rfl rfl (by constructor) ?_
    refine sE ?_
    refine ⟨_, out1 (r_tmp rfl (by constructor)), ?_⟩
    rfl
theorem reserves5_f {H : Hp} {m : Nat} {key : Int} (hm8 : m < 256) (hm : m % 6 = 5) :
    ACalls Try.prog 5 [.int .u8 (m : Int), .int .u64 key, .bool false] H (fun v _ => v = .bool true) := by
  refine acallsW Try.func5 f5_ok (Nat.le_of_ble_eq_true rfl) fun hw => ?_
  have st : Stt [] H H [] := Stt.start hw
  unfold f5c
  show AWl _ _ _ _ _
  refine aN rfl rfl (by constructor) ?_
  refine sE ?_
  show AWl _ _ _ _ _
  refine aC (awake_call) fun v28 H1 ⟨hv, st1⟩ => ?_
  subst hv
  replace st := st.call st1 rfl
  clear st1
  refine aN rfl rfl (by constructor) ?_
  refine sE ?_
  show AW _ (.cond _ _ _) _ _ _
  refine cF' rfl ?_
  show AWl _ _ _ _ _
  refine aLit st rfl (by repeat constructor) fun b30 H2 st => ?_
  refine aN rfl rfl (by constructor) ?_
  refine sE ?_
  show AWl _ _ _ _ _
  refine aN rfl rfl (by constructor) ?_
  refine aN rfl rfl (by constructor) ?_
  refine aN rfl rfl (by constructor) ?_
  refine aBinV (.int .i64 5) rfl rfl (by have h1 := remN (a := m) (n := 6) (by decide) hm8; rw [hm] at h1; exact h1) ?_
  refine aIxL rfl rfl (by decide) ?_
  refine aLd (v := .int .u8 8) st 0 rfl rfl rfl (by constructor) ?_
  refine aN rfl rfl (by constructor) ?_
  refine sE ?_
  show AWl _ _ _ _ _
  refine aN rfl rfl (by constructor) ?_
  refine aN rfl rfl (by constructor) ?_
  refine sE ?_
  show AW _ (.cond _ _ _) _ _ _
  refine cC' rfl (fun h3 => ?_) (fun h3 => ?_)
  · show AWl _ _ _ _ _
    refine aN rfl rfl (by constructor) ?_
    refine sE ?_
    refine ⟨_, out1 (r_tmp rfl (by constructor)), ?_⟩
    rfl
  · have hk : key ≠ 0 := by simpa using h3
    show AWl _ _ _ _ _
    refine aC (new_call) fun v39 H4 ⟨b39, hv, st1⟩ => ?_
    subst hv
    replace st := st.call st1 rfl
    clear st1
    have st := st.nil 30
    refine aN rfl rfl (by constructor) ?_
    refine sE ?_
    show AWl _ _ _ _ _
    refine aN rfl rfl (by constructor) ?_
    refine aN rfl rfl (by constructor) ?_
    refine aBld rfl (by repeat constructor) ?_
    replace st := st.sel [1, 0, 2] (by decide)
    refine aC (do_call (P := PT0) (n := 0) (o := ⟨0, 0, 0, key, false⟩) (st.get (j := 0) rfl) (st.got 1 rfl).1 (st.got 1 rfl).2 (show _ ≤ _ from (by show (0 : Nat) ≤ 400; decide)) (st.ne 1 0 rfl rfl (by decide))) fun v44 H5 ⟨o44, e44, hv, hc⟩ => ?_
    subst hv
    rw [show doM PT0 0 ⟨0, 0, 0, key, false⟩ = ⟨0, 0, [], (⟨[(0, key)], 1, 0, -1, false⟩ : PT)⟩ from by simp [doM, registerP, registerE, reserveM, releaseM, freeP, freeE, keyM, setM, inc32, w32, typeB, allB, holdsM, conflictM, reservedM, frM, PT0, hk]] at hc ⊢
    replace st := st.tabCall (kr' := ⟨true, 30, (((⟨[(0, key)], 1, 0, -1, false⟩ : PT)).regs).flatMap regE⟩) rfl (hc.imp (fun ⟨a, b, c⟩ => ⟨a, congrArg (fun l : List (Int × Int) => (⟨true, 30, l.flatMap regE⟩ : Blk)) b, c⟩) id)
    clear hc
    refine aN rfl rfl (by constructor) ?_
    refine aN rfl rfl (by constructor) ?_
    refine aN rfl rfl (by constructor) ?_
    refine aExtA rfl rfl ?_
    refine aN rfl rfl (by constructor) ?_
    refine aN rfl rfl (by constructor) ?_
    refine aMovA rfl ?_
    refine sE ?_
    show AWl _ _ _ _ _
    refine aN rfl rfl (by constructor) ?_
    refine sE ?_
    show AW _ (.cond _ _ _) _ _ _
    refine cF' rfl ?_
    show AWl _ _ _ _ _
    refine aN rfl rfl (by constructor) ?_
    refine aN rfl rfl (by constructor) ?_
    refine aN rfl rfl (by constructor) ?_
    refine aBldA rfl (by repeat constructor) ?_
    replace st := st.sel [0, 1, 2, 3] (by decide)
    refine aC (do_call (P := (⟨[(0, key)], 1, 0, -1, false⟩ : PT)) (n := 0) (o := ⟨1, 8, key, 0, false⟩) (st.get (j := 0) rfl) (st.got 1 rfl).1 (st.got 1 rfl).2 (show _ ≤ _ from (by show (1 : Nat) ≤ 400; decide)) (st.ne 1 0 rfl rfl (by decide))) fun v64 H6 ⟨o64, e64, hv, hc⟩ => ?_
    subst hv
    rw [show doM (⟨[(0, key)], 1, 0, -1, false⟩ : PT) 0 ⟨1, 8, key, 0, false⟩ = ⟨0, 0, [], (⟨[(0, key)], 1, 8, 0, false⟩ : PT)⟩ from by simp [doM, registerP, registerE, reserveM, releaseM, freeP, freeE, keyM, setM, inc32, w32, typeB, allB, holdsM, conflictM, reservedM, frM, PT0, hk]] at hc ⊢
    replace st := st.tabCall (kr' := ⟨true, 30, (((⟨[(0, key)], 1, 8, 0, false⟩ : PT)).regs).flatMap regE⟩) rfl (hc.imp (fun ⟨a, b, c⟩ => ⟨a, congrArg (fun l : List (Int × Int) => (⟨true, 30, l.flatMap regE⟩ : Blk)) b, c⟩) id)
    clear hc
    refine aN rfl rfl (by constructor) ?_
    refine aN rfl rfl (by constructor) ?_
    refine aN rfl rfl (by constructor) ?_
    refine aExtA rfl rfl ?_
    refine aN rfl rfl (by constructor) ?_
    refine aN rfl rfl (by constructor) ?_
    refine aMovA rfl ?_
    refine sE ?_
    show AWl _ _ _ _ _
    refine aN rfl rfl (by constructor) ?_
    refine aBinV (.bool false) rfl rfl rfl ?_
    refine aN rfl rfl (by constructor) ?_
    refine gT rfl ?_
    refine aN rfl rfl (by constructor) ?_
    refine gT rfl ?_
    refine aBinV (.bool false) rfl rfl rfl ?_
    refine aN rfl rfl (by constructor) ?_
    refine aN rfl rfl (by constructor) ?_
    refine gT rfl ?_
    refine aN rfl rfl (by constructor) ?_
    refine gT rfl ?_
    refine aC (holds_call (P := (⟨[(0, key)], 1, 8, 0, false⟩ : PT)) (n := 0) (st.get (j := 0) rfl) (st.rowAcc 1 rfl (by decide) (flat_len' regE_len _)) (show (1 : Nat) ≤ 1000 by decide)) fun v76 H7 ⟨hv, st1⟩ => ?_
    subst hv
    replace st := st.call st1 rfl
    clear st1
    rw [show holdsM (⟨[(0, key)], 1, 8, 0, false⟩ : PT) 0 = true by simp [doM, registerP, registerE, reserveM, releaseM, freeP, freeE, keyM, setM, inc32, w32, typeB, allB, holdsM, conflictM, reservedM, frM, PT0, hk]]
    refine gT rfl ?_
    refine aN rfl rfl (by constructor) ?_
    refine aN rfl rfl (by constructor) ?_
    refine aN rfl rfl (by constructor) ?_
    refine gT rfl ?_
    refine aN rfl rfl (by constructor) ?_
    refine gT rfl ?_
    refine aC (holds_call (P := (⟨[(0, key)], 1, 8, 0, false⟩ : PT)) (n := 1) (st.get (j := 0) rfl) (st.rowAcc 1 rfl (by decide) (flat_len' regE_len _)) (show (1 : Nat) ≤ 1000 by decide)) fun v81 H8 ⟨hv, st1⟩ => ?_
    subst hv
    replace st := st.call st1 rfl
    clear st1
    rw [show holdsM (⟨[(0, key)], 1, 8, 0, false⟩ : PT) 1 = false by simp [doM, registerP, registerE, reserveM, releaseM, freeP, freeE, keyM, setM, inc32, w32, typeB, allB, holdsM, conflictM, reservedM, frM, PT0, hk]]
    refine gT rfl ?_
    refine aN rfl rfl (by constructor) ?_
    refine gT rfl ?_
    refine aN rfl rfl (by constructor) ?_
    refine gF rfl (by decide) ?_
    refine gF rfl (by decide) ?_
    refine gT rfl ?_
    refine aN rfl rfl (by constructor) ?_
    refine gT rfl ?_
    refine aBinV (.bool false) rfl rfl rfl ?_
    refine aN rfl rfl (by constructor) ?_
    refine sE ?_
    show AW _ (.cond _ _ _) _ _ _
    refine cF' rfl ?_
    show AWl _ _ _ _ _
    refine aN rfl rfl (by constructor) ?_
    refine aC (conflict_call (P := (⟨[(0, key)], 1, 8, 0, false⟩ : PT)) (n := 1) (c := 1) (st.get (j := 0) rfl) (st.rowAcc 1 rfl (by decide) (flat_len' regE_len _)) (show (1 : Nat) ≤ 1000 by decide)) fun v90 H9 ⟨hv, st1⟩ => ?_
    subst hv
    replace st := st.call st1 rfl
    clear st1
    rw [show conflictM (⟨[(0, key)], 1, 8, 0, false⟩ : PT) 1 1 = true by simp [doM, registerP, registerE, reserveM, releaseM, freeP, freeE, keyM, setM, inc32, w32, typeB, allB, holdsM, conflictM, reservedM, frM, PT0, hk]]
    refine aN rfl rfl (by constructor) ?_
    refine sE ?_
    show AWl _ _ _ _ _
    refine aN rfl rfl (by constructor) ?_
    refine aC (conflict_call (P := (⟨[(0, key)], 1, 8, 0, false⟩ : PT)) (n := 1) (c := 2) (st.get (j := 0) rfl) (st.rowAcc 1 rfl (by decide) (flat_len' regE_len _)) (show (1 : Nat) ≤ 1000 by decide)) fun v92 H10 ⟨hv, st1⟩ => ?_
    subst hv
    replace st := st.call st1 rfl
    clear st1
    rw [show conflictM (⟨[(0, key)], 1, 8, 0, false⟩ : PT) 1 2 = true by simp [doM, registerP, registerE, reserveM, releaseM, freeP, freeE, keyM, setM, inc32, w32, typeB, allB, holdsM, conflictM, reservedM, frM, PT0, hk]]
    refine aN rfl rfl (by constructor) ?_
    refine sE ?_
    show AWl _ _ _ _ _
    refine aN rfl rfl (by constructor) ?_
    refine aN rfl rfl (by constructor) ?_
    refine gF rfl (by decide) ?_
    refine gF rfl (by decide) ?_
    refine aN rfl rfl (by constructor) ?_
    refine aN rfl rfl (by constructor) ?_
    refine sE ?_
    show AWl _ _ _ _ _
    refine aN rfl rfl (by constructor) ?_
    refine aN rfl rfl (by constructor) ?_
    refine aN rfl rfl (by constructor) ?_
    refine aBinV (.bool false) rfl rfl rfl ?_
    refine aN rfl rfl (by constructor) ?_
    refine gT rfl ?_
    refine aN rfl rfl (by constructor) ?_
    refine gT rfl ?_
    refine aN rfl rfl (by constructor) ?_
    refine gT rfl ?_
    refine aBinV (.bool false) rfl rfl rfl ?_
    refine gT rfl ?_
    refine aN rfl rfl (by constructor) ?_
    refine gT rfl ?_
    refine aN rfl rfl (by constructor) ?_
    refine gT rfl ?_
    refine aBinV (.bool false) rfl rfl rfl ?_
    refine gT rfl ?_
    refine aN rfl rfl (by constructor) ?_
    refine gT rfl ?_
    refine aN rfl rfl (by constructor) ?_
    refine gT rfl ?_
    refine aN rfl rfl (by constructor) ?_
    refine gT rfl ?_
    refine aBinV (.bool true) rfl rfl rfl ?_
    refine gT rfl ?_
    refine aN rfl rfl (by constructor) ?_
    refine gT rfl ?_
    refine aN rfl rfl (by constructor) ?_
    refine gT rfl ?_
    refine aN rfl rfl (by constructor) ?_
    refine gT rfl ?_
    refine aN rfl rfl (by constructor) ?_
    refine gT rfl ?_
    refine aN rfl rfl (by constructor) ?_
    refine gT rfl ?_
    refine aBinV (.bool false) rfl rfl rfl ?_
    refine aN rfl rfl (by constructor) ?_
    refine sE ?_
    show AW _ (.cond _ _ _) _ _ _
    refine cF' rfl ?_
    show AWl _ _ _ _ _
    refine aN rfl rfl (by constructor) ?_
    refine aN rfl rfl (by constructor) ?_
    refine aN rfl rfl (by constructor) ?_
    refine aBldA rfl (by repeat constructor) ?_
    replace st := st.sel [0, 1, 2, 3, 4] (by decide)
    refine aC (do_call (P := (⟨[(0, key)], 1, 8, 0, false⟩ : PT)) (n := 0) (o := ⟨2, 8, key, 0, false⟩) (st.get (j := 0) rfl) (st.got 1 rfl).1 (st.got 1 rfl).2 (show _ ≤ _ from (by show (1 : Nat) ≤ 400; decide)) (st.ne 1 0 rfl rfl (by decide))) fun v125 H11 ⟨o125, e125, hv, hc⟩ => ?_
    subst hv
    rw [show doM (⟨[(0, key)], 1, 8, 0, false⟩ : PT) 0 ⟨2, 8, key, 0, false⟩ = ⟨0, 0, [], (⟨[(0, key)], 1, 0, -1, false⟩ : PT)⟩ from by simp [doM, registerP, registerE, reserveM, releaseM, freeP, freeE, keyM, setM, inc32, w32, typeB, allB, holdsM, conflictM, reservedM, frM, PT0, hk]] at hc ⊢
    replace st := st.tabCall (kr' := ⟨true, 30, (((⟨[(0, key)], 1, 0, -1, false⟩ : PT)).regs).flatMap regE⟩) rfl (hc.imp (fun ⟨a, b, c⟩ => ⟨a, congrArg (fun l : List (Int × Int) => (⟨true, 30, l.flatMap regE⟩ : Blk)) b, c⟩) id)
    clear hc
    refine aN rfl rfl (by constructor) ?_
    refine aN rfl rfl (by constructor) ?_
    refine aN rfl rfl (by constructor) ?_
    refine aExtA rfl rfl ?_
    refine aN rfl rfl (by constructor) ?_
    refine aN rfl rfl (by constructor) ?_
    refine aMovA rfl ?_
    refine sE ?_
    show AWl _ _ _ _ _
    refine aN rfl rfl (by constructor) ?_
    refine sE ?_
    show AWl _ _ _ _ _
    refine aN rfl rfl (by constructor) ?_
    refine aN rfl rfl (by constructor) ?_
    refine gF rfl (by decide) ?_
    refine gF rfl (by decide) ?_
    refine aN rfl rfl (by constructor) ?_
    refine sE ?_
    show AW _ (.cond _ _ _) _ _ _
    refine cF' rfl ?_
    show AWl _ _ _ _ _
    refine aN rfl rfl (by constructor) ?_
    refine aC (reserved_call (P := (⟨[(0, key)], 1, 0, -1, false⟩ : PT)) (st.get (j := 0) rfl) (st.rowAcc 1 rfl (by decide) (flat_len' regE_len _)) (show (1 : Nat) ≤ 1000 by decide)) fun v136 H12 ⟨hv, st1⟩ => ?_
    subst hv
    replace st := st.call st1 rfl
    clear st1
    refine aN rfl rfl (by constructor) ?_
    refine aN rfl rfl (by constructor) ?_
    refine aN rfl rfl (by constructor) ?_
    refine aN rfl rfl (by constructor) ?_
    refine aN rfl rfl (by constructor) ?_
    refine sE ?_
    show AWl _ _ _ _ _
    refine aN rfl rfl (by constructor) ?_
    refine aBinV (.bool true) rfl rfl rfl ?_
    refine aN rfl rfl (by constructor) ?_
    refine gT rfl ?_
    refine aMovA rfl ?_
    refine gT rfl ?_
    refine aLen (st.rowAcc 2 rfl (by decide) (by exact flat_len' evE_len _)) rfl ?_
    refine gT rfl ?_
    refine aN rfl rfl (by constructor) ?_
    refine gT rfl ?_
    refine aBinV (.bool true) rfl rfl rfl ?_
    refine aN rfl rfl (by constructor) ?_
    refine aN rfl rfl (by constructor) ?_
    refine gT rfl ?_
    refine aN rfl rfl (by constructor) ?_
    refine gT rfl ?_
    refine aBinV (.bool true) rfl rfl rfl ?_
    refine aN rfl rfl (by constructor) ?_
    refine aN rfl rfl (by constructor) ?_
    refine gT rfl ?_
    refine aN rfl rfl (by constructor) ?_
    refine gT rfl ?_
    refine aC (conflict_call (P := (⟨[(0, key)], 1, 0, -1, false⟩ : PT)) (n := 1) (c := 2) (st.get (j := 0) rfl) (st.rowAcc 1 rfl (by decide) (flat_len' regE_len _)) (show (1 : Nat) ≤ 1000 by decide)) fun v153 H13 ⟨hv, st1⟩ => ?_
    subst hv
    replace st := st.call st1 rfl
    clear st1
    rw [show conflictM (⟨[(0, key)], 1, 0, -1, false⟩ : PT) 1 2 = false by simp [doM, registerP, registerE, reserveM, releaseM, freeP, freeE, keyM, setM, inc32, w32, typeB, allB, holdsM, conflictM, reservedM, frM, PT0, hk]]
    refine gT rfl ?_
    refine aN rfl rfl (by constructor) ?_
    refine aN rfl rfl (by constructor) ?_
    refine aN rfl rfl (by constructor) ?_
    refine sE ?_
    refine ⟨_, out1 (r_tmp rfl (by constructor)), ?_⟩
    rfl
theorem reserves5_t {H : Hp} {m : Nat} {key : Int} (hm8 : m < 256) (hm : m % 6 = 5) :
    ACalls Try.prog 5 [.int .u8 (m : Int), .int .u64 key, .bool true] H (fun v _ => v = .bool true) := by
  refine acallsW Try.func5 f5_ok (Nat.le_of_ble_eq_true rfl) fun hw => ?_
  have st : Stt [] H H [] := Stt.start hw
  unfold f5c
  show AWl _ _ _ _ _
  refine aN rfl rfl (by constructor) ?_
  refine sE ?_
  show AWl _ _ _ _ _
  refine aC (awake_call) fun v28 H1 ⟨hv, st1⟩ => ?_
  subst hv
  replace st := st.call st1 rfl
  clear st1
  refine aN rfl rfl (by constructor) ?_
  refine sE ?_
  show AW _ (.cond _ _ _) _ _ _
  refine cF' rfl ?_
  show AWl _ _ _ _ _
  refine aLit st rfl (by repeat constructor) fun b30 H2 st => ?_
  refine aN rfl rfl (by constructor) ?_
  refine sE ?_
  show AWl _ _ _ _ _
  refine aN rfl rfl (by constructor) ?_
  refine aN rfl rfl (by constructor) ?_
  refine aN rfl rfl (by constructor) ?_
  refine aBinV (.int .i64 5) rfl rfl (by have h1 := remN (a := m) (n := 6) (by decide) hm8; rw [hm] at h1; exact h1) ?_
  refine aIxL rfl rfl (by decide) ?_
  refine aLd (v := .int .u8 8) st 0 rfl rfl rfl (by constructor) ?_
  refine aN rfl rfl (by constructor) ?_
  refine sE ?_
  show AWl _ _ _ _ _
  refine aN rfl rfl (by constructor) ?_
  refine aN rfl rfl (by constructor) ?_
  refine sE ?_
  show AW _ (.cond _ _ _) _ _ _
  refine cC' rfl (fun h3 => ?_) (fun h3 => ?_)
  · show AWl _ _ _ _ _
    refine aN rfl rfl (by constructor) ?_
    refine sE ?_
    refine ⟨_, out1 (r_tmp rfl (by constructor)), ?_⟩
    rfl
  · have hk : key ≠ 0 := by simpa using h3
    show AWl _ _ _ _ _
    refine aC (new_call) fun v39 H4 ⟨b39, hv, st1⟩ => ?_
    subst hv
    replace st := st.call st1 rfl
    clear st1
    have st := st.nil 30
    refine aN rfl rfl (by constructor) ?_
    refine sE ?_
    show AWl _ _ _ _ _
    refine aN rfl rfl (by constructor) ?_
    refine aN rfl rfl (by constructor) ?_
    refine aBld rfl (by repeat constructor) ?_
    replace st := st.sel [1, 0, 2] (by decide)
    refine aC (do_call (P := PT0) (n := 0) (o := ⟨0, 0, 0, key, false⟩) (st.get (j := 0) rfl) (st.got 1 rfl).1 (st.got 1 rfl).2 (show _ ≤ _ from (by show (0 : Nat) ≤ 400; decide)) (st.ne 1 0 rfl rfl (by decide))) fun v44 H5 ⟨o44, e44, hv, hc⟩ => ?_
    subst hv
    rw [show doM PT0 0 ⟨0, 0, 0, key, false⟩ = ⟨0, 0, [], (⟨[(0, key)], 1, 0, -1, false⟩ : PT)⟩ from by simp [doM, registerP, registerE, reserveM, releaseM, freeP, freeE, keyM, setM, inc32, w32, typeB, allB, holdsM, conflictM, reservedM, frM, PT0, hk]] at hc ⊢
    replace st := st.tabCall (kr' := ⟨true, 30, (((⟨[(0, key)], 1, 0, -1, false⟩ : PT)).regs).flatMap regE⟩) rfl (hc.imp (fun ⟨a, b, c⟩ => ⟨a, congrArg (fun l : List (Int × Int) => (⟨true, 30, l.flatMap regE⟩ : Blk)) b, c⟩) id)
    clear hc
    refine aN rfl rfl (by constructor) ?_
    refine aN rfl rfl (by constructor) ?_
    refine aN rfl rfl (by constructor) ?_
    refine aExtA rfl rfl ?_
    refine aN rfl rfl (by constructor) ?_
    refine aN rfl rfl (by constructor) ?_
    refine aMovA rfl ?_
    refine sE ?_
    show AWl _ _ _ _ _
    refine aN rfl rfl (by constructor) ?_
    refine sE ?_
    show AW _ (.cond _ _ _) _ _ _
    refine cT rfl ?_
    show AWl _ _ _ _ _
    refine aN rfl rfl (by constructor) ?_
    refine aN rfl rfl (by constructor) ?_
    refine aBld rfl (by repeat constructor) ?_
    replace st := st.sel [0, 1, 2, 3] (by decide)
    refine aC (do_call (P := (⟨[(0, key)], 1, 0, -1, false⟩ : PT)) (n := 1) (o := ⟨6, 0, 0, key, false⟩) (st.get (j := 0) rfl) (st.got 1 rfl).1 (st.got 1 rfl).2 (show _ ≤ _ from (by show (1 : Nat) ≤ 400; decide)) (st.ne 1 0 rfl rfl (by decide))) fun v53 H6 ⟨o53, e53, hv, hc⟩ => ?_
    subst hv
    rw [show doM (⟨[(0, key)], 1, 0, -1, false⟩ : PT) 1 ⟨6, 0, 0, key, false⟩ = ⟨0, 0, [], (⟨[(0, key), (1, key)], 2, 0, -1, false⟩ : PT)⟩ from by simp [doM, registerP, registerE, reserveM, releaseM, freeP, freeE, keyM, setM, inc32, w32, typeB, allB, holdsM, conflictM, reservedM, frM, PT0, hk]] at hc ⊢
    replace st := st.tabCall (kr' := ⟨true, 30, (((⟨[(0, key), (1, key)], 2, 0, -1, false⟩ : PT)).regs).flatMap regE⟩) rfl (hc.imp (fun ⟨a, b, c⟩ => ⟨a, congrArg (fun l : List (Int × Int) => (⟨true, 30, l.flatMap regE⟩ : Blk)) b, c⟩) id)
    clear hc
    refine aN rfl rfl (by constructor) ?_
    refine aN rfl rfl (by constructor) ?_
    refine aN rfl rfl (by constructor) ?_
    refine aExtA rfl rfl ?_
    refine aN rfl rfl (by constructor) ?_
    refine aN rfl rfl (by constructor) ?_
    refine aMovA rfl ?_
    refine sE ?_
    show AWl _ _ _ _ _
    refine aN rfl rfl (by constructor) ?_
    refine aBinV (.bool false) rfl rfl rfl ?_
    refine sE ?_
    show AW _ (.cond _ _ _) _ _ _
    refine cF' rfl ?_
    show AWl _ _ _ _ _
    refine aN rfl rfl (by constructor) ?_
    refine aN rfl rfl (by constructor) ?_
    refine aN rfl rfl (by constructor) ?_
    refine aBldA rfl (by repeat constructor) ?_
    replace st := st.sel [0, 1, 2, 3, 4] (by decide)
    refine aC (do_call (P := (⟨[(0, key), (1, key)], 2, 0, -1, false⟩ : PT)) (n := 0) (o := ⟨1, 8, key, 0, false⟩) (st.get (j := 0) rfl) (st.got 1 rfl).1 (st.got 1 rfl).2 (show _ ≤ _ from (by show (2 : Nat) ≤ 400; decide)) (st.ne 1 0 rfl rfl (by decide))) fun v64 H7 ⟨o64, e64, hv, hc⟩ => ?_
    subst hv
    rw [show doM (⟨[(0, key), (1, key)], 2, 0, -1, false⟩ : PT) 0 ⟨1, 8, key, 0, false⟩ = ⟨0, 0, [], (⟨[(0, key), (1, key)], 2, 8, 0, false⟩ : PT)⟩ from by simp [doM, registerP, registerE, reserveM, releaseM, freeP, freeE, keyM, setM, inc32, w32, typeB, allB, holdsM, conflictM, reservedM, frM, PT0, hk]] at hc ⊢
    replace st := st.tabCall (kr' := ⟨true, 30, (((⟨[(0, key), (1, key)], 2, 8, 0, false⟩ : PT)).regs).flatMap regE⟩) rfl (hc.imp (fun ⟨a, b, c⟩ => ⟨a, congrArg (fun l : List (Int × Int) => (⟨true, 30, l.flatMap regE⟩ : Blk)) b, c⟩) id)
    clear hc
    refine aN rfl rfl (by constructor) ?_
    refine aN rfl rfl (by constructor) ?_
    refine aN rfl rfl (by constructor) ?_
    refine aExtA rfl rfl ?_
    refine aN rfl rfl (by constructor) ?_
    refine aN rfl rfl (by constructor) ?_
    refine aMovA rfl ?_
    refine sE ?_
    show AWl _ _ _ _ _
    refine aN rfl rfl (by constructor) ?_
    refine aBinV (.bool false) rfl rfl rfl ?_
    refine aN rfl rfl (by constructor) ?_
    refine gT rfl ?_
    refine aN rfl rfl (by constructor) ?_
    refine gT rfl ?_
    refine aBinV (.bool false) rfl rfl rfl ?_
    refine aN rfl rfl (by constructor) ?_
    refine aN rfl rfl (by constructor) ?_
    refine gT rfl ?_
    refine aN rfl rfl (by constructor) ?_
    refine gT rfl ?_
    refine aC (holds_call (P := (⟨[(0, key), (1, key)], 2, 8, 0, false⟩ : PT)) (n := 0) (st.get (j := 0) rfl) (st.rowAcc 1 rfl (by decide) (flat_len' regE_len _)) (show (2 : Nat) ≤ 1000 by decide)) fun v76 H8 ⟨hv, st1⟩ => ?_
    subst hv
    replace st := st.call st1 rfl
    clear st1
    rw [show holdsM (⟨[(0, key), (1, key)], 2, 8, 0, false⟩ : PT) 0 = true by simp [doM, registerP, registerE, reserveM, releaseM, freeP, freeE, keyM, setM, inc32, w32, typeB, allB, holdsM, conflictM, reservedM, frM, PT0, hk]]
    refine gT rfl ?_
    refine aN rfl rfl (by constructor) ?_
    refine aN rfl rfl (by constructor) ?_
    refine aN rfl rfl (by constructor) ?_
    refine gT rfl ?_
    refine aN rfl rfl (by constructor) ?_
    refine gT rfl ?_
    refine aC (holds_call (P := (⟨[(0, key), (1, key)], 2, 8, 0, false⟩ : PT)) (n := 1) (st.get (j := 0) rfl) (st.rowAcc 1 rfl (by decide) (flat_len' regE_len _)) (show (2 : Nat) ≤ 1000 by decide)) fun v81 H9 ⟨hv, st1⟩ => ?_
    subst hv
    replace st := st.call st1 rfl
    clear st1
    rw [show holdsM (⟨[(0, key), (1, key)], 2, 8, 0, false⟩ : PT) 1 = true by simp [doM, registerP, registerE, reserveM, releaseM, freeP, freeE, keyM, setM, inc32, w32, typeB, allB, holdsM, conflictM, reservedM, frM, PT0, hk]]
    refine gT rfl ?_
    refine aN rfl rfl (by constructor) ?_
    refine gT rfl ?_
    refine aN rfl rfl (by constructor) ?_
    refine gT rfl ?_
    refine aN rfl rfl (by constructor) ?_
    refine gT rfl ?_
    refine aC (all_call) fun v85 H10 ⟨hv, st1⟩ => ?_
    subst hv
    replace st := st.call st1 rfl
    clear st1
    refine gT rfl ?_
    refine aN rfl rfl (by constructor) ?_
    refine gT rfl ?_
    refine aBinV (.bool false) rfl rfl rfl ?_
    refine aN rfl rfl (by constructor) ?_
    refine sE ?_
    show AW _ (.cond _ _ _) _ _ _
    refine cF' rfl ?_
    show AWl _ _ _ _ _
    refine aN rfl rfl (by constructor) ?_
    refine aC (conflict_call (P := (⟨[(0, key), (1, key)], 2, 8, 0, false⟩ : PT)) (n := 1) (c := 1) (st.get (j := 0) rfl) (st.rowAcc 1 rfl (by decide) (flat_len' regE_len _)) (show (2 : Nat) ≤ 1000 by decide)) fun v90 H11 ⟨hv, st1⟩ => ?_
    subst hv
    replace st := st.call st1 rfl
    clear st1
    rw [show conflictM (⟨[(0, key), (1, key)], 2, 8, 0, false⟩ : PT) 1 1 = false by simp [doM, registerP, registerE, reserveM, releaseM, freeP, freeE, keyM, setM, inc32, w32, typeB, allB, holdsM, conflictM, reservedM, frM, PT0, hk]]
    refine aN rfl rfl (by constructor) ?_
    refine sE ?_
    show AWl _ _ _ _ _
    refine aN rfl rfl (by constructor) ?_
    refine aC (conflict_call (P := (⟨[(0, key), (1, key)], 2, 8, 0, false⟩ : PT)) (n := 1) (c := 2) (st.get (j := 0) rfl) (st.rowAcc 1 rfl (by decide) (flat_len' regE_len _)) (show (2 : Nat) ≤ 1000 by decide)) fun v92 H12 ⟨hv, st1⟩ => ?_
    subst hv
    replace st := st.call st1 rfl
    clear st1
    rw [show conflictM (⟨[(0, key), (1, key)], 2, 8, 0, false⟩ : PT) 1 2 = false by simp [doM, registerP, registerE, reserveM, releaseM, freeP, freeE, keyM, setM, inc32, w32, typeB, allB, holdsM, conflictM, reservedM, frM, PT0, hk]]
    refine aN rfl rfl (by constructor) ?_
    refine sE ?_
    show AWl _ _ _ _ _
    refine aN rfl rfl (by constructor) ?_
    refine aN rfl rfl (by constructor) ?_
    refine gT rfl ?_
    refine aN rfl rfl (by constructor) ?_
    refine gT rfl ?_
    refine aBinV (.bool true) rfl rfl rfl ?_
    refine aN rfl rfl (by constructor) ?_
    refine aN rfl rfl (by constructor) ?_
    refine sE ?_
    show AWl _ _ _ _ _
    refine aN rfl rfl (by constructor) ?_
    refine aN rfl rfl (by constructor) ?_
    refine aN rfl rfl (by constructor) ?_
    refine aBinV (.bool false) rfl rfl rfl ?_
    refine aN rfl rfl (by constructor) ?_
    refine gT rfl ?_
    refine aN rfl rfl (by constructor) ?_
    refine gT rfl ?_
    refine aN rfl rfl (by constructor) ?_
    refine gT rfl ?_
    refine aBinV (.bool false) rfl rfl rfl ?_
    refine gT rfl ?_
    refine aN rfl rfl (by constructor) ?_
    refine gT rfl ?_
    refine aN rfl rfl (by constructor) ?_
    refine gT rfl ?_
    refine aBinV (.bool false) rfl rfl rfl ?_
    refine gT rfl ?_
    refine aN rfl rfl (by constructor) ?_
    refine gT rfl ?_
    refine aN rfl rfl (by constructor) ?_
    refine gT rfl ?_
    refine aN rfl rfl (by constructor) ?_
    refine gT rfl ?_
    refine aBinV (.bool true) rfl rfl rfl ?_
    refine gT rfl ?_
    refine aN rfl rfl (by constructor) ?_
    refine gT rfl ?_
    refine aN rfl rfl (by constructor) ?_
    refine gT rfl ?_
    refine aN rfl rfl (by constructor) ?_
    refine gT rfl ?_
    refine aN rfl rfl (by constructor) ?_
    refine gT rfl ?_
    refine aN rfl rfl (by constructor) ?_
    refine gT rfl ?_
    refine aBinV (.bool false) rfl rfl rfl ?_
    refine aN rfl rfl (by constructor) ?_
    refine sE ?_
    show AW _ (.cond _ _ _) _ _ _
    refine cF' rfl ?_
    show AWl _ _ _ _ _
    refine aN rfl rfl (by constructor) ?_
    refine aN rfl rfl (by constructor) ?_
    refine aN rfl rfl (by constructor) ?_
    refine aBldA rfl (by repeat constructor) ?_
    replace st := st.sel [0, 1, 2, 3, 4, 5] (by decide)
    refine aC (do_call (P := (⟨[(0, key), (1, key)], 2, 8, 0, false⟩ : PT)) (n := 0) (o := ⟨2, 8, key, 0, false⟩) (st.get (j := 0) rfl) (st.got 1 rfl).1 (st.got 1 rfl).2 (show _ ≤ _ from (by show (2 : Nat) ≤ 400; decide)) (st.ne 1 0 rfl rfl (by decide))) fun v125 H13 ⟨o125, e125, hv, hc⟩ => ?_
    subst hv
    rw [show doM (⟨[(0, key), (1, key)], 2, 8, 0, false⟩ : PT) 0 ⟨2, 8, key, 0, false⟩ = ⟨0, 0, [(1, 10756)], (⟨[(0, key), (1, key)], 2, 0, -1, false⟩ : PT)⟩ from by simp [doM, registerP, registerE, reserveM, releaseM, freeP, freeE, keyM, setM, inc32, w32, typeB, allB, holdsM, conflictM, reservedM, frM, PT0, hk]] at hc ⊢
    replace st := st.tabCall (kr' := ⟨true, 30, (((⟨[(0, key), (1, key)], 2, 0, -1, false⟩ : PT)).regs).flatMap regE⟩) rfl (hc.imp (fun ⟨a, b, c⟩ => ⟨a, congrArg (fun l : List (Int × Int) => (⟨true, 30, l.flatMap regE⟩ : Blk)) b, c⟩) id)
    clear hc
    refine aN rfl rfl (by constructor) ?_
    refine aN rfl rfl (by constructor) ?_
    refine aN rfl rfl (by constructor) ?_
    refine aExtA rfl rfl ?_
    refine aN rfl rfl (by constructor) ?_
    refine aN rfl rfl (by constructor) ?_
    refine aMovA rfl ?_
    refine sE ?_
    show AWl _ _ _ _ _
    refine aN rfl rfl (by constructor) ?_
    refine sE ?_
    show AWl _ _ _ _ _
    refine aN rfl rfl (by constructor) ?_
    refine aN rfl rfl (by constructor) ?_
    refine gT rfl ?_
    refine aN rfl rfl (by constructor) ?_
    refine gT rfl ?_
    refine aBinV (.bool true) rfl rfl rfl ?_
    refine aN rfl rfl (by constructor) ?_
    refine sE ?_
    show AW _ (.cond _ _ _) _ _ _
    refine cT rfl ?_
    show AWl _ _ _ _ _
    refine aN rfl rfl (by constructor) ?_
    refine sE ?_
    show AWl _ _ _ _ _
    refine aN rfl rfl (by constructor) ?_
    refine aC (reserved_call (P := (⟨[(0, key), (1, key)], 2, 0, -1, false⟩ : PT)) (st.get (j := 0) rfl) (st.rowAcc 1 rfl (by decide) (flat_len' regE_len _)) (show (2 : Nat) ≤ 1000 by decide)) fun v136 H14 ⟨hv, st1⟩ => ?_
    subst hv
    replace st := st.call st1 rfl
    clear st1
    refine aN rfl rfl (by constructor) ?_
    refine aN rfl rfl (by constructor) ?_
    refine aN rfl rfl (by constructor) ?_
    refine aN rfl rfl (by constructor) ?_
    refine aN rfl rfl (by constructor) ?_
    refine sE ?_
    show AWl _ _ _ _ _
    refine aN rfl rfl (by constructor) ?_
    refine aBinV (.bool true) rfl rfl rfl ?_
    refine aN rfl rfl (by constructor) ?_
    refine gT rfl ?_
    refine aMovA rfl ?_
    refine gT rfl ?_
    refine aLen (st.rowAcc 2 rfl (by decide) (by exact flat_len' evE_len _)) rfl ?_
    refine gT rfl ?_
    refine aN rfl rfl (by constructor) ?_
    refine gT rfl ?_
    refine aBinV (.bool true) rfl rfl rfl ?_
    refine aN rfl rfl (by constructor) ?_
    refine aN rfl rfl (by constructor) ?_
    refine gT rfl ?_
    refine aN rfl rfl (by constructor) ?_
    refine gT rfl ?_
    refine aBinV (.bool true) rfl rfl rfl ?_
    refine aN rfl rfl (by constructor) ?_
    refine aN rfl rfl (by constructor) ?_
    refine gT rfl ?_
    refine aN rfl rfl (by constructor) ?_
    refine gT rfl ?_
    refine aC (conflict_call (P := (⟨[(0, key), (1, key)], 2, 0, -1, false⟩ : PT)) (n := 1) (c := 2) (st.get (j := 0) rfl) (st.rowAcc 1 rfl (by decide) (flat_len' regE_len _)) (show (2 : Nat) ≤ 1000 by decide)) fun v153 H15 ⟨hv, st1⟩ => ?_
    subst hv
    replace st := st.call st1 rfl
    clear st1
    rw [show conflictM (⟨[(0, key), (1, key)], 2, 0, -1, false⟩ : PT) 1 2 = false by simp [doM, registerP, registerE, reserveM, releaseM, freeP, freeE, keyM, setM, inc32, w32, typeB, allB, holdsM, conflictM, reservedM, frM, PT0, hk]]
    refine gT rfl ?_
    refine aN rfl rfl (by constructor) ?_
    refine aN rfl rfl (by constructor) ?_
    refine aN rfl rfl (by constructor) ?_
    refine sE ?_
    refine ⟨_, out1 (r_tmp rfl (by constructor)), ?_⟩
    rfl
theorem prReserves_law {H : Hp} {B : Nat} {xs : List Value} (hro : Ro H) (hd : datArgs Try.prog H B 8 [5, 28, 4] xs) : ACalls Try.prog 5 xs H fun v _ => v = .bool true := by
  obtain ⟨x0, x1, x2, rfl, d0, d1, d2⟩ := args3 hd
  obtain ⟨zm, rfl, vm⟩ := arg_int (k := .u8) (by kernel_rfl) d0
  obtain ⟨m, rfl, qm⟩ := r8n vm
  obtain ⟨key, rfl, wk⟩ := arg_int (k := .u64) (by kernel_rfl) d1
  obtain ⟨c, rfl⟩ := arg_bool (by kernel_rfl) d2
  rcases (by omega : m % 6 = 0 ∨ m % 6 = 1 ∨ m % 6 = 2 ∨ m % 6 = 3 ∨ m % 6 = 4 ∨ m % 6 = 5) with h | h | h | h | h | h <;> cases c
  · exact reserves0_f qm h
  · exact reserves0_t qm h
  · exact reserves1_f qm h
  · exact reserves1_t qm h
  · exact reserves2_f qm h
  · exact reserves2_t qm h
  · exact reserves3_f qm h
  · exact reserves3_t qm h
  · exact reserves4_f qm h
  · exact reserves4_t qm h
  · exact reserves5_f qm h
  · exact reserves5_t qm h

end Go.Proofs.Ytihkghfmihdicaa.Abs
