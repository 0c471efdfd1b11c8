/- PrPreempts. -/
import Derived.Test.YtihkghfmihdicaaR2
set_option linter.unusedVariables false
set_option linter.unusedSimpArgs false
set_option maxRecDepth 100000
namespace Go.Proofs.Ytihkghfmihdicaa.Abs
open Go Go.RowKit
def l4 : List Int := [1, 3, 5, 6]
def l6 : List Int := [1, 3, 5, 6, 7, 8]
theorem tab_at {l : List Int} {j : Nat} (h : j < l.length) : (l.map (Value.int .u8))[0 + ((j : Int)).toNat * 1]? = some (.int .u8 (l.getD j 0)) := by
  simp [List.getElem?_map, List.getElem?_eq_getElem h, List.getD]
theorem hkk_tab : ∀ j, j < 4 → (l4.getD j 0 = 1 ∨ l4.getD j 0 = 3 ∨ l4.getD j 0 = 5 ∨ l4.getD j 0 = 6) := by decide
theorem hmm_tab : ∀ j, j < 6 → (l6.getD j 0 = 1 ∨ l6.getD j 0 = 3 ∨ l6.getD j 0 = 5 ∨ l6.getD j 0 = 6 ∨ l6.getD j 0 = 7 ∨ l6.getD j 0 = 8) := by decide
section
variable {a b k mm sv : Int}
theorem pre_res (ha : a ≠ 0) (hk : k = 1 ∨ k = 3 ∨ k = 5 ∨ k = 6) : doM (⟨[(0, a), (1, b)], 2, 0, -1, false⟩ : PT) 0 ⟨1, k, a, 0, false⟩ = ⟨0, 0, [], (⟨[(0, a), (1, b)], 2, k, 0, false⟩ : PT)⟩ := by
  rcases hk with h | h | h | h <;> subst h <;> simp [doM, registerP, registerE, reserveM, releaseM, freeP, freeE, keyM, setM, inc32, w32, typeB, allB, holdsM, conflictM, reservedM, frM, PT0, ha]
theorem pre_h0 (hk : k = 1 ∨ k = 3 ∨ k = 5 ∨ k = 6) : holdsM (⟨[(0, a), (1, b)], 2, k, 0, false⟩ : PT) 0 = true := by
  rcases hk with h | h | h | h <;> subst h <;> rfl
theorem pre_h1 (hk : k = 1 ∨ k = 3 ∨ k = 5 ∨ k = 6) : holdsM (⟨[(0, a), (1, b)], 2, k, 0, false⟩ : PT) 1 = false := by
  rcases hk with h | h | h | h <;> subst h <;> rfl
theorem pre_pre (hs : sv = 4 ∨ sv = 5) (ha : a ≠ 0) (hb : b ≠ 0) (hab : a ≠ b) (hk : k = 1 ∨ k = 3 ∨ k = 5 ∨ k = 6) (hm : mm = 1 ∨ mm = 3 ∨ mm = 5 ∨ mm = 6 ∨ mm = 7 ∨ mm = 8) : doM (⟨[(0, a), (1, b)], 2, k, 0, false⟩ : PT) 1 ⟨sv, mm, b, a, false⟩ = ⟨0, 0, [(0, 10757)], (⟨[(1, b)], 3, mm, 1, false⟩ : PT)⟩ := by
  have hba : b ≠ a := Ne.symm hab
  have h1 : doM (⟨[(0, a), (1, b)], 2, k, 0, false⟩ : PT) 1 ⟨sv, mm, b, a, false⟩ = preemptM (⟨[(0, a), (1, b)], 2, k, 0, false⟩ : PT) 1 ⟨sv, mm, b, a, false⟩ := by
    unfold doM
    rcases hs with h | h <;> subst h <;> simp [keyM]
  have e1 : heldB (⟨[(0, a), (1, b)], 2, k, 0, false⟩ : PT) ⟨sv, mm, b, a, false⟩ = true := by
    rcases hk with h | h | h | h <;> subst h <;> simp [heldB, allB]
  have e2 : pallB (⟨[(0, a), (1, b)], 2, k, 0, false⟩ : PT) ⟨sv, mm, b, a, false⟩ = false := by
    rcases hk with h | h | h | h <;> subst h <;> simp [pallB, allB]
  have e3 : leftM (⟨[(0, a), (1, b)], 2, k, 0, false⟩ : PT) 1 ⟨sv, mm, b, a, false⟩ = [(1, b)] := by
    unfold leftM
    simp [stays, e2]
  have e4 : goneE (⟨[(0, a), (1, b)], 2, k, 0, false⟩ : PT) 1 ⟨sv, mm, b, a, false⟩ = [(0, 10757)] := by
    unfold goneE
    simp [stays, e2]
  have e5 : relE (⟨[(0, a), (1, b)], 2, k, 0, false⟩ : PT) 1 ⟨sv, mm, b, a, false⟩ = [] := by
    unfold relE
    rw [e3]
    simp
  have ht : typeB mm = true := by
    rcases hm with h | h | h | h | h | h <;> subst h <;> rfl
  rw [h1]
  unfold preemptM
  rw [if_neg (fun hc => ha hc.1), if_neg (fun hc => by have := hc.2; rw [show typeB mm = true from ht] at this; cases this), if_neg (fun hc => by have := hc.1; simp at this), e1, e2, e3, e4, e5]
  rfl
theorem pre_h2 (hm : mm = 1 ∨ mm = 3 ∨ mm = 5 ∨ mm = 6 ∨ mm = 7 ∨ mm = 8) : holdsM (⟨[(1, b)], 3, mm, 1, false⟩ : PT) 1 = true := by
  rcases hm with h | h | h | h | h | h <;> subst h <;> rfl
theorem pre_h3 (hm : mm = 1 ∨ mm = 3 ∨ mm = 5 ∨ mm = 6 ∨ mm = 7 ∨ mm = 8) : holdsM (⟨[(1, b)], 3, mm, 1, false⟩ : PT) 0 = false := by
  rcases hm with h | h | h | h | h | h <;> subst h <;> rfl
theorem pre_c (hm : mm = 1 ∨ mm = 3 ∨ mm = 5 ∨ mm = 6 ∨ mm = 7 ∨ mm = 8) : conflictM (⟨[(1, b)], 3, mm, 1, false⟩ : PT) 0 2 = true := by
  rcases hm with h | h | h | h | h | h <;> subst h <;> rfl
end
theorem preempts_call {H : Hp} {a b : Int} {kq mq : Nat} {ab : Bool} (hkq : kq < 256) (hmq : mq < 256) :
    ACalls Try.prog 6 [.int .u64 a, .int .u64 b, .int .u8 (kq : Int), .int .u8 (mq : Int), .bool ab] H (fun v _ => v = .bool true) := by
  refine acallsW Try.func6 f6_ok (Nat.le_of_ble_eq_true rfl) fun hw => ?_
  have st : Stt [] H H [] := Stt.start hw
  unfold f6c
  show AWl _ _ _ _ _
  refine aN rfl rfl (by constructor) ?_
  refine sE ?_
  show AWl _ _ _ _ _
  refine aC (awake_call) fun v25 H1 ⟨hv, st1⟩ => ?_
  subst hv
  replace st := st.call st1 rfl
  clear st1
  refine aN rfl rfl (by constructor) ?_
  refine aN rfl rfl (by constructor) ?_
  refine gT rfl ?_
  refine aN rfl rfl (by constructor) ?_
  refine gT rfl ?_
  refine aN rfl rfl (by constructor) ?_
  refine aN rfl rfl (by constructor) ?_
  refine aN rfl rfl (by constructor) ?_
  refine gCase 31 rfl (fun h2 => ?_) (fun h2 => ?_)
  · refine gF rfl (by decide) ?_
    refine gF rfl (by decide) ?_
    refine aN rfl rfl (by constructor) ?_
    refine aN rfl rfl (by constructor) ?_
    refine gF rfl (by decide) ?_
    refine gF rfl (by decide) ?_
    refine gF rfl (by decide) ?_
    refine aN rfl rfl (by constructor) ?_
    refine sE ?_
    show AW _ (.cond _ _ _) _ _ _
    refine cT rfl ?_
    show AWl _ _ _ _ _
    refine aC (awake_call) fun v40 H3 ⟨hv, st1⟩ => ?_
    subst hv
    replace st := st.call st1 rfl
    clear st1
    refine aN rfl rfl (by constructor) ?_
    refine sE ?_
    refine ⟨_, out1 (r_tmp rfl (by constructor)), ?_⟩
    rfl
  · refine gT rfl ?_
    refine aN rfl rfl (by constructor) ?_
    refine gT rfl ?_
    refine aN rfl rfl (by constructor) ?_
    refine aN rfl rfl (by constructor) ?_
    refine aN rfl rfl (by constructor) ?_
    refine gCase 35 rfl (fun h4 => ?_) (fun h4 => ?_)
    · refine gF rfl (by decide) ?_
      refine gF rfl (by decide) ?_
      refine gF rfl (by decide) ?_
      refine aN rfl rfl (by constructor) ?_
      refine sE ?_
      show AW _ (.cond _ _ _) _ _ _
      refine cT rfl ?_
      show AWl _ _ _ _ _
      refine aC (awake_call) fun v40 H5 ⟨hv, st1⟩ => ?_
      subst hv
      replace st := st.call st1 rfl
      clear st1
      refine aN rfl rfl (by constructor) ?_
      refine sE ?_
      refine ⟨_, out1 (r_tmp rfl (by constructor)), ?_⟩
      rfl
    · refine gT rfl ?_
      refine aN rfl rfl (by constructor) ?_
      refine gT rfl ?_
      refine aN rfl rfl (by constructor) ?_
      refine gT rfl ?_
      refine aN rfl rfl (by constructor) ?_
      refine aN rfl rfl (by constructor) ?_
      refine sE ?_
      show AW _ (.cond _ _ _) _ _ _
      refine cC' rfl (fun h6 => ?_) (fun h6 => ?_)
      · show AWl _ _ _ _ _
        refine aC (awake_call) fun v40 H7 ⟨hv, st1⟩ => ?_
        subst hv
        replace st := st.call st1 rfl
        clear st1
        refine aN rfl rfl (by constructor) ?_
        refine sE ?_
        refine ⟨_, out1 (r_tmp rfl (by constructor)), ?_⟩
        rfl
      · show AWl _ _ _ _ _
        have ha : a ≠ 0 := by simp_all
        have hb : b ≠ 0 := by simp_all
        have hab : a ≠ b := by simp_all
        refine aLit st rfl (by repeat constructor) fun b41 H8 st => ?_
        refine aN rfl rfl (by constructor) ?_
        refine sE ?_
        show AWl _ _ _ _ _
        refine aN rfl rfl (by constructor) ?_
        refine aN rfl rfl (by constructor) ?_
        refine aN rfl rfl (by constructor) ?_
        refine aBinV (.int .i64 ((kq % 4 : Nat) : Int)) rfl rfl (remN (a := kq) (n := 4) (by decide) (by omega)) ?_
        refine aIxL rfl rfl (by omega) ?_
        refine aLd (v := .int .u8 (l4.getD (kq % 4) 0)) st 0 rfl rfl (tab_at (l := l4) (by show kq % 4 < 4; omega)) (by constructor) ?_
        have hkk0 := hkk_tab (kq % 4) (by omega)
        obtain ⟨k, hk⟩ : ∃ z, z = l4.getD (kq % 4) 0 := ⟨_, rfl⟩
        rw [← hk] at hkk0 ⊢
        refine aN rfl rfl (by constructor) ?_
        refine sE ?_
        show AWl _ _ _ _ _
        refine aLit st rfl (by repeat constructor) fun b48 H9 st => ?_
        refine aN rfl rfl (by constructor) ?_
        refine aN rfl rfl (by constructor) ?_
        refine aBinV (.int .i64 ((mq % 6 : Nat) : Int)) rfl rfl (remN (a := mq) (n := 6) (by decide) (by omega)) ?_
        refine aIxL rfl rfl (by omega) ?_
        refine aLd (v := .int .u8 (l6.getD (mq % 6) 0)) st 0 rfl rfl (tab_at (l := l6) (by show mq % 6 < 6; omega)) (by constructor) ?_
        have hmm0 := hmm_tab (mq % 6) (by omega)
        obtain ⟨mm, hmm⟩ : ∃ z, z = l6.getD (mq % 6) 0 := ⟨_, rfl⟩
        rw [← hmm] at hmm0 ⊢
        refine aN rfl rfl (by constructor) ?_
        refine sE ?_
        show AWl _ _ _ _ _
        refine aC (new_call) fun v54 H10 ⟨b54, hv, st1⟩ => ?_
        subst hv
        replace st := st.call st1 rfl
        clear st1
        have st := st.nil 30
        refine aN rfl rfl (by constructor) ?_
        refine sE ?_
        show AWl _ _ _ _ _
        refine aN rfl rfl (by constructor) ?_
        refine aN rfl rfl (by constructor) ?_
        refine aBld rfl (by repeat constructor) ?_
        replace st := st.sel [1, 0, 2, 3] (by decide)
        refine aC (do_call (P := PT0) (n := 0) (o := ⟨6, 0, 0, a, false⟩) (st.get (j := 0) rfl) (st.got 1 rfl).1 (st.got 1 rfl).2 (show _ ≤ _ from (by show (0 : Nat) ≤ 400; decide)) (st.ne 1 0 rfl rfl (by decide))) fun v58 H11 ⟨o58, e58, hv, hc⟩ => ?_
        subst hv
        rw [show doM PT0 0 ⟨6, 0, 0, a, false⟩ = ⟨0, 0, [], (⟨[(0, a)], 1, 0, -1, false⟩ : PT)⟩ from by simp [doM, registerP, registerE, reserveM, releaseM, freeP, freeE, keyM, setM, inc32, w32, typeB, allB, holdsM, conflictM, reservedM, frM, PT0, ha]] at hc ⊢
        replace st := st.tabCall (kr' := ⟨true, 30, (((⟨[(0, a)], 1, 0, -1, false⟩ : PT)).regs).flatMap regE⟩) rfl (hc.imp (fun ⟨a, b, c⟩ => ⟨a, congrArg (fun l : List (Int × Int) => (⟨true, 30, l.flatMap regE⟩ : Blk)) b, c⟩) id)
        clear hc
        refine sE ?_
        show AWl _ _ _ _ _
        refine aN rfl rfl (by constructor) ?_
        refine aN rfl rfl (by constructor) ?_
        refine aBld rfl (by repeat constructor) ?_
        replace st := st.sel [0, 1, 2, 3, 4] (by decide)
        refine aC (do_call (P := (⟨[(0, a)], 1, 0, -1, false⟩ : PT)) (n := 1) (o := ⟨6, 0, 0, b, false⟩) (st.get (j := 0) rfl) (st.got 1 rfl).1 (st.got 1 rfl).2 (show _ ≤ _ from (by show (1 : Nat) ≤ 400; decide)) (st.ne 1 0 rfl rfl (by decide))) fun v62 H12 ⟨o62, e62, hv, hc⟩ => ?_
        subst hv
        rw [show doM (⟨[(0, a)], 1, 0, -1, false⟩ : PT) 1 ⟨6, 0, 0, b, false⟩ = ⟨0, 0, [], (⟨[(0, a), (1, b)], 2, 0, -1, false⟩ : PT)⟩ from by simp [doM, registerP, registerE, reserveM, releaseM, freeP, freeE, keyM, setM, inc32, w32, typeB, allB, holdsM, conflictM, reservedM, frM, PT0, hb]] at hc ⊢
        replace st := st.tabCall (kr' := ⟨true, 30, (((⟨[(0, a), (1, b)], 2, 0, -1, false⟩ : PT)).regs).flatMap regE⟩) rfl (hc.imp (fun ⟨a, b, c⟩ => ⟨a, congrArg (fun l : List (Int × Int) => (⟨true, 30, l.flatMap regE⟩ : Blk)) b, c⟩) id)
        clear hc
        refine sE ?_
        show AWl _ _ _ _ _
        refine aN rfl rfl (by constructor) ?_
        refine aN rfl rfl (by constructor) ?_
        refine aN rfl rfl (by constructor) ?_
        refine aBldA rfl (by repeat constructor) ?_
        replace st := st.sel [0, 1, 2, 3, 4, 5] (by decide)
        refine aC (do_call (P := (⟨[(0, a), (1, b)], 2, 0, -1, false⟩ : PT)) (n := 0) (o := ⟨1, k, a, 0, false⟩) (st.get (j := 0) rfl) (st.got 1 rfl).1 (st.got 1 rfl).2 (show (2 : Nat) ≤ 400 by decide) (st.ne 1 0 rfl rfl (by decide))) fun v68 H13 ⟨o68, e68, hv, hc⟩ => ?_
        subst hv
        rw [show doM (⟨[(0, a), (1, b)], 2, 0, -1, false⟩ : PT) 0 ⟨1, k, a, 0, false⟩ = ⟨0, 0, [], (⟨[(0, a), (1, b)], 2, k, 0, false⟩ : PT)⟩ from pre_res ha hkk0] at hc ⊢
        replace st := st.tabCall (kr' := ⟨true, 30, (((⟨[(0, a), (1, b)], 2, k, 0, false⟩ : PT)).regs).flatMap regE⟩) rfl (hc.imp (fun ⟨a, b, c⟩ => ⟨a, congrArg (fun l : List (Int × Int) => (⟨true, 30, l.flatMap regE⟩ : Blk)) b, c⟩) id)
        clear hc
        refine aN rfl rfl (by constructor) ?_
        refine aN rfl rfl (by constructor) ?_
        refine aN rfl rfl (by constructor) ?_
        refine aExtA rfl rfl ?_
        refine aN rfl rfl (by constructor) ?_
        refine aN rfl rfl (by constructor) ?_
        refine aMovA rfl ?_
        refine sE ?_
        show AWl _ _ _ _ _
        refine aN rfl rfl (by constructor) ?_
        refine aBinV (.bool false) rfl rfl rfl ?_
        refine aN rfl rfl (by constructor) ?_
        refine gT rfl ?_
        refine aN rfl rfl (by constructor) ?_
        refine gT rfl ?_
        refine aC (holds_call (P := (⟨[(0, a), (1, b)], 2, k, 0, false⟩ : PT)) (n := 0) (st.get (j := 0) rfl) (st.rowAcc 1 rfl (by decide) (flat_len' regE_len _)) (show (2 : Nat) ≤ 1000 by decide)) fun v76 H14 ⟨hv, st1⟩ => ?_
        subst hv
        replace st := st.call st1 rfl
        clear st1
        rw [show holdsM (⟨[(0, a), (1, b)], 2, k, 0, false⟩ : PT) 0 = true from pre_h0 hkk0]
        refine gT rfl ?_
        refine aN rfl rfl (by constructor) ?_
        refine aN rfl rfl (by constructor) ?_
        refine aN rfl rfl (by constructor) ?_
        refine gT rfl ?_
        refine aN rfl rfl (by constructor) ?_
        refine gT rfl ?_
        refine aC (holds_call (P := (⟨[(0, a), (1, b)], 2, k, 0, false⟩ : PT)) (n := 1) (st.get (j := 0) rfl) (st.rowAcc 1 rfl (by decide) (flat_len' regE_len _)) (show (2 : Nat) ≤ 1000 by decide)) fun v81 H15 ⟨hv, st1⟩ => ?_
        subst hv
        replace st := st.call st1 rfl
        clear st1
        rw [show holdsM (⟨[(0, a), (1, b)], 2, k, 0, false⟩ : PT) 1 = false from pre_h1 hkk0]
        refine aN rfl rfl (by constructor) ?_
        refine sE ?_
        show AW _ (.cond _ _ _) _ _ _
        refine cF' rfl ?_
        show AWl _ _ _ _ _
        refine aN rfl rfl (by constructor) ?_
        refine aN rfl rfl (by constructor) ?_
        refine aN rfl rfl (by constructor) ?_
        refine aBldA rfl (by repeat constructor) ?_
        refine aNewP st rfl rfl (by repeat constructor) fun b18 H16 st => ?_
        refine aSt st 0 rfl rfl rfl rfl (by first | rfl | simp [cellsOf, *]) (by first | decide | simp [*]) (by repeat constructor) fun H17 st => ?_
        refine sE ?_
        show AWl _ _ _ _ _
        refine aN rfl rfl (by constructor) ?_
        refine sE ?_
        show AW _ (.cond _ _ _) _ _ _
        refine cC' rfl (fun h18 => ?_) (fun h18 => ?_)
        · show AWl _ _ _ _ _
          refine aN rfl rfl (by constructor) ?_
          refine aSt st 0 rfl rfl rfl rfl (by first | rfl | simp [cellsOf, *]) (by first | decide | simp [*]) (by repeat constructor) fun H19 st => ?_
          refine sE ?_
          show AWl _ _ _ _ _
          refine aN rfl rfl (by constructor) ?_
          refine aLdA st 0 rfl rfl (by first | decide | simp [*]) (by repeat constructor) ?_
          replace st := st.sel [1, 2, 0, 3, 4, 5, 6, 7] (by decide)
          refine aC (do_call (P := (⟨[(0, a), (1, b)], 2, k, 0, false⟩ : PT)) (n := 1) (o := ⟨5, mm, b, a, false⟩) (st.get (j := 0) rfl) (st.got 1 rfl).1 (st.got 1 rfl).2 (show (2 : Nat) ≤ 400 by decide) (st.ne 1 0 rfl rfl (by decide))) fun v92 H20 ⟨o92, e92, hv, hc⟩ => ?_
          subst hv
          rw [show doM (⟨[(0, a), (1, b)], 2, k, 0, false⟩ : PT) 1 ⟨5, mm, b, a, false⟩ = ⟨0, 0, [(0, 10757)], (⟨[(1, b)], 3, mm, 1, false⟩ : PT)⟩ from pre_pre (sv := 5) (by decide) ha hb hab hkk0 hmm0] at hc ⊢
          replace st := st.tabCall (kr' := ⟨true, 30, (((⟨[(1, b)], 3, mm, 1, false⟩ : PT)).regs).flatMap regE⟩) rfl (hc.imp (fun ⟨a, b, c⟩ => ⟨a, congrArg (fun l : List (Int × Int) => (⟨true, 30, l.flatMap regE⟩ : Blk)) b, c⟩) id)
          clear hc
          refine aN rfl rfl (by constructor) ?_
          refine aN rfl rfl (by constructor) ?_
          refine aN rfl rfl (by constructor) ?_
          refine aExtA rfl rfl ?_
          refine aN rfl rfl (by constructor) ?_
          refine aN rfl rfl (by constructor) ?_
          refine aMovA rfl ?_
          refine sE ?_
          show AWl _ _ _ _ _
          refine aN rfl rfl (by constructor) ?_
          refine aC (regs_call (P := (⟨[(1, b)], 3, mm, 1, false⟩ : PT)) (st.get (j := 0) rfl) (st.rowAcc 1 rfl (by decide) (flat_len' regE_len _)) (show (1 : Nat) ≤ 1000 by decide)) fun v97 H21 ⟨oc97, hv, st1⟩ => ?_
          subst hv
          replace st := st.call st1 rfl
          clear st1
          refine aMovA rfl ?_
          refine sE ?_
          show AWl _ _ _ _ _
          refine aN rfl rfl (by constructor) ?_
          refine aC (reserved_call (P := (⟨[(1, b)], 3, mm, 1, false⟩ : PT)) (st.get (j := 1) rfl) (st.rowAcc 2 rfl (by decide) (flat_len' regE_len _)) (show (1 : Nat) ≤ 1000 by decide)) fun v100 H22 ⟨hv, st1⟩ => ?_
          subst hv
          replace st := st.call st1 rfl
          clear st1
          rw [res1 (⟨[(1, b)], 3, mm, 1, false⟩ : PT)]
          refine aN rfl rfl (by constructor) ?_
          refine aN rfl rfl (by constructor) ?_
          refine aN rfl rfl (by constructor) ?_
          refine aN rfl rfl (by constructor) ?_
          refine aN rfl rfl (by constructor) ?_
          refine sE ?_
          show AWl _ _ _ _ _
          refine aN rfl rfl (by constructor) ?_
          refine aBinV (.bool true) rfl rfl rfl ?_
          refine aN rfl rfl (by constructor) ?_
          refine gT rfl ?_
          refine aMovA rfl ?_
          refine gT rfl ?_
          refine aLen (st.rowAcc 3 rfl (by decide) (by exact flat_len' evE_len _)) rfl ?_
          refine gT rfl ?_
          refine aBinV (.bool true) rfl rfl rfl ?_
          refine aN rfl rfl (by constructor) ?_
          refine aN rfl rfl (by constructor) ?_
          refine gT rfl ?_
          refine aMovA rfl ?_
          refine gT rfl ?_
          refine aIxE evE_len (0, 0) (l := ([(0, 10757)] : List (Int × Int))) (st.rowAcc 3 rfl (by decide) (by exact flat_len' evE_len _)) rfl rfl (by decide) fun b112 o112 g112 => ?_
          refine gT rfl ?_
          refine aLdAG rfl g112 ?_
          refine gT rfl ?_
          refine aBld rfl (by repeat constructor) ?_
          refine gT rfl ?_
          refine aEqAV true rfl rfl (by simp [regE, evE, eqL, eqV]) ?_
          refine aN rfl rfl (by constructor) ?_
          refine aN rfl rfl (by constructor) ?_
          refine gT rfl ?_
          refine aMovA rfl ?_
          refine gT rfl ?_
          refine aLen (st.rowAcc 0 rfl (by decide) (by exact flat_len' regE_len _)) rfl ?_
          refine gT rfl ?_
          refine aBinV (.bool true) rfl rfl rfl ?_
          refine aN rfl rfl (by constructor) ?_
          refine aN rfl rfl (by constructor) ?_
          refine gT rfl ?_
          refine aMovA rfl ?_
          refine gT rfl ?_
          refine aIxE regE_len (0, 0) (l := (⟨[(1, b)], 3, mm, 1, false⟩ : PT).regs) (st.rowAcc 0 rfl (by decide) (by exact flat_len' regE_len _)) rfl rfl (show (0 : Int) ≤ 0 ∧ (0 : Int) < 1 by decide) fun b124 o124 g124 => ?_
          refine gT rfl ?_
          refine aLdAG rfl g124 ?_
          refine gT rfl ?_
          refine aN rfl rfl (by constructor) ?_
          refine gT rfl ?_
          refine aBld rfl (by repeat constructor) ?_
          refine gT rfl ?_
          refine aEqAV true rfl rfl (by simp [regE, evE, eqL, eqV]) ?_
          refine aN rfl rfl (by constructor) ?_
          refine aN rfl rfl (by constructor) ?_
          refine gT rfl ?_
          refine aN rfl rfl (by constructor) ?_
          refine gT rfl ?_
          refine aN rfl rfl (by constructor) ?_
          refine gT rfl ?_
          refine aBinV (.bool true) rfl rfl eq_int ?_
          refine aN rfl rfl (by constructor) ?_
          refine aN rfl rfl (by constructor) ?_
          refine gT rfl ?_
          refine aN rfl rfl (by constructor) ?_
          refine gT rfl ?_
          refine aC (holds_call (P := (⟨[(1, b)], 3, mm, 1, false⟩ : PT)) (n := 1) (st.get (j := 1) rfl) (st.rowAcc 2 rfl (by decide) (flat_len' regE_len _)) (show (1 : Nat) ≤ 1000 by decide)) fun v137 H23 ⟨hv, st1⟩ => ?_
          subst hv
          replace st := st.call st1 rfl
          clear st1
          rw [show holdsM (⟨[(1, b)], 3, mm, 1, false⟩ : PT) 1 = true from pre_h2 hmm0]
          refine aN rfl rfl (by constructor) ?_
          refine aN rfl rfl (by constructor) ?_
          refine gT rfl ?_
          refine aN rfl rfl (by constructor) ?_
          refine gT rfl ?_
          refine aC (holds_call (P := (⟨[(1, b)], 3, mm, 1, false⟩ : PT)) (n := 0) (st.get (j := 1) rfl) (st.rowAcc 2 rfl (by decide) (flat_len' regE_len _)) (show (1 : Nat) ≤ 1000 by decide)) fun v141 H24 ⟨hv, st1⟩ => ?_
          subst hv
          replace st := st.call st1 rfl
          clear st1
          rw [show holdsM (⟨[(1, b)], 3, mm, 1, false⟩ : PT) 0 = false from pre_h3 hmm0]
          refine gT rfl ?_
          refine aN rfl rfl (by constructor) ?_
          refine aN rfl rfl (by constructor) ?_
          refine aN rfl rfl (by constructor) ?_
          refine gT rfl ?_
          refine aN rfl rfl (by constructor) ?_
          refine gT rfl ?_
          refine aC (conflict_call (P := (⟨[(1, b)], 3, mm, 1, false⟩ : PT)) (n := 0) (c := 2) (st.get (j := 1) rfl) (st.rowAcc 2 rfl (by decide) (flat_len' regE_len _)) (show (1 : Nat) ≤ 1000 by decide)) fun v146 H25 ⟨hv, st1⟩ => ?_
          subst hv
          replace st := st.call st1 rfl
          clear st1
          rw [show conflictM (⟨[(1, b)], 3, mm, 1, false⟩ : PT) 0 2 = true from pre_c hmm0]
          refine aN rfl rfl (by constructor) ?_
          refine aN rfl rfl (by constructor) ?_
          refine sE ?_
          refine ⟨_, out1 (r_tmp rfl (by constructor)), ?_⟩
          rfl
        · show AWl _ _ _ _ _
          refine aN rfl rfl (by constructor) ?_
          refine aLdA st 0 rfl rfl (by first | decide | simp [*]) (by repeat constructor) ?_
          replace st := st.sel [1, 2, 0, 3, 4, 5, 6, 7] (by decide)
          refine aC (do_call (P := (⟨[(0, a), (1, b)], 2, k, 0, false⟩ : PT)) (n := 1) (o := ⟨4, mm, b, a, false⟩) (st.get (j := 0) rfl) (st.got 1 rfl).1 (st.got 1 rfl).2 (show (2 : Nat) ≤ 400 by decide) (st.ne 1 0 rfl rfl (by decide))) fun v92 H26 ⟨o92, e92, hv, hc⟩ => ?_
          subst hv
          rw [show doM (⟨[(0, a), (1, b)], 2, k, 0, false⟩ : PT) 1 ⟨4, mm, b, a, false⟩ = ⟨0, 0, [(0, 10757)], (⟨[(1, b)], 3, mm, 1, false⟩ : PT)⟩ from pre_pre (sv := 4) (by decide) ha hb hab hkk0 hmm0] at hc ⊢
          replace st := st.tabCall (kr' := ⟨true, 30, (((⟨[(1, b)], 3, mm, 1, false⟩ : PT)).regs).flatMap regE⟩) rfl (hc.imp (fun ⟨a, b, c⟩ => ⟨a, congrArg (fun l : List (Int × Int) => (⟨true, 30, l.flatMap regE⟩ : Blk)) b, c⟩) id)
          clear hc
          refine aN rfl rfl (by constructor) ?_
          refine aN rfl rfl (by constructor) ?_
          refine aN rfl rfl (by constructor) ?_
          refine aExtA rfl rfl ?_
          refine aN rfl rfl (by constructor) ?_
          refine aN rfl rfl (by constructor) ?_
          refine aMovA rfl ?_
          refine sE ?_
          show AWl _ _ _ _ _
          refine aN rfl rfl (by constructor) ?_
          refine aC (regs_call (P := (⟨[(1, b)], 3, mm, 1, false⟩ : PT)) (st.get (j := 0) rfl) (st.rowAcc 1 rfl (by decide) (flat_len' regE_len _)) (show (1 : Nat) ≤ 1000 by decide)) fun v97 H27 ⟨oc97, hv, st1⟩ => ?_
          subst hv
          replace st := st.call st1 rfl
          clear st1
          refine aMovA rfl ?_
          refine sE ?_
          show AWl _ _ _ _ _
          refine aN rfl rfl (by constructor) ?_
          refine aC (reserved_call (P := (⟨[(1, b)], 3, mm, 1, false⟩ : PT)) (st.get (j := 1) rfl) (st.rowAcc 2 rfl (by decide) (flat_len' regE_len _)) (show (1 : Nat) ≤ 1000 by decide)) fun v100 H28 ⟨hv, st1⟩ => ?_
          subst hv
          replace st := st.call st1 rfl
          clear st1
          rw [res1 (⟨[(1, b)], 3, mm, 1, false⟩ : PT)]
          refine aN rfl rfl (by constructor) ?_
          refine aN rfl rfl (by constructor) ?_
          refine aN rfl rfl (by constructor) ?_
          refine aN rfl rfl (by constructor) ?_
          refine aN rfl rfl (by constructor) ?_
          refine sE ?_
          show AWl _ _ _ _ _
          refine aN rfl rfl (by constructor) ?_
          refine aBinV (.bool true) rfl rfl rfl ?_
          refine aN rfl rfl (by constructor) ?_
          refine gT rfl ?_
          refine aMovA rfl ?_
          refine gT rfl ?_
          refine aLen (st.rowAcc 3 rfl (by decide) (by exact flat_len' evE_len _)) rfl ?_
          refine gT rfl ?_
          refine aBinV (.bool true) rfl rfl rfl ?_
          refine aN rfl rfl (by constructor) ?_
          refine aN rfl rfl (by constructor) ?_
          refine gT rfl ?_
          refine aMovA rfl ?_
          refine gT rfl ?_
          refine aIxE evE_len (0, 0) (l := ([(0, 10757)] : List (Int × Int))) (st.rowAcc 3 rfl (by decide) (by exact flat_len' evE_len _)) rfl rfl (by decide) fun b112 o112 g112 => ?_
          refine gT rfl ?_
          refine aLdAG rfl g112 ?_
          refine gT rfl ?_
          refine aBld rfl (by repeat constructor) ?_
          refine gT rfl ?_
          refine aEqAV true rfl rfl (by simp [regE, evE, eqL, eqV]) ?_
          refine aN rfl rfl (by constructor) ?_
          refine aN rfl rfl (by constructor) ?_
          refine gT rfl ?_
          refine aMovA rfl ?_
          refine gT rfl ?_
          refine aLen (st.rowAcc 0 rfl (by decide) (by exact flat_len' regE_len _)) rfl ?_
          refine gT rfl ?_
          refine aBinV (.bool true) rfl rfl rfl ?_
          refine aN rfl rfl (by constructor) ?_
          refine aN rfl rfl (by constructor) ?_
          refine gT rfl ?_
          refine aMovA rfl ?_
          refine gT rfl ?_
          refine aIxE regE_len (0, 0) (l := (⟨[(1, b)], 3, mm, 1, false⟩ : PT).regs) (st.rowAcc 0 rfl (by decide) (by exact flat_len' regE_len _)) rfl rfl (show (0 : Int) ≤ 0 ∧ (0 : Int) < 1 by decide) fun b124 o124 g124 => ?_
          refine gT rfl ?_
          refine aLdAG rfl g124 ?_
          refine gT rfl ?_
          refine aN rfl rfl (by constructor) ?_
          refine gT rfl ?_
          refine aBld rfl (by repeat constructor) ?_
          refine gT rfl ?_
          refine aEqAV true rfl rfl (by simp [regE, evE, eqL, eqV]) ?_
          refine aN rfl rfl (by constructor) ?_
          refine aN rfl rfl (by constructor) ?_
          refine gT rfl ?_
          refine aN rfl rfl (by constructor) ?_
          refine gT rfl ?_
          refine aN rfl rfl (by constructor) ?_
          refine gT rfl ?_
          refine aBinV (.bool true) rfl rfl eq_int ?_
          refine aN rfl rfl (by constructor) ?_
          refine aN rfl rfl (by constructor) ?_
          refine gT rfl ?_
          refine aN rfl rfl (by constructor) ?_
          refine gT rfl ?_
          refine aC (holds_call (P := (⟨[(1, b)], 3, mm, 1, false⟩ : PT)) (n := 1) (st.get (j := 1) rfl) (st.rowAcc 2 rfl (by decide) (flat_len' regE_len _)) (show (1 : Nat) ≤ 1000 by decide)) fun v137 H29 ⟨hv, st1⟩ => ?_
          subst hv
          replace st := st.call st1 rfl
          clear st1
          rw [show holdsM (⟨[(1, b)], 3, mm, 1, false⟩ : PT) 1 = true from pre_h2 hmm0]
          refine aN rfl rfl (by constructor) ?_
          refine aN rfl rfl (by constructor) ?_
          refine gT rfl ?_
          refine aN rfl rfl (by constructor) ?_
          refine gT rfl ?_
          refine aC (holds_call (P := (⟨[(1, b)], 3, mm, 1, false⟩ : PT)) (n := 0) (st.get (j := 1) rfl) (st.rowAcc 2 rfl (by decide) (flat_len' regE_len _)) (show (1 : Nat) ≤ 1000 by decide)) fun v141 H30 ⟨hv, st1⟩ => ?_
          subst hv
          replace st := st.call st1 rfl
          clear st1
          rw [show holdsM (⟨[(1, b)], 3, mm, 1, false⟩ : PT) 0 = false from pre_h3 hmm0]
          refine gT rfl ?_
          refine aN rfl rfl (by constructor) ?_
          refine aN rfl rfl (by constructor) ?_
          refine aN rfl rfl (by constructor) ?_
          refine gT rfl ?_
          refine aN rfl rfl (by constructor) ?_
          refine gT rfl ?_
          refine aC (conflict_call (P := (⟨[(1, b)], 3, mm, 1, false⟩ : PT)) (n := 0) (c := 2) (st.get (j := 1) rfl) (st.rowAcc 2 rfl (by decide) (flat_len' regE_len _)) (show (1 : Nat) ≤ 1000 by decide)) fun v146 H31 ⟨hv, st1⟩ => ?_
          subst hv
          replace st := st.call st1 rfl
          clear st1
          rw [show conflictM (⟨[(1, b)], 3, mm, 1, false⟩ : PT) 0 2 = true from pre_c hmm0]
          refine aN rfl rfl (by constructor) ?_
          refine aN rfl rfl (by constructor) ?_
          refine sE ?_
          refine ⟨_, out1 (r_tmp rfl (by constructor)), ?_⟩
          rfl
theorem prPreempts_law {H : Hp} {B : Nat} {xs : List Value} (hro : Ro H) (hd : datArgs Try.prog H B 8 [28, 28, 5, 5, 4] xs) : ACalls Try.prog 6 xs H fun v _ => v = .bool true := by
  obtain ⟨x0, x1, x2, x3, x4, rfl, d0, d1, d2, d3, d4⟩ := args5 hd
  obtain ⟨a, rfl, wa⟩ := arg_int (k := .u64) (by kernel_rfl) d0
  obtain ⟨b, rfl, wb⟩ := arg_int (k := .u64) (by kernel_rfl) d1
  obtain ⟨zk, rfl, vk⟩ := arg_int (k := .u8) (by kernel_rfl) d2
  obtain ⟨k, rfl, qk⟩ := r8n vk
  obtain ⟨zm, rfl, vm⟩ := arg_int (k := .u8) (by kernel_rfl) d3
  obtain ⟨m, rfl, qm⟩ := r8n vm
  obtain ⟨c, rfl⟩ := arg_bool (by kernel_rfl) d4
  exact preempts_call qk qm

end Go.Proofs.Ytihkghfmihdicaa.Abs
