/- PrClears. -/
import Derived.Test.YtihkghfmihdicaaR0
set_option linter.unusedVariables false
set_option linter.unusedSimpArgs false
set_option maxRecDepth 100000
namespace Go.Proofs.Ytihkghfmihdicaa.Abs
open Go Go.RowKit

theorem doM_sv3 {P : PT} {n : Int} (hn : 0 ≤ n ∧ n < 8) {k : Int} : doM P n ⟨3, 0, k, 0, false⟩ = if (keyM P.regs n).2 = false ∨ k ≠ (keyM P.regs n).1 then ⟨24, 0, [], P⟩ else ⟨0, 0, clearE P n, clearP P⟩ := by
  unfold doM
  rw [if_neg (fun hc => by rcases hc with h | h | h; omega; omega; exact absurd h (show ¬ (3 : Int) > 6 by decide)), if_neg (show ¬ (3 : Int) = 6 by decide), if_neg (show ¬ (3 : Int) = 0 by decide)]
  split
  · rfl
  · rw [if_neg (show ¬ (3 : Int) = 1 by decide), if_neg (show ¬ (3 : Int) = 2 by decide), if_pos rfl]
theorem clear_none {P : PT} (h : WFT P) {n : Int} (hn : 0 ≤ n ∧ n < 8) (hk : (keyM P.regs n).1 = 0) : doM P n ⟨3, 0, (keyM P.regs n).1, 0, false⟩ = ⟨24, 0, [], P⟩ := by
  have : (keyM P.regs n).2 = false := by
    rcases hb : (keyM P.regs n).2 with _ | _
    · rfl
    · exact absurd hk (h.key0.1 hb)
  rw [doM_sv3 hn, if_pos (.inl this)]
theorem clear_some {P : PT} (h : WFT P) {n : Int} (hn : 0 ≤ n ∧ n < 8) (hk : (keyM P.regs n).1 ≠ 0) : doM P n ⟨3, 0, (keyM P.regs n).1, 0, false⟩ = ⟨0, 0, clearE P n, clearP P⟩ := by
  rw [doM_sv3 hn, if_neg (fun hc => hc.elim (fun h1 => by rw [h.key0.2 hk] at h1; cases h1) (fun h1 => h1 rfl))]
theorem clear_new {P : PT} {n : Int} (hn : 0 ≤ n ∧ n < 8) : doM (clearP P) n ⟨0, 0, 0, 9, false⟩ = ⟨0, 0, [], { clearP P with regs := [(n, 9)], aptpl := false, gen := inc32 (inc32 P.gen) }⟩ := by
  unfold doM
  rw [if_neg (fun hc => by rcases hc with h | h | h; omega; omega; exact absurd h (by decide)), if_neg (by decide), if_pos rfl, if_neg (by intro hc; exact hc rfl)]
  obtain ⟨e1, e2⟩ := reg1 (P := clearP P) (n := n) (o := ⟨0, 0, 0, 9, false⟩) (known := (keyM (clearP P).regs n).2) (by decide)
  rw [e1, e2]
  rfl
theorem filt_one {l : List (Int × Int)} (hs : l.Pairwise (fun a b => a.1 < b.1)) {n : Int} (h : ∃ r ∈ l, r.1 = n) : (l.filter (fun r => r.1 != n)).length + 1 = l.length := by
  induction l with
  | nil => obtain ⟨r, hr, _⟩ := h; cases hr
  | cons a l ih =>
    obtain ⟨h1, h2⟩ := List.pairwise_cons.1 hs
    by_cases ha : a.1 = n
    · have e : l.filter (fun r => r.1 != n) = l := List.filter_eq_self.2 fun r hr => by
        have := h1 r hr
        simp only [bne_iff_ne]
        omega
      rw [List.filter_cons, if_neg (by simp [ha]), e]
      rfl
    · obtain ⟨r, hr, hn⟩ := h
      rcases List.mem_cons.1 hr with hra | hra
      · exact absurd (by rw [← hra]; exact hn) ha
      · have := ih h2 ⟨r, hra, hn⟩
        rw [List.filter_cons, if_pos (by simp [ha]), List.length_cons, List.length_cons]
        omega
theorem clearE_len {P : PT} (h : WFT P) {n : Int} (hk : (keyM P.regs n).1 ≠ 0) : (clearE P n).length + 1 = P.regs.length := by
  unfold clearE
  rw [List.length_map]
  exact filt_one h.sorted (keyM_iff.1 (h.key0.2 hk))
theorem clearE_mem {P : PT} {n : Int} {e : Int × Int} (h : e ∈ clearE P n) : e.1 ≠ n ∧ e.2 = 10755 := by
  unfold clearE at h
  obtain ⟨r, hr, rfl⟩ := List.mem_map.1 h
  have := (List.mem_filter.1 hr).2
  exact ⟨by simpa using this, rfl⟩
theorem key_end {P : PT} (h : WFT P) {n q : Int} (hq : (q = 0 ∧ ∀ i, i < P.regs.length → (P.regs.getD i (0, 0)).1 ≠ n) ∨ (n, q) ∈ P.regs) : q = (keyM P.regs n).1 := by
  rcases hq with ⟨rfl, h1⟩ | h1
  · rw [keyM_no h1]
  · rw [keyM_eq h.sorted h1]
theorem clears_call {H : Hp} {xs : List PAct} {x : Value} {nx : Nat} (hs : Sl H 7 xs.length (xs.flatMap actE) x) (hsw : ∀ a ∈ xs, 0 ≤ a.o.act ∧ a.o.act < 18446744073709551616) (hl : xs.length ≤ 140737488351232) (hm : nx < 256) :
    ACalls Try.prog 3 [x, .int .u8 (nx : Int)] H (fun v _ => v = .bool true) := by
  refine acallsW Try.func3 f3_ok (Nat.le_of_ble_eq_true rfl) fun hw => ?_
  have st : Stt [] H H [] := Stt.start hw
  unfold f3c
  show AWl _ _ _ _ _
  refine aN rfl rfl (by constructor) ?_
  refine sE ?_
  show AWl _ _ _ _ _
  refine aC (awake_call) fun v20 H1 ⟨hv, st1⟩ => ?_
  subst hv
  replace st := st.call st1 rfl
  clear st1
  refine aN rfl rfl (by constructor) ?_
  refine sE ?_
  show AW _ (.cond _ _ _) _ _ _
  refine cF' rfl ?_
  show AWl _ _ _ _ _
  refine aMovV x rfl ?_
  refine aC (play_call (st.slc hs) hsw hl) fun v23 H2 ⟨b23, ob23, P23, hv, st1, hP23⟩ => ?_
  subst hv
  replace st := st.call st1 rfl
  clear st1
  have hP8 := hP23.len
  refine aN rfl rfl (by constructor) ?_
  refine sE ?_
  show AWl _ _ _ _ _
  refine aN rfl rfl (by constructor) ?_
  refine aN rfl rfl (by constructor) ?_
  refine aBinV (.int .i64 ((nx % 3 : Nat) : Int)) rfl rfl (remN (n := 3) (by decide) (by omega)) ?_
  have hni : 0 ≤ ((nx % 3 : Nat) : Int) ∧ ((nx % 3 : Nat) : Int) < 8 := by omega
  refine aN rfl rfl (by constructor) ?_
  refine sE ?_
  show AWl _ _ _ _ _
  refine aN rfl rfl (by constructor) ?_
  refine aC (regs_call (P := P23) (st.get (j := 0) rfl) (st.rowAcc 1 rfl (by decide) (flat_len' regE_len _)) (by omega)) fun v28 H3 ⟨oc28, hv, st1⟩ => ?_
  subst hv
  replace st := st.call st1 rfl
  clear st1
  refine aMovA rfl ?_
  refine sE ?_
  show AWl _ _ _ _ _
  refine aN rfl rfl (by constructor) ?_
  refine sE ?_
  show AWl _ _ _ _ _
  refine aN rfl rfl (by constructor) ?_
  refine sE ?_
  show AW _ (.loop _) _ _ _
  refine AW_loopN (fun m t1 H1 => ∃ (j : Nat) (q : Int), m = P23.regs.length - j ∧ (j ≤ P23.regs.length) ∧ ((q = 0 ∧ ∀ i, i < j → (P23.regs.getD i (0, 0)).1 ≠ ((nx % 3 : Nat) : Int)) ∨ (((nx % 3 : Nat) : Int), q) ∈ P23.regs) ∧ t1 9 = .int .i64 (j : Int) ∧ t1 8 = .int .u64 q ∧ Stt [] H H1 [⟨some b23, true, ⟨true, 79, [accV ob23 P23.regs.length 2, .int .u32 P23.gen, .int .u8 P23.kind, .int .i64 P23.holder, .bool P23.aptpl]⟩⟩, ⟨ob23, true, ⟨true, 30, (P23.regs).flatMap regE⟩⟩, ⟨oc28, true, ⟨true, 30, (P23.regs).flatMap regE⟩⟩]) (P23.regs.length - 0) ⟨0, 0, rfl, by omega, .inl ⟨rfl, fun i hi => by omega⟩, rfl, rfl, (st.sel [1, 2, 0] (by decide))⟩ [8, 9, 29, 30, 31, 32, 33, 34, 35, 36, 37, 38, 39, 40, 41, 42, 43, 44, 45, 46] (by decide) ?_
  rintro m t1 H1 hk hI
  obtain ⟨j, q, rfl, hj, hq, ht9, ht8, st⟩ := hI
  obtain ⟨u, rfl⟩ : ∃ u, t1 = (upd (upd (mix [8, 9, 29, 30, 31, 32, 33, 34, 35, 36, 37, 38, 39, 40, 41, 42, 43, 44, 45, 46] _ u) (some 9) _) (some 8) _) := ⟨t1, by rw [← hk, upd_self ht9, upd_self ht8]⟩
  clear hk ht9 ht8
  show AWl _ _ _ _ _
  refine aN rfl rfl (by constructor) ?_
  refine aMovA rfl ?_
  refine aLen (st.rowAcc 2 rfl (by decide) (by exact flat_len' regE_len _)) rfl ?_
  refine aN rfl rfl (by constructor) ?_
  refine sE ?_
  show AW _ (.cond _ _ _) _ _ _
  refine cC' rfl (fun h4 => ?_) (fun h4 => ?_)
  · have hlt : j < P23.regs.length := by have := of_decide_eq_true h4; omega
    show AWl _ _ _ _ _
    refine aMovA rfl ?_
    refine aN rfl rfl (by constructor) ?_
    refine aIxE regE_len (0, 0) (l := P23.regs) (st.rowAcc 2 rfl (by decide) (by exact flat_len' regE_len _)) rfl rfl (by omega) fun b37 o37 g37 => ?_
    refine aN rfl rfl (by constructor) ?_
    refine aLdP g37 0 rfl (rfl) (by constructor) (by decide) ?_
    refine aN rfl rfl (by constructor) ?_
    refine aN rfl rfl (by constructor) ?_
    refine sE ?_
    show AW _ (.cond _ _ _) _ _ _
    refine cC' rfl (fun h5 => ?_) (fun h5 => ?_)
    · have hx : (P23.regs.getD j (0, 0)).1 = ((nx % 3 : Nat) : Int) := by simpa using h5
      show AWl _ _ _ _ _
      refine aMovA rfl ?_
      refine aN rfl rfl (by constructor) ?_
      refine aIxE regE_len (0, 0) (l := P23.regs) (st.rowAcc 2 rfl (by decide) (by exact flat_len' regE_len _)) rfl rfl (by omega) fun b44 o44 g44 => ?_
      refine aN rfl rfl (by constructor) ?_
      refine aLdP g44 1 rfl (rfl) (by constructor) (by decide) ?_
      refine aN rfl rfl (by constructor) ?_
      refine sE ?_
      show AWl _ _ _ _ _
      refine aN rfl rfl (by constructor) ?_
      refine aN rfl rfl (by constructor) ?_
      refine aN rfl rfl (by constructor) ?_
      refine sE ?_
      exact ⟨_, by omega, j + 1, (P23.regs.getD j (0, 0)).2, rfl, by omega, .inr (by have h1 := getD_mem' (d := (0, 0)) hlt; rw [← hx]; exact h1), congrArg (Value.int .i64) (wi _ (by omega)), rfl, (st.sel [0, 1, 2] (by decide))⟩
    · have hx : (P23.regs.getD j (0, 0)).1 ≠ ((nx % 3 : Nat) : Int) := by simpa using h5
      show AWl _ _ _ _ _
      refine aN rfl rfl (by constructor) ?_
      refine aN rfl rfl (by constructor) ?_
      refine aN rfl rfl (by constructor) ?_
      refine sE ?_
      exact ⟨_, by omega, j + 1, q, rfl, by omega, hq.imp (fun ⟨a, c⟩ => ⟨a, fun i hi => by { rcases Nat.lt_succ_iff_lt_or_eq.1 hi with h | h; exact c i h; subst h; exact hx }⟩) id, congrArg (Value.int .i64) (wi _ (by omega)), rfl, (st.sel [0, 1, 2] (by decide))⟩
  · have hge : j = P23.regs.length := by have := of_decide_eq_false h4; omega
    subst hge
    obtain rfl := key_end hP23 hq
    show AWl _ _ _ _ _
    refine aN rfl rfl (by constructor) ?_
    refine aC (gen_call (P := P23) (st.get (j := 0) rfl) (st.rowAcc 1 rfl (by decide) (flat_len' regE_len _)) (by omega)) fun v48 H6 ⟨hv, st1⟩ => ?_
    subst hv
    replace st := st.call st1 rfl
    clear st1
    refine aN rfl rfl (by constructor) ?_
    refine sE ?_
    show AWl _ _ _ _ _
    refine aN rfl rfl (by constructor) ?_
    refine aN rfl rfl (by constructor) ?_
    refine aN rfl rfl (by constructor) ?_
    refine aBld rfl (by repeat constructor) ?_
    by_cases hkz : (keyM P23.regs ((nx % 3 : Nat) : Int)).1 = 0
    · replace st := st.sel [0, 1, 2] (by decide)
      refine aC (do_call (P := P23) (n := ((nx % 3 : Nat) : Int)) (o := ⟨3, 0, (keyM P23.regs ((nx % 3 : Nat) : Int)).1, 0, false⟩) (st.get (j := 0) rfl) (st.got 1 rfl).1 (st.got 1 rfl).2 (by omega) (st.ne 1 0 rfl rfl (by decide))) fun v54 H7 ⟨o54, e54, hv, hc⟩ => ?_
      subst hv
      rw [show doM P23 ((nx % 3 : Nat) : Int) ⟨3, 0, (keyM P23.regs ((nx % 3 : Nat) : Int)).1, 0, false⟩ = ⟨24, 0, [], P23⟩ from clear_none hP23 hni hkz] at hc ⊢
      replace st := st.tabCall (kr' := ⟨true, 30, ((P23).regs).flatMap regE⟩) rfl (hc.imp (fun ⟨a, b, c⟩ => ⟨a, congrArg (fun l : List (Int × Int) => (⟨true, 30, l.flatMap regE⟩ : Blk)) b, c⟩) id)
      clear hc
      refine aN rfl rfl (by constructor) ?_
      refine aN rfl rfl (by constructor) ?_
      refine aN rfl rfl (by constructor) ?_
      refine aExtA rfl rfl ?_
      refine aN rfl rfl (by constructor) ?_
      refine aN rfl rfl (by constructor) ?_
      refine aMovA rfl ?_
      refine sE ?_
      show AWl _ _ _ _ _
      refine aN rfl rfl (by constructor) ?_
      refine aBinV (.bool true) rfl rfl (by exact congrArg (fun q => some (Value.bool q)) (show ((keyM P23.regs ((nx % 3 : Nat) : Int)).1 == 0) = true by simpa using hkz)) ?_
      refine sE ?_
      show AW _ (.cond _ _ _) _ _ _
      refine cT rfl ?_
      show AWl _ _ _ _ _
      refine aN rfl rfl (by constructor) ?_
      refine aBinV (.bool true) rfl rfl rfl ?_
      refine aN rfl rfl (by constructor) ?_
      refine gT rfl ?_
      refine aMovA rfl ?_
      refine gT rfl ?_
      refine aLen (st.rowAcc 2 rfl (by decide) (by exact flat_len' evE_len _)) rfl ?_
      refine gT rfl ?_
      refine aBinV (.bool true) rfl rfl rfl ?_
      refine aN rfl rfl (by constructor) ?_
      refine aN rfl rfl (by constructor) ?_
      refine gT rfl ?_
      refine aN rfl rfl (by constructor) ?_
      refine gT rfl ?_
      refine aC (gen_call (P := P23) (st.get (j := 0) rfl) (st.rowAcc 1 rfl (by decide) (flat_len' regE_len _)) (by omega)) fun v69 H8 ⟨hv, st1⟩ => ?_
      subst hv
      replace st := st.call st1 rfl
      clear st1
      refine gT rfl ?_
      refine aN rfl rfl (by constructor) ?_
      refine gT rfl ?_
      refine aBinV (.bool true) rfl rfl eq_int ?_
      refine aN rfl rfl (by constructor) ?_
      refine aN rfl rfl (by constructor) ?_
      refine sE ?_
      refine ⟨_, out1 (r_tmp rfl (by constructor)), ?_⟩
      rfl
    · replace st := st.sel [0, 1, 2] (by decide)
      refine aC (do_call (P := P23) (n := ((nx % 3 : Nat) : Int)) (o := ⟨3, 0, (keyM P23.regs ((nx % 3 : Nat) : Int)).1, 0, false⟩) (st.get (j := 0) rfl) (st.got 1 rfl).1 (st.got 1 rfl).2 (by omega) (st.ne 1 0 rfl rfl (by decide))) fun v54 H9 ⟨o54, e54, hv, hc⟩ => ?_
      subst hv
      rw [show doM P23 ((nx % 3 : Nat) : Int) ⟨3, 0, (keyM P23.regs ((nx % 3 : Nat) : Int)).1, 0, false⟩ = ⟨0, 0, clearE P23 ((nx % 3 : Nat) : Int), clearP P23⟩ from clear_some hP23 hni hkz] at hc ⊢
      replace st := st.tabCall (kr' := ⟨true, 30, (((clearP P23)).regs).flatMap regE⟩) rfl (hc.imp (fun ⟨a, b, c⟩ => ⟨a, congrArg (fun l : List (Int × Int) => (⟨true, 30, l.flatMap regE⟩ : Blk)) b, c⟩) id)
      clear hc
      refine aN rfl rfl (by constructor) ?_
      refine aN rfl rfl (by constructor) ?_
      refine aN rfl rfl (by constructor) ?_
      refine aExtA rfl rfl ?_
      refine aN rfl rfl (by constructor) ?_
      refine aN rfl rfl (by constructor) ?_
      refine aMovA rfl ?_
      refine sE ?_
      show AWl _ _ _ _ _
      refine aN rfl rfl (by constructor) ?_
      refine aBinV (.bool false) rfl rfl (by exact congrArg (fun q => some (Value.bool q)) (show ((keyM P23.regs ((nx % 3 : Nat) : Int)).1 == 0) = false by simpa using hkz)) ?_
      refine sE ?_
      show AW _ (.cond _ _ _) _ _ _
      refine cF' rfl ?_
      show AWl _ _ _ _ _
      refine aN rfl rfl (by constructor) ?_
      refine aC (reserved_call (P := (clearP P23)) (st.get (j := 0) rfl) (st.rowAcc 1 rfl (by decide) (flat_len' regE_len _)) (Nat.zero_le _)) fun v75 H10 ⟨hv, st1⟩ => ?_
      subst hv
      replace st := st.call st1 rfl
      clear st1
      refine aN rfl rfl (by constructor) ?_
      refine aN rfl rfl (by constructor) ?_
      refine aN rfl rfl (by constructor) ?_
      refine aN rfl rfl (by constructor) ?_
      refine aN rfl rfl (by constructor) ?_
      refine sE ?_
      show AWl _ _ _ _ _
      refine aN rfl rfl (by constructor) ?_
      refine aBinV (.bool false) rfl rfl rfl ?_
      refine aN rfl rfl (by constructor) ?_
      refine gT rfl ?_
      refine aMovA rfl ?_
      refine gT rfl ?_
      refine aLen (st.rowAcc 2 rfl (by decide) (by exact flat_len' evE_len _)) rfl ?_
      refine gT rfl ?_
      refine aMovA rfl ?_
      refine gT rfl ?_
      refine aLen (st.rowAcc 3 rfl (by decide) (by exact flat_len' regE_len _)) rfl ?_
      refine gT rfl ?_
      refine aBinV (.int .i64 ((clearE P23 ((nx % 3 : Nat) : Int)).length : Int)) rfl rfl (by have := clearE_len hP23 hkz; show some (Value.int .i64 (IntKind.i64.wrap ((P23.regs.length : Int) - 1))) = _; rw [wi _ (by omega)]; exact congrArg (fun z => some (Value.int .i64 z)) (by omega)) ?_
      refine gT rfl ?_
      refine aBinV (.bool false) rfl rfl ne_int ?_
      refine aN rfl rfl (by constructor) ?_
      refine aN rfl rfl (by constructor) ?_
      refine gT rfl ?_
      refine aN rfl rfl (by constructor) ?_
      refine gT rfl ?_
      refine aC (regs_call (P := (clearP P23)) (st.get (j := 0) rfl) (st.rowAcc 1 rfl (by decide) (flat_len' regE_len _)) (Nat.zero_le _)) fun v90 H11 ⟨oc90, hv, st1⟩ => ?_
      subst hv
      replace st := st.call st1 rfl
      clear st1
      refine gT rfl ?_
      refine aLen (st.rowAcc 0 rfl (by decide) (by exact flat_len' regE_len _)) rfl ?_
      refine gT rfl ?_
      refine aBinV (.bool false) rfl rfl rfl ?_
      refine aN rfl rfl (by constructor) ?_
      refine aN rfl rfl (by constructor) ?_
      refine gT rfl ?_
      refine aN rfl rfl (by constructor) ?_
      refine gT rfl ?_
      refine aBinV (.bool false) rfl rfl rfl ?_
      refine aN rfl rfl (by constructor) ?_
      refine aN rfl rfl (by constructor) ?_
      refine gT rfl ?_
      refine aN rfl rfl (by constructor) ?_
      refine gT rfl ?_
      refine aBinV (.bool false) rfl rfl rfl ?_
      refine aN rfl rfl (by constructor) ?_
      refine aN rfl rfl (by constructor) ?_
      refine gT rfl ?_
      refine aN rfl rfl (by constructor) ?_
      refine gT rfl ?_
      refine aC (gen_call (P := (clearP P23)) (st.get (j := 1) rfl) (st.rowAcc 2 rfl (by decide) (flat_len' regE_len _)) (Nat.zero_le _)) fun v104 H12 ⟨hv, st1⟩ => ?_
      subst hv
      replace st := st.call st1 rfl
      clear st1
      refine gT rfl ?_
      refine aN rfl rfl (by constructor) ?_
      refine gT rfl ?_
      refine aN rfl rfl (by constructor) ?_
      refine gT rfl ?_
      refine aBinV (.bool false) rfl rfl ne_int ?_
      refine aN rfl rfl (by constructor) ?_
      refine sE ?_
      show AW _ (.cond _ _ _) _ _ _
      refine cF' rfl ?_
      show AWl _ _ _ _ _
      refine aN rfl rfl (by constructor) ?_
      refine sE ?_
      show AW _ (.loop _) _ _ _
      refine AW_loopN (fun m t1 H1 => ∃ (j : Nat), m = (clearE P23 ((nx % 3 : Nat) : Int)).length - j ∧ t1 16 = .int .i64 (j : Int) ∧ Stt [] H H1 [⟨some b23, true, ⟨true, 79, [accV o54 (clearP P23).regs.length 2, .int .u32 (clearP P23).gen, .int .u8 (clearP P23).kind, .int .i64 (clearP P23).holder, .bool (clearP P23).aptpl]⟩⟩, ⟨o54, true, ⟨true, 30, ((clearP P23).regs).flatMap regE⟩⟩, ⟨e54, true, ⟨true, 43, (clearE P23 ((nx % 3 : Nat) : Int)).flatMap evE⟩⟩]) ((clearE P23 ((nx % 3 : Nat) : Int)).length - 0) ⟨0, rfl, rfl, (st.sel [1, 2, 3] (by decide))⟩ [4, 16, 109, 110, 111, 112, 113, 114, 115, 116, 117, 118, 119, 120, 121, 122, 123, 124, 125, 126, 127, 128, 129] (by decide) ?_
      rintro m t1 H1 hk hI
      obtain ⟨j, rfl, ht16, st⟩ := hI
      obtain ⟨u, rfl⟩ : ∃ u, t1 = (upd (mix [4, 16, 109, 110, 111, 112, 113, 114, 115, 116, 117, 118, 119, 120, 121, 122, 123, 124, 125, 126, 127, 128, 129] _ u) (some 16) _) := ⟨t1, by rw [← hk, upd_self ht16]⟩
      clear hk ht16
      show AWl _ _ _ _ _
      refine aN rfl rfl (by constructor) ?_
      refine aMovA rfl ?_
      refine aLen (st.rowAcc 2 rfl (by decide) (by exact flat_len' evE_len _)) rfl ?_
      refine aN rfl rfl (by constructor) ?_
      refine sE ?_
      show AW _ (.cond _ _ _) _ _ _
      refine cC' rfl (fun h13 => ?_) (fun h13 => ?_)
      · have hlt : j < (clearE P23 ((nx % 3 : Nat) : Int)).length := Int.ofNat_lt.1 (of_decide_eq_true h13)
        have hcl := clearE_len hP23 hkz
        have hce := clearE_mem (getD_mem' (d := (0, 0)) hlt)
        show AWl _ _ _ _ _
        refine aMovA rfl ?_
        refine aN rfl rfl (by constructor) ?_
        refine aIxE evE_len (0, 0) (l := (clearE P23 ((nx % 3 : Nat) : Int))) (st.rowAcc 2 rfl (by decide) (by exact flat_len' evE_len _)) rfl rfl (by omega) fun b117 o117 g117 => ?_
        refine aN rfl rfl (by constructor) ?_
        refine aLdP g117 0 rfl (rfl) (by constructor) (by decide) ?_
        refine aN rfl rfl (by constructor) ?_
        refine aBinV (.bool false) rfl rfl (by exact congrArg (fun q => some (Value.bool q)) (show (((clearE P23 ((nx % 3 : Nat) : Int)).getD j (0, 0)).1 == ((nx % 3 : Nat) : Int)) = false by simpa using hce.1)) ?_
        refine aN rfl rfl (by constructor) ?_
        refine gT rfl ?_
        refine aMovA rfl ?_
        refine gT rfl ?_
        refine aN rfl rfl (by constructor) ?_
        refine gT rfl ?_
        refine aIxE evE_len (0, 0) (l := (clearE P23 ((nx % 3 : Nat) : Int))) (st.rowAcc 2 rfl (by decide) (by exact flat_len' evE_len _)) rfl rfl (by omega) fun b125 o125 g125 => ?_
        refine gT rfl ?_
        refine aN rfl rfl (by constructor) ?_
        refine gT rfl ?_
        refine aLdP g125 1 rfl (rfl) (by constructor) (by decide) ?_
        refine gT rfl ?_
        refine aBinV (.bool false) rfl rfl (by exact congrArg (fun q => some (Value.bool q)) (show (((clearE P23 ((nx % 3 : Nat) : Int)).getD j (0, 0)).2 != 10755) = false by rw [hce.2]; rfl)) ?_
        refine aN rfl rfl (by constructor) ?_
        refine sE ?_
        show AW _ (.cond _ _ _) _ _ _
        refine cF' rfl ?_
        show AWl _ _ _ _ _
        refine aN rfl rfl (by constructor) ?_
        refine aN rfl rfl (by constructor) ?_
        refine aN rfl rfl (by constructor) ?_
        refine sE ?_
        exact ⟨_, by omega, j + 1, rfl, congrArg (Value.int .i64) (wi _ (by omega)), (st.sel [0, 1, 2] (by decide))⟩
      · show AWl _ _ _ _ _
        refine aN rfl rfl (by constructor) ?_
        refine aN rfl rfl (by constructor) ?_
        refine aBld rfl (by repeat constructor) ?_
        replace st := st.sel [0, 1, 2] (by decide)
        refine aC (do_call (P := (clearP P23)) (n := ((nx % 3 : Nat) : Int)) (o := ⟨0, 0, 0, 9, false⟩) (st.get (j := 0) rfl) (st.got 1 rfl).1 (st.got 1 rfl).2 (Nat.zero_le _) (st.ne 1 0 rfl rfl (by decide))) fun v134 H14 ⟨o134, e134, hv, hc⟩ => ?_
        subst hv
        rw [show doM (clearP P23) ((nx % 3 : Nat) : Int) ⟨0, 0, 0, 9, false⟩ = ⟨0, 0, [], ({ clearP P23 with regs := [(((nx % 3 : Nat) : Int), 9)], aptpl := false, gen := inc32 (inc32 P23.gen) } : PT)⟩ from clear_new hni] at hc ⊢
        replace st := st.tabCall (kr' := ⟨true, 30, ((({ clearP P23 with regs := [(((nx % 3 : Nat) : Int), 9)], aptpl := false, gen := inc32 (inc32 P23.gen) } : PT)).regs).flatMap regE⟩) rfl (hc.imp (fun ⟨a, b, c⟩ => ⟨a, congrArg (fun l : List (Int × Int) => (⟨true, 30, l.flatMap regE⟩ : Blk)) b, c⟩) id)
        clear hc
        refine aN rfl rfl (by constructor) ?_
        refine aN rfl rfl (by constructor) ?_
        refine aN rfl rfl (by constructor) ?_
        refine aExtA rfl rfl ?_
        refine aN rfl rfl (by constructor) ?_
        refine aN rfl rfl (by constructor) ?_
        refine aMovA rfl ?_
        refine sE ?_
        show AWl _ _ _ _ _
        refine aN rfl rfl (by constructor) ?_
        refine aBinV (.bool true) rfl rfl rfl ?_
        refine aN rfl rfl (by constructor) ?_
        refine gT rfl ?_
        refine aN rfl rfl (by constructor) ?_
        refine gT rfl ?_
        refine aC (regs_call (P := ({ clearP P23 with regs := [(((nx % 3 : Nat) : Int), 9)], aptpl := false, gen := inc32 (inc32 P23.gen) } : PT)) (st.get (j := 0) rfl) (st.rowAcc 1 rfl (by decide) (flat_len' regE_len _)) (show (1 : Nat) ≤ 1000 by decide)) fun v142 H15 ⟨oc142, hv, st1⟩ => ?_
        subst hv
        replace st := st.call st1 rfl
        clear st1
        refine gT rfl ?_
        refine aLen (st.rowAcc 0 rfl (by decide) (by exact flat_len' regE_len _)) rfl ?_
        refine gT rfl ?_
        refine aBinV (.bool true) rfl rfl rfl ?_
        refine aN rfl rfl (by constructor) ?_
        refine aN rfl rfl (by constructor) ?_
        refine sE ?_
        refine ⟨_, out1 (r_tmp rfl (by constructor)), ?_⟩
        rfl
theorem prClears_law {H : Hp} {B : Nat} {xs : List Value} (hro : Ro H) (hd : datArgs Try.prog H B 8 [22, 5] xs) : ACalls Try.prog 3 xs H fun v _ => v = .bool true := by
  obtain ⟨x0, x1, rfl, d0, d1⟩ := args2 hd
  obtain ⟨zs, hzs, lzs, wzs⟩ := acts_of d0
  obtain ⟨zm, rfl, vm⟩ := arg_int (k := .u8) (by kernel_rfl) d1
  obtain ⟨m, rfl, qm⟩ := r8n vm
  exact clears_call hzs (fun z hz => (wzs z hz).2.2.2.1) lzs qm

end Go.Proofs.Ytihkghfmihdicaa.Abs
