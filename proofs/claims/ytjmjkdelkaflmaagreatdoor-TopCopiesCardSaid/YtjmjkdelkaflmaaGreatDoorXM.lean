/- Blocks that came. -/
import Derived.Test.YtjmjkdelkaflmaaGreatDoorXI
import Derived.Test.YtjmjkdelkaflmaaGreatDoorXL
set_option linter.unusedVariables false
set_option linter.unusedSimpArgs false
set_option maxRecDepth 100000
namespace Go.Proofs.YtjmjkdelkaflmaaGreatDoor.Abs
open Go Go.RowKit
theorem c16b_rng (s : Int) : 0 ≤ c16b s ∧ c16b s < 65536 := by
  unfold c16b
  split
  · have h : 0 ≤ IntKind.u16.wrap (s * 2 ^ min (1 : Int).toNat IntKind.u16.bits) ∧ IntKind.u16.wrap (s * 2 ^ min (1 : Int).toNat IntKind.u16.bits) < 65536 := by rw [w16]; omega
    rw [u16_xor _ _ h.1 h.2 (by decide) (by decide)]
    have := Nat.xor_lt_two_pow (n := 16) (x := (IntKind.u16.wrap (s * 2 ^ min (1 : Int).toNat IntKind.u16.bits)).toNat) (y := (35767 : Int).toNat) (by omega) (by decide)
    omega
  · rw [w16]; omega
theorem crc_rng (l : List Int) : 0 ≤ l.foldl c16y 0 ∧ l.foldl c16y 0 < 65536 := by
  have : ∀ (l : List Int) (s : Int), (0 ≤ s ∧ s < 65536) → 0 ≤ l.foldl c16y s ∧ l.foldl c16y s < 65536 := by
    intro l
    induction l with
    | nil => intro s h; exact h
    | cons a r ih =>
      intro s _
      refine ih _ ?_
      unfold c16y
      rw [show (8 : Nat) = 7 + 1 from rfl, rep_succ]
      exact c16b_rng _
  exact this l 0 (by omega)
def mkB (kd : Int) (k : Nat) (b : Bk) : Bk := ⟨b.d, b.d.foldl c16y 0, 0, if kd = 0 then 0 else IntKind.u32.wrap (k : Int)⟩
theorem mkB_ok {kd : Int} {k : Nat} {b : Bk} (h : b.ok) : (mkB kd k b).ok := by
  refine ⟨h.1, h.2.1, crc_rng _, by simp [mkB], ?_⟩
  unfold mkB
  simp only
  split
  · omega
  · rw [w32]; omega
theorem mkB_good {kd : Int} {k : Nat} {b : Bk} : GoodB kd k (mkB kd k b) := by
  by_cases h : kd = 0
  · exact .inl h
  · exact .inr (.inr ⟨by simp [mkB], rfl, by simp [mkB, h]⟩)
def mkN (kd : Int) (lba : Nat) (l : List Bk) : Nat → List Bk
  | 0 => l
  | i + 1 => (mkN kd lba l i).set i (mkB kd (lba + i) ((mkN kd lba l i).getD i emptyB))
theorem mkN_len {kd : Int} {lba : Nat} {l : List Bk} : ∀ i, (mkN kd lba l i).length = l.length
  | 0 => rfl
  | i + 1 => by simp [mkN, mkN_len i]
theorem mkN_ok {kd : Int} {lba : Nat} {l : List Bk} (h : BksOk l) : ∀ i, BksOk (mkN kd lba l i)
  | 0 => h
  | i + 1 => by
    intro b hb
    rcases List.mem_or_eq_of_mem_set hb with h1 | rfl
    · exact mkN_ok h i b h1
    · refine mkB_ok ?_
      by_cases hi : i < (mkN kd lba l i).length
      · rw [show (mkN kd lba l i).getD i emptyB = (mkN kd lba l i)[i] by simp [List.getD, List.getElem?_eq_getElem hi]]
        exact mkN_ok h i _ (List.getElem_mem hi)
      · rw [show (mkN kd lba l i).getD i emptyB = emptyB by simp [List.getD, List.getElem?_eq_none (show (mkN kd lba l i).length ≤ i by omega)]]
        exact emptyB_ok
theorem mkN_get {kd : Int} {lba : Nat} {l : List Bk} : ∀ i j, (j < l.length) → (mkN kd lba l i).getD j emptyB = if j < i then mkB kd (lba + j) (l.getD j emptyB) else l.getD j emptyB
  | 0, j, hj => by simp [mkN]
  | i + 1, j, hj => by
    simp only [mkN]
    by_cases h : i = j
    · subst h
      rw [List.getD, List.getElem?_set, if_pos rfl, if_pos (by rw [mkN_len]; exact hj), mkN_get i i hj, if_neg (by omega), if_pos (by omega)]
      rfl
    · rw [List.getD, List.getElem?_set, if_neg h]
      have := mkN_get (kd := kd) (lba := lba) i j hj
      rw [List.getD] at this
      rw [this]
      by_cases h2 : j < i
      · rw [if_pos h2, if_pos (by omega)]
      · rw [if_neg h2, if_neg (by omega)]
theorem encs_split {L : List Bk} {i : Nat} (hi : i < L.length) : encs L = encs (L.take i) ++ (L[i].enc ++ encs (L.drop (i + 1))) := by
  have e : L = L.take i ++ L[i] :: L.drop (i + 1) := by rw [List.getElem_cons_drop, List.take_append_drop]
  exact (congrArg encs e).trans (by simp only [encs, List.flatMap_append, List.flatMap_cons])
theorem encs_tlen {L : List Bk} (h : BksOk L) {i : Nat} (hi : i < L.length) : (encs (L.take i)).length = i * 19 := by
  rw [encs_len (fun b hb => h b (List.mem_of_mem_take hb)), List.length_take, Nat.min_eq_left (by omega)]
theorem encs_d {L : List Bk} (h : BksOk L) {i : Nat} (hi : i < L.length) : ((encs L).drop (0 + i * 19 + 0)).take 16 = L[i].d.map (Value.int .u8) := by
  have hb := h _ (List.getElem_mem hi)
  rw [encs_split hi, Nat.zero_add, Nat.add_zero, List.drop_left' (encs_tlen h hi)]
  show ((L[i].d.map (Value.int .u8) ++ [Value.int .u16 L[i].g, .int .u16 L[i].a, .int .u32 L[i].r]) ++ _).take 16 = _
  rw [List.append_assoc, List.take_left' (by simp [hb.1])]
theorem encs_set {L : List Bk} (h : BksOk L) {i : Nat} (hi : i < L.length) {b' : Bk} (hd : b'.d = L[i].d) : (encs L).take (0 + i * 19 + 16) ++ [.int .u16 b'.g, .int .u16 b'.a, .int .u32 b'.r] ++ (encs L).drop (0 + i * 19 + 16 + 3) = encs (L.set i b') := by
  have hb := h _ (List.getElem_mem hi)
  have ht := encs_tlen h hi
  have hs : L.set i b' = L.take i ++ b' :: L.drop (i + 1) := by rw [List.set_eq_take_append_cons_drop, if_pos hi]
  rw [hs, show encs (L.take i ++ b' :: L.drop (i + 1)) = encs (L.take i) ++ (b'.enc ++ encs (L.drop (i + 1))) by simp [encs]]
  rw [encs_split hi, Nat.zero_add, Nat.add_assoc (i * 19) 16 3]
  generalize hA : encs (L.take i) = A at ht ⊢
  generalize encs (L.drop (i + 1)) = C
  rw [← ht, List.take_length_add_append, ← List.drop_drop, List.drop_left' rfl]
  have e1 : (L[i].enc ++ C).take 16 = L[i].d.map (Value.int .u8) := by
    show ((L[i].d.map (Value.int .u8) ++ [Value.int .u16 L[i].g, .int .u16 L[i].a, .int .u32 L[i].r]) ++ C).take 16 = _
    rw [List.append_assoc, List.take_left' (by simp [hb.1])]
  have e2 : (L[i].enc ++ C).drop (16 + 3) = C := by
    rw [List.drop_left' (Bk_len hb)]
  rw [e1, e2]
  show _ = A ++ ((b'.d.map (Value.int .u8) ++ [Value.int .u16 b'.g, .int .u16 b'.a, .int .u32 b'.r]) ++ C)
  rw [hd]
  simp
theorem come_0 {H : Hp} {s lba n dv : Nat} {xs : List Int} {x : Value} {lg al q7 q8 q9 q10 q11 q12 q13 q14 : Value} (st0 : Stt [] H H [⟨some dv, false, zD s 0⟩]) (hx : Sl H 1 xs.length (xs.map (Value.int .u8)) x) (hbx : ByteL xs) (hxl : xs.length = 16 * n) (hn : lba + n ≤ 4096) :
  ACalls Tryz.prog 108 [zP dv, .agg #[.int .u8 8, lg, .int .u64 (lba : Int), .int .u64 (n : Int), al, .bool false, .int .u8 0, q7, q8, q9, q10, q11, q12, q13, q14], x, .int .u64 (n : Int)] H (fun v H' => ∃ oc, v = .tuple #[accV oc (mkN 0 lba (unL false xs) n).length 19, zR, .bool true] ∧ Stt [] H H' [⟨oc, true, ⟨true, 262, encs (mkN 0 lba (unL false xs) n)⟩⟩]) := by
 refine acallsW Tryz.func108 f108_ok (Nat.le_of_ble_eq_true rfl) fun hw => ?_
 have st : Stt [] H H [] := Stt.start hw
 replace st := st0
 have hun : unR false xs = unL false xs := if_pos (by show xs.length % 16 = 0; omega)
 have hxn : xs.length / szB false = n := by show xs.length / 16 = n; omega
 have hdec : decide (xs.length % 16 = 0) = true := decide_eq_true (by omega)
 have hul : BksOk (unL false xs) := unL_ok hbx
 unfold f108c
 refine zw ?_
 refine aBoxN st rfl rfl (by repeat constructor) rfl fun b5 H1 st => ?_
 refine zm ?_
 refine zp st fun b9 H2 st => ?_
 refine zm ?_
 refine zw ?_
 refine zm ?_
 refine zl st 1 ?_
 refine zb (.bool false) ?_
 refine zm ?_
 refine zw ?_
 refine aMovV x rfl ?_
 refine zm ?_
 refine aC (unpack_false_call (st.slc hx) hbx (by omega) (by omega)) fun v23 H3 ⟨oc, hv, st1⟩ => ?_
 rw [hun, unL_len, hxn, hdec] at hv
 rw [hun] at st1
 subst hv
 replace st := st.call st1 rfl
 clear st1
 refine zm ?_
 refine aExtA rfl rfl ?_
 refine zm ?_
 refine aMovA rfl ?_
 refine zm ?_
 refine zw ?_
 iterate 3 refine zm ?_
 refine zg ?_
 refine aMovA rfl ?_
 refine zg ?_
 refine aLen (st.rowAcc 0 rfl (by decide) (by rw [encs_len hul, unL_len, hxn])) rfl ?_
 refine zg ?_
 refine aConvV (n := (n : Int)) (n' := (n : Int)) rfl (by rw [w64]; omega) ?_
 refine zg ?_
 refine zm ?_
 refine zg ?_
 refine aBinV (.bool false) rfl rfl (neF rfl) ?_
 refine zm ?_
 refine zf ?_
 refine zw ?_
 refine aMovA rfl ?_
 refine aLen (st.rowAcc 0 rfl (by decide) (by rw [encs_len hul, unL_len, hxn])) rfl ?_
 refine zm ?_
 refine sE ?_
 show AW _ (.loop _) _ _ _
 refine AW_loopN (fun m t1 H1 => ∃ (i : Nat), m = n - i ∧ (i ≤ n) ∧ t1 38 = .int .i64 (i : Int) ∧ Stt [] H H1 [⟨oc, true, ⟨true, 262, encs (mkN 0 lba (unL false xs) i)⟩⟩, ⟨some b5, true, ⟨true, 108, [.int .u8 8, lg, .int .u64 (lba : Int), .int .u64 (n : Int), al, .bool false, .int .u8 0, q7, q8, q9, q10, q11, q12, q13, q14]⟩⟩, ⟨some b9, true, ⟨true, 43, [.int .u8 0, .int .u8 0, .int .u16 0, .int .u64 0, .bool false, .int .i64 0, .int .i64 0, .bool false, .bool false, .slice none 0 0]⟩⟩, ⟨some dv, false, zD s 0⟩]) (n - 0) ⟨0, rfl, Nat.zero_le _, rfl, (st.sel [0, 2, 1, 3] (by decide))⟩ [8, 10, 14, 15, 16, 38, 39, 40, 41, 42, 43, 44, 45, 46, 47, 48, 49, 50, 51, 52, 53, 54, 55, 56, 57, 58, 59, 60, 61, 62, 63, 64, 65, 66, 67, 68, 69, 70, 71, 72, 73, 74, 75, 76, 77, 78, 79, 80] (by decide) ?_
 rintro m t1 H1 hk hI
 obtain ⟨i, rfl, hi, ht38, st⟩ := hI
 obtain ⟨u, rfl⟩ : ∃ u, t1 = (upd (mix [8, 10, 14, 15, 16, 38, 39, 40, 41, 42, 43, 44, 45, 46, 47, 48, 49, 50, 51, 52, 53, 54, 55, 56, 57, 58, 59, 60, 61, 62, 63, 64, 65, 66, 67, 68, 69, 70, 71, 72, 73, 74, 75, 76, 77, 78, 79, 80] _ u) (some 38) _) := ⟨t1, by rw [← hk, upd_self ht38]⟩
 clear hk ht38
 refine zw ?_
 refine zm ?_
 show AW _ (.cond _ _ _) _ _ _
 refine cC' rfl (fun h4 => ?_) (fun h4 => ?_)
 ·have hlt : i < n := by have := of_decide_eq_true h4; omega
  have hlm : i < (mkN 0 lba (unL false xs) i).length := by rw [mkN_len, unL_len, hxn]; exact hlt
  have hbi := mkN_ok (kd := 0) (lba := lba) hul i _ (List.getElem_mem hlm)
  obtain ⟨bc, rfl⟩ := st.isSome 0 rfl (fun h => by have := congrArg List.length h; simp only [encs_len (mkN_ok hul i), mkN_len, unL_len, hxn, List.length_nil] at this; omega)
  refine zw ?_
  iterate 2 refine zm ?_
  refine zw ?_
  refine zm ?_
  refine zl st 1 ?_
  refine zm ?_
  refine aConvV (n := (i : Int)) (n' := (i : Int)) rfl (by rw [w64]; omega) ?_
  refine aBinV (.int .u64 ((lba + i : Nat) : Int)) rfl rfl (addU64 (by omega) (by omega)) ?_
  refine zm ?_
  refine zw ?_
  iterate 2 refine zm ?_
  show AW _ (.cond _ _ _) _ _ _
  refine cT rfl ?_
  show AWp _ _ _ _ _
  iterate 5 refine zm ?_
  refine zl st 3 ?_
  iterate 3 refine zm ?_
  refine aIxL rfl rfl (by omega) ?_
  refine zm ?_
  refine aLdA (xs := (mkN 0 lba (unL false xs) i)[i].d.map (Value.int .u8)) st 0 rfl rfl (by rw [encs_len (mkN_ok hul i), mkN_len, unL_len, hxn, Int.toNat_natCast]; omega) (by rw [Int.toNat_natCast]; rw [encs_d (mkN_ok hul i) hlm]; exact .any _) ?_
  refine ⟨?_, trivial⟩
  refine aC (make_0 hbi.1) fun v60 H5 ⟨hv, st1⟩ => ?_
  subst hv
  replace st := st.call st1 rfl
  clear st1
  refine ⟨trivial, ?_⟩
  refine aIxL rfl rfl (by omega) ?_
  refine zm ?_
  refine ⟨?_, trivial⟩
  refine aSt (cs := encs (mkN 0 lba (unL false xs) (i + 1))) st 0 rfl rfl rfl rfl rfl (by rw [encs_len (mkN_ok hul i), mkN_len, unL_len, hxn, Int.toNat_natCast]; omega) (by have e := encs_set (b' := mkB 0 (lba + i) (mkN 0 lba (unL false xs) i)[i]) (mkN_ok hul i) hlm rfl; have e2 : mkN 0 lba (unL false xs) (i + 1) = (mkN 0 lba (unL false xs) i).set i (mkB 0 (lba + i) (mkN 0 lba (unL false xs) i)[i]) := (by simp only [mkN]; rw [List.getD, List.getElem?_eq_getElem hlm]; rfl); rw [e2, ← e, Int.toNat_natCast]; exact .any _) fun H6 st => ?_
  refine ⟨trivial, ?_⟩
  refine zw ?_
  refine aBinV (.int .i64 ((i + 1 : Nat) : Int)) rfl rfl (addI (by omega) (by omega)) ?_
  refine zm ?_
  refine sE ?_
  exact ⟨_, by omega, (i + 1), rfl, by omega, rfl, (st.sel [0, 1, 2, 3] (by decide))⟩
 ·have hge : i = n := by have := of_decide_eq_false h4; omega
  subst hge
  refine zw ?_
  refine aMovA rfl ?_
  refine aBld rfl (by repeat constructor) ?_
  refine aMovA rfl ?_
  refine zx st 2 fun H7 st => ?_
  refine zm ?_
  refine sE ?_
  refine ⟨_, out3 (r_acc rfl) (zc st 2) zr ⟨notTup_acc, rfl, rfl⟩, ?_⟩
  exact ⟨oc, by rw [mkN_len, unL_len, hxn], st.sel [0] (by decide)⟩
theorem come_1 {H : Hp} {s lba n dv : Nat} {xs : List Int} {x : Value} {lg al q7 q8 q9 q10 q11 q12 q13 q14 : Value} (st0 : Stt [] H H [⟨some dv, false, zD s 1⟩]) (hx : Sl H 1 xs.length (xs.map (Value.int .u8)) x) (hbx : ByteL xs) (hxl : xs.length = 16 * n) (hn : lba + n ≤ 4096) :
  ACalls Tryz.prog 108 [zP dv, .agg #[.int .u8 8, lg, .int .u64 (lba : Int), .int .u64 (n : Int), al, .bool false, .int .u8 0, q7, q8, q9, q10, q11, q12, q13, q14], x, .int .u64 (n : Int)] H (fun v H' => ∃ oc, v = .tuple #[accV oc (mkN 1 lba (unL false xs) n).length 19, zR, .bool true] ∧ Stt [] H H' [⟨oc, true, ⟨true, 262, encs (mkN 1 lba (unL false xs) n)⟩⟩]) := by
 refine acallsW Tryz.func108 f108_ok (Nat.le_of_ble_eq_true rfl) fun hw => ?_
 have st : Stt [] H H [] := Stt.start hw
 replace st := st0
 have hun : unR false xs = unL false xs := if_pos (by show xs.length % 16 = 0; omega)
 have hxn : xs.length / szB false = n := by show xs.length / 16 = n; omega
 have hdec : decide (xs.length % 16 = 0) = true := decide_eq_true (by omega)
 have hul : BksOk (unL false xs) := unL_ok hbx
 unfold f108c
 refine zw ?_
 refine aBoxN st rfl rfl (by repeat constructor) rfl fun b5 H1 st => ?_
 refine zm ?_
 refine zp st fun b9 H2 st => ?_
 refine zm ?_
 refine zw ?_
 refine zm ?_
 refine zl st 1 ?_
 refine zb (.bool false) ?_
 refine zm ?_
 refine zw ?_
 refine aMovV x rfl ?_
 refine zm ?_
 refine aC (unpack_false_call (st.slc hx) hbx (by omega) (by omega)) fun v23 H3 ⟨oc, hv, st1⟩ => ?_
 rw [hun, unL_len, hxn, hdec] at hv
 rw [hun] at st1
 subst hv
 replace st := st.call st1 rfl
 clear st1
 refine zm ?_
 refine aExtA rfl rfl ?_
 refine zm ?_
 refine aMovA rfl ?_
 refine zm ?_
 refine zw ?_
 iterate 3 refine zm ?_
 refine zg ?_
 refine aMovA rfl ?_
 refine zg ?_
 refine aLen (st.rowAcc 0 rfl (by decide) (by rw [encs_len hul, unL_len, hxn])) rfl ?_
 refine zg ?_
 refine aConvV (n := (n : Int)) (n' := (n : Int)) rfl (by rw [w64]; omega) ?_
 refine zg ?_
 refine zm ?_
 refine zg ?_
 refine aBinV (.bool false) rfl rfl (neF rfl) ?_
 refine zm ?_
 refine zf ?_
 refine zw ?_
 refine aMovA rfl ?_
 refine aLen (st.rowAcc 0 rfl (by decide) (by rw [encs_len hul, unL_len, hxn])) rfl ?_
 refine zm ?_
 refine sE ?_
 show AW _ (.loop _) _ _ _
 refine AW_loopN (fun m t1 H1 => ∃ (i : Nat), m = n - i ∧ (i ≤ n) ∧ t1 38 = .int .i64 (i : Int) ∧ Stt [] H H1 [⟨oc, true, ⟨true, 262, encs (mkN 1 lba (unL false xs) i)⟩⟩, ⟨some b5, true, ⟨true, 108, [.int .u8 8, lg, .int .u64 (lba : Int), .int .u64 (n : Int), al, .bool false, .int .u8 0, q7, q8, q9, q10, q11, q12, q13, q14]⟩⟩, ⟨some b9, true, ⟨true, 43, [.int .u8 0, .int .u8 0, .int .u16 0, .int .u64 0, .bool false, .int .i64 0, .int .i64 0, .bool false, .bool false, .slice none 0 0]⟩⟩, ⟨some dv, false, zD s 1⟩]) (n - 0) ⟨0, rfl, Nat.zero_le _, rfl, (st.sel [0, 2, 1, 3] (by decide))⟩ [8, 10, 14, 15, 16, 38, 39, 40, 41, 42, 43, 44, 45, 46, 47, 48, 49, 50, 51, 52, 53, 54, 55, 56, 57, 58, 59, 60, 61, 62, 63, 64, 65, 66, 67, 68, 69, 70, 71, 72, 73, 74, 75, 76, 77, 78, 79, 80] (by decide) ?_
 rintro m t1 H1 hk hI
 obtain ⟨i, rfl, hi, ht38, st⟩ := hI
 obtain ⟨u, rfl⟩ : ∃ u, t1 = (upd (mix [8, 10, 14, 15, 16, 38, 39, 40, 41, 42, 43, 44, 45, 46, 47, 48, 49, 50, 51, 52, 53, 54, 55, 56, 57, 58, 59, 60, 61, 62, 63, 64, 65, 66, 67, 68, 69, 70, 71, 72, 73, 74, 75, 76, 77, 78, 79, 80] _ u) (some 38) _) := ⟨t1, by rw [← hk, upd_self ht38]⟩
 clear hk ht38
 refine zw ?_
 refine zm ?_
 show AW _ (.cond _ _ _) _ _ _
 refine cC' rfl (fun h4 => ?_) (fun h4 => ?_)
 ·have hlt : i < n := by have := of_decide_eq_true h4; omega
  have hlm : i < (mkN 1 lba (unL false xs) i).length := by rw [mkN_len, unL_len, hxn]; exact hlt
  have hbi := mkN_ok (kd := 1) (lba := lba) hul i _ (List.getElem_mem hlm)
  obtain ⟨bc, rfl⟩ := st.isSome 0 rfl (fun h => by have := congrArg List.length h; simp only [encs_len (mkN_ok hul i), mkN_len, unL_len, hxn, List.length_nil] at this; omega)
  refine zw ?_
  iterate 2 refine zm ?_
  refine zw ?_
  refine zm ?_
  refine zl st 1 ?_
  refine zm ?_
  refine aConvV (n := (i : Int)) (n' := (i : Int)) rfl (by rw [w64]; omega) ?_
  refine aBinV (.int .u64 ((lba + i : Nat) : Int)) rfl rfl (addU64 (by omega) (by omega)) ?_
  refine zm ?_
  refine zw ?_
  iterate 2 refine zm ?_
  show AW _ (.cond _ _ _) _ _ _
  refine cT rfl ?_
  show AWp _ _ _ _ _
  iterate 5 refine zm ?_
  refine zl st 3 ?_
  iterate 3 refine zm ?_
  refine aIxL rfl rfl (by omega) ?_
  refine zm ?_
  refine aLdA (xs := (mkN 1 lba (unL false xs) i)[i].d.map (Value.int .u8)) st 0 rfl rfl (by rw [encs_len (mkN_ok hul i), mkN_len, unL_len, hxn, Int.toNat_natCast]; omega) (by rw [Int.toNat_natCast]; rw [encs_d (mkN_ok hul i) hlm]; exact .any _) ?_
  refine ⟨?_, trivial⟩
  refine aC (make_1 hbi.1) fun v60 H5 ⟨hv, st1⟩ => ?_
  subst hv
  replace st := st.call st1 rfl
  clear st1
  refine ⟨trivial, ?_⟩
  refine aIxL rfl rfl (by omega) ?_
  refine zm ?_
  refine ⟨?_, trivial⟩
  refine aSt (cs := encs (mkN 1 lba (unL false xs) (i + 1))) st 0 rfl rfl rfl rfl rfl (by rw [encs_len (mkN_ok hul i), mkN_len, unL_len, hxn, Int.toNat_natCast]; omega) (by have e := encs_set (b' := mkB 1 (lba + i) (mkN 1 lba (unL false xs) i)[i]) (mkN_ok hul i) hlm rfl; have e2 : mkN 1 lba (unL false xs) (i + 1) = (mkN 1 lba (unL false xs) i).set i (mkB 1 (lba + i) (mkN 1 lba (unL false xs) i)[i]) := (by simp only [mkN]; rw [List.getD, List.getElem?_eq_getElem hlm]; rfl); rw [e2, ← e, Int.toNat_natCast]; exact .any _) fun H6 st => ?_
  refine ⟨trivial, ?_⟩
  refine zw ?_
  refine aBinV (.int .i64 ((i + 1 : Nat) : Int)) rfl rfl (addI (by omega) (by omega)) ?_
  refine zm ?_
  refine sE ?_
  exact ⟨_, by omega, (i + 1), rfl, by omega, rfl, (st.sel [0, 1, 2, 3] (by decide))⟩
 ·have hge : i = n := by have := of_decide_eq_false h4; omega
  subst hge
  refine zw ?_
  refine aMovA rfl ?_
  refine aBld rfl (by repeat constructor) ?_
  refine aMovA rfl ?_
  refine zx st 2 fun H7 st => ?_
  refine zm ?_
  refine sE ?_
  refine ⟨_, out3 (r_acc rfl) (zc st 2) zr ⟨notTup_acc, rfl, rfl⟩, ?_⟩
  exact ⟨oc, by rw [mkN_len, unL_len, hxn], st.sel [0] (by decide)⟩
theorem good_a {H : Hp} {p : Option Nat} {m : Nat} : ACalls Tryz.prog 106 [accV p m 1] H (fun v H' => v = .agg #[.int .u8 0, .int .u8 0, .int .u16 0, .int .u64 0, .bool false, .int .i64 0, .int .i64 0, .bool false, .bool false, accV p m 1] ∧ Stt [] H H' []) := by
  cases p with
  | none => exact good_n (p := 0) (m := 0)
  | some p => exact good_s
theorem lay_0 {H : Hp} {s bl : Nat} {lba : Int}  :
  ACalls Tryz.prog 165 [zP s, .int .i64 lba, .int .i64 0, .func (.func 166) #[] #[zP bl], .bool false] H (fun v H' => v = .tuple #[.int .i64 0, .int .i64 0] ∧ Stt [] H H' []) := by
 refine acallsW Tryz.func165 f165_ok (Nat.le_of_ble_eq_true rfl) fun hw => ?_
 have st : Stt [] H H [] := Stt.start hw
 unfold f165c
 refine zw ?_
 iterate 2 refine zm ?_
 refine zw ?_
 iterate 2 refine zm ?_
 refine sE ?_
 show AW _ (.loop _) _ _ _
 refine AW_loopN (fun m t1 H1 => m = 0 ∧ t1 15 = .int .i64 0 ∧ Stt [] H H1 []) 0 ⟨rfl, rfl, (st.sel [] (by decide))⟩ [10, 11, 12, 13, 15, 16, 17, 18, 19, 20, 21, 22, 23, 24, 25, 26, 27, 28, 29, 30, 31, 32, 33, 34, 35, 36, 37, 38] (by decide) ?_
 rintro m t1 H1 hk hI
 obtain ⟨rfl, ht15, st⟩ := hI
 obtain ⟨u, rfl⟩ : ∃ u, t1 = (upd (mix [10, 11, 12, 13, 15, 16, 17, 18, 19, 20, 21, 22, 23, 24, 25, 26, 27, 28, 29, 30, 31, 32, 33, 34, 35, 36, 37, 38] _ u) (some 15) _) := ⟨t1, by rw [← hk, upd_self ht15]⟩
 clear hk ht15
 refine zw ?_
 refine aBinV (.bool false) rfl rfl (rfl) ?_
 refine zf ?_
 refine zw ?_
 refine zm ?_
 refine aBinV (.bool false) rfl rfl (rfl) ?_
 refine zm ?_
 iterate 2 refine zk ?_
 refine gU rfl ?_
 refine gU rfl ?_
 refine gU rfl ?_
 refine gU rfl ?_
 refine gU rfl ?_
 refine zk ?_
 refine zm ?_
 refine zf ?_
 refine zw ?_
 iterate 3 refine zm ?_
 refine sE ?_
 refine ⟨_, out2 zr zr ⟨rfl, rfl⟩, ?_⟩
 exact ⟨rfl, st.drop⟩
theorem swrite_0 {H : Hp} {s w lba nb : Nat} {oc : Option Nat} {nm : ByteArray} {ca : Bool} (st0 : Stt [] H H [⟨some s, false, ⟨true, 176, [zP w, .string nm, .int .i64 (nb : Int), .bool ca]⟩⟩, ⟨oc, false, ⟨true, 262, []⟩⟩]) (hnb : (nb : Int) ≤ 4096) (hlba : (lba : Int) ≤ (nb : Int)) :
  ACalls Tryz.prog 144 [zP s, .int .i64 (lba : Int), accV oc 0 19, .bool false] H (fun v H' => v = .tuple #[.int .i64 0, .int .i64 0] ∧ Stt [] H H' []) := by
 refine acallsW Tryz.func144 f144_ok (Nat.le_of_ble_eq_true rfl) fun hw => ?_
 have st : Stt [] H H [] := Stt.start hw
 replace st := st0
 unfold f144c
 refine zw ?_
 refine aBoxN (cs := [accV oc 0 19]) st rfl notTup_acc (by show NfV (cellsOf (accV oc 0 19)) _; rw [cells_acc]; exact .any _) rfl fun b6 H1 st => ?_
 iterate 2 refine zm ?_
 refine zw ?_
 iterate 2 refine zm ?_
 refine aLdQ st 0 rfl rfl rfl rfl ?_
 refine aLen (st.rowAcc 2 rfl (by decide) (rfl)) rfl ?_
 refine aC (scheck_call (n := 0) (zM st [] [1]) hnb (by omega) (by omega) (by omega)) fun v15 H2 ⟨hv, st1⟩ => ?_
 subst hv
 replace st := st.call st1 rfl
 clear st1
 refine zm ?_
 refine zw ?_
 refine zm ?_
 refine zb (.bool false) ?_
 refine zf ?_
 refine zw ?_
 iterate 2 refine zm ?_
 refine aLdQ st 0 rfl rfl rfl rfl ?_
 refine aLen (st.rowAcc 2 rfl (by decide) (rfl)) rfl ?_
 refine aMkFunc rfl rfl ?_
 refine zm ?_
 refine aC (lay_0) fun v25 H3 ⟨hv, st1⟩ => ?_
 subst hv
 replace st := st.call st1 rfl
 clear st1
 iterate 4 refine zm ?_
 refine sE ?_
 refine ⟨_, out2 zr zr ⟨rfl, rfl⟩, ?_⟩
 exact ⟨rfl, st.drop⟩
theorem dwrite_0 {H : Hp} {s w lba nb dv : Nat} {oc : Option Nat} {nm : ByteArray} {ca : Bool} {kd : Int} (st0 : Stt [] H H [⟨some s, false, ⟨true, 176, [zP w, .string nm, .int .i64 (nb : Int), .bool ca]⟩⟩, ⟨some dv, false, zD s kd⟩, ⟨oc, false, ⟨true, 262, []⟩⟩]) (hnb : (nb : Int) ≤ 4096) (hlba : (lba : Int) ≤ (nb : Int)) :
  ACalls Tryz.prog 109 [zP dv, .int .u64 (lba : Int), accV oc 0 19, .bool false] H (fun v H' => v = zR ∧ Stt [] H H' []) := by
 refine acallsW Tryz.func109 f109_ok (Nat.le_of_ble_eq_true rfl) fun hw => ?_
 have st : Stt [] H H [] := Stt.start hw
 replace st := st0
 unfold f109c
 refine zw ?_
 refine zp st fun b8 H1 st => ?_
 refine zw ?_
 iterate 3 refine zm ?_
 refine zl st 2 ?_
 refine zm ?_
 refine aConvV (n := (lba : Int)) (n' := (lba : Int)) rfl (wi _ (by omega)) ?_
 refine aMovA rfl ?_
 refine zm ?_
 refine aC (swrite_0 (zM st [] [1, 3]) hnb hlba) fun v20 H2 ⟨hv, st1⟩ => ?_
 subst hv
 replace st := st.call st1 rfl
 clear st1
 iterate 5 refine zm ?_
 refine zw ?_
 refine zm ?_
 refine zb (.bool false) ?_
 refine zf ?_
 refine zw ?_
 refine aC (good_n (p := 0) (m := 0)) fun v30 H3 ⟨hv, st1⟩ => ?_
 subst hv
 replace st := st.call st1 rfl
 clear st1
 refine zx st 0 fun H4 st => ?_
 refine sE ?_
 refine ⟨_, out1 (zc st 0), ?_⟩
 exact ⟨rfl, st.drop⟩
theorem dwrite_ok {H : Hp} {s w sb db lba nb nw dv : Nat} {wb ob obl : Option Nat} {c : List (Value × Value)} {cs : List Value} {nm : ByteArray} {fs : List (Option Bk)} {bs : List Bk} {kd ops stop : Int} (st0 : Stt ([w] ++ [sb] ++ wb.toList) H H [⟨some w, true, zW sb db (accV wb nw 5) ops stop⟩, ⟨some sb, true, ⟨true, .mp c, []⟩⟩, ⟨wb, true, ⟨true, 121, cs⟩⟩, ⟨ob, false, ⟨true, 5, (fileL fs).map (Value.int .u8)⟩⟩, ⟨some s, false, zS w nm (nb : Int)⟩, ⟨some dv, false, zD s kd⟩, ⟨obl, false, ⟨true, 262, encs bs⟩⟩]) (hn1 : 1 ≤ nm.size) (hn2 : nm.size ≤ 32) (hcs : cs.length = nw * 5) (hnw : nw + bs.length ≤ 1000000) (hbs : BksOk bs) (hn0 : 0 < bs.length) (hF : FileAt c nm ob fs) (hfs : FsOk fs) (hnb : (nb : Int) ≤ 4096) (hlba : (lba : Int) + (bs.length : Int) ≤ (nb : Int)) (hfl4 : fs.length ≤ nb) (ho : 0 ≤ ops ∧ ops ≤ 900000000) (hs : ∀ i : Nat, i < bs.length → ops + (i : Int) ≠ stop) :
  ACalls Tryz.prog 109 [zP dv, .int .u64 (lba : Int), accV obl bs.length 19, .bool false] H (fun v H' => ∃ wb1 ob1 c1 cs1, v = zR ∧ cs1.length = (nw + bs.length) * 5 ∧ FileAt c1 nm ob1 (setN fs lba bs bs.length) ∧ (∀ n2 u2, n2 ≠ nm → Found c n2 u2 → Found c1 n2 u2) ∧ Stt ([w] ++ [sb] ++ wb.toList) H H' [⟨some w, true, zW sb db (accV wb1 (nw + bs.length) 5) (ops + (bs.length : Int)) stop⟩, ⟨some sb, true, ⟨true, .mp c1, []⟩⟩, ⟨wb1, true, ⟨true, 121, cs1⟩⟩, ⟨ob1, true, ⟨true, 5, (fileL (setN fs lba bs bs.length)).map (Value.int .u8)⟩⟩]) := by
 refine acallsW Tryz.func109 f109_ok (Nat.le_of_ble_eq_true rfl) fun hw => ?_
 have st : Stt ([w] ++ [sb] ++ wb.toList) H H [] := Stt.start hw
 replace st := st0
 unfold f109c
 refine zw ?_
 refine zp st fun b8 H1 st => ?_
 refine zw ?_
 iterate 3 refine zm ?_
 refine zl st 6 ?_
 refine zm ?_
 refine aConvV (n := (lba : Int)) (n' := (lba : Int)) rfl (wi _ (by omega)) ?_
 refine aMovA rfl ?_
 refine zm ?_
 refine aC (swrite_ok (zN st [1, 2, 3] [4, 5, 7]) hn1 hn2 hcs hnw hbs hn0 hF hfs hnb hlba hfl4 ho hs) fun v20 H2 ⟨wb1, ob1, c1, cs1, hv, hcs1, hF1, hO1, st1⟩ => ?_
 subst hv
 replace st := st.call3 (o1 := some w) (o2 := some sb) (o3 := wb) 1 1 1 rfl rfl rfl st1 rfl
 clear st1
 iterate 5 refine zm ?_
 refine zw ?_
 refine zm ?_
 refine zb (.bool false) ?_
 refine zf ?_
 refine zw ?_
 refine aC (good_n (p := 0) (m := 0)) fun v30 H3 ⟨hv, st1⟩ => ?_
 subst hv
 replace st := st.call st1 rfl
 clear st1
 refine zx st 4 fun H4 st => ?_
 refine sE ?_
 refine ⟨_, out1 (zc st 4), ?_⟩
 exact ⟨wb1, ob1, c1, cs1, rfl, hcs1, hF1, hO1, st.sel [0, 1, 2, 3] (by decide)⟩
def Holds (k : Int) (fs : List (Option Bk)) (ws : List Int) : Prop :=
 FsOk fs ∧ fs.length ≤ 16 ∧ ws.length = 16 ∧ ByteL ws ∧ ∀ j, j < 16 → (blkAt fs j).d = List.replicate 16 (ws.getD j 0) ∧ GoodB k j (blkAt fs j)
theorem getD_rep {n j : Nat} {a : Int} (h : j < n) : (List.replicate n a).getD j 0 = a := by
 rw [List.getD, List.getElem?_replicate, if_pos h]; rfl
theorem Holds.start (k : Int) : Holds k [] (List.replicate 16 0) := by
 refine ⟨fun o ho => by (cases ho), Nat.zero_le _, List.length_replicate .., fun x hx => by rw [List.eq_of_mem_replicate hx]; omega, fun j hj => ?_⟩
 rw [getD_rep hj]
 exact ⟨rfl, .inr (.inl rfl)⟩
theorem getD_set {l : List Int} {a j : Nat} {v : Int} (h : a < l.length) : (l.set a v).getD j 0 = if j = a then v else l.getD j 0 := by
 by_cases hj : j = a
 ·subst hj
  rw [if_pos rfl, List.getD, List.getElem?_set, if_pos rfl, if_pos h]; rfl
 ·rw [if_neg hj, List.getD, List.getElem?_set, if_neg (Ne.symm hj)]; rfl
theorem unL_getD {xs : List Int} {j : Nat} (h : j < xs.length / 16) : (unL false xs).getD j emptyB = unB false (xs.drop (j * 16)) := by
 unfold unL
 rw [List.getD, List.getElem?_map, List.getElem?_range (show j < xs.length / szB false from h)]
 rfl
theorem Holds.lay {k : Int} {fs : List (Option Bk)} {ws ws' : List Int} (h : Holds k fs ws) {a n : Nat} {xs : List Int} {vs : Nat → Int} (hbx : ByteL xs) (hxl : xs.length = 16 * n) (han : a + n ≤ 16)
  (hv : ∀ i, i < n → (xs.drop (i * 16)).take 16 = List.replicate 16 (vs i)) (hl : ws'.length = 16) (hb : ByteL ws') (hw : ∀ j, j < 16 → ws'.getD j 0 = if a ≤ j ∧ j < a + n then vs (j - a) else ws.getD j 0) :
  Holds k (setN fs a (mkN k a (unL false xs) n) n) ws' := by
 obtain ⟨h1, h2, h3, h4, h5⟩ := h
 have hok : BksOk (mkN k a (unL false xs) n) := mkN_ok (unL_ok hbx) n
 have hn : (unL false xs).length = n := by rw [unL_len]; show xs.length / 16 = n; omega
 refine ⟨setN_ok h1 hok n, setN_len h2 n han, hl, hb, fun j hj => ?_⟩
 rw [blkAt_setN, hw j hj]
 by_cases hc : a ≤ j ∧ j < a + n
 ·rw [if_pos hc, if_pos hc, mkN_get n (j - a) (by omega), if_pos (by omega), show a + (j - a) = j by omega]
  refine ⟨?_, mkB_good⟩
  show ((unL false xs).getD (j - a) emptyB).d = _
  rw [unL_getD (by omega), ← hv (j - a) (by omega)]
  rfl
 ·rw [if_neg hc, if_neg hc]
  exact h5 j hj
theorem Holds.write {k : Int} {fs : List (Option Bk)} {ws : List Int} (h : Holds k fs ws) {a : Nat} {f : Int} (ha : a < 16) (hf : 0 ≤ f ∧ f ≤ 255) :
  Holds k (setN fs a (mkN k a (unL false (List.replicate 16 f)) 1) 1) (ws.set a f) := by
 have h3 := h.2.2.1
 refine h.lay (vs := fun _ => f) (fun x hx => by rw [List.eq_of_mem_replicate hx]; exact hf) rfl (by omega) (fun i hi => ?_) (by rw [List.length_set]; exact h3) (fun x hx => ?_) (fun j hj => ?_)
 ·obtain rfl : i = 0 := by omega
  rfl
 ·rcases List.mem_or_eq_of_mem_set hx with hx | rfl
  ·exact h.2.2.2.1 x hx
  ·exact hf
 ·rw [getD_set (by omega)]
  by_cases hja : j = a
  ·rw [if_pos hja, if_pos (by omega)]
  ·rw [if_neg hja, if_neg (by omega)]
def cpL (ws was : List Int) (sr ds : Nat) : Nat → List Int
 | 0 => ws
 | j + 1 => (cpL ws was sr ds j).set (ds + j) (was.getD (sr + j) 0)
theorem cpL_len {ws was : List Int} {sr ds : Nat} : ∀ n, (cpL ws was sr ds n).length = ws.length
 | 0 => rfl
 | n + 1 => by simp [cpL, cpL_len n]
theorem cpL_bytes {ws was : List Int} {sr ds : Nat} (h : ByteL ws) (h2 : ByteL was) : ∀ n, ByteL (cpL ws was sr ds n)
 | 0 => h
 | n + 1 => fun x hx => by
  rcases List.mem_or_eq_of_mem_set hx with hx | rfl
  ·exact cpL_bytes h h2 n x hx
  ·exact h2.getD _
theorem cpL_get {ws was : List Int} {sr ds : Nat} : ∀ n j, ds + n ≤ ws.length → (cpL ws was sr ds n).getD j 0 = if ds ≤ j ∧ j < ds + n then was.getD (sr + (j - ds)) 0 else ws.getD j 0
 | 0, j, _ => by rw [if_neg (by omega)]; rfl
 | n + 1, j, h => by
  show ((cpL ws was sr ds n).set (ds + n) (was.getD (sr + n) 0)).getD j 0 = _
  rw [getD_set (by rw [cpL_len]; omega), cpL_get n j (by omega)]
  by_cases hj : j = ds + n
  ·rw [if_pos hj, if_pos (by omega), show j - ds = n by omega]
  ·rw [if_neg hj]
   by_cases h2 : ds ≤ j ∧ j < ds + n
   ·rw [if_pos h2, if_pos (by omega)]
   ·rw [if_neg h2, if_neg (by omega)]
theorem pkL_at {bs : List Bk} (h : BksOk bs) : ∀ i, i < bs.length → ((pkL false bs).drop (i * 16)).take 16 = (bs.getD i emptyB).d := by
 induction bs with
 | nil => intro i hi; cases hi
 | cons b bs ih =>
  intro i hi
  have hb := (h b (List.mem_cons_self ..)).1
  have e : pkL false (b :: bs) = b.d ++ pkL false bs := by simp [pkL, pkB]
  rw [e]
  cases i with
  | zero => rw [Nat.zero_mul, List.drop_zero, List.take_left' hb]; rfl
  | succ i =>
   rw [show (i + 1) * 16 = 16 + i * 16 by omega, ← List.drop_drop, List.drop_left' hb, ih (fun x hx => h x (List.mem_cons_of_mem _ hx)) i (by simpa using hi)]
   rfl
theorem Holds.copy {k kf : Int} {fs fsf : List (Option Bk)} {ws wsf : List Int} (h : Holds k fs ws) (hf : Holds kf fsf wsf) {sr ds n : Nat} (hs : sr + n ≤ 16) (hd : ds + n ≤ 16) :
  Holds k (setN fs ds (mkN k ds (unL false (pkL false (bsR fsf sr n))) n) n) (cpL ws wsf sr ds n) := by
 have hb := bsR_ok hf.1 sr n
 refine h.lay (vs := fun i => wsf.getD (sr + i) 0) (pkL_bytes hb) (by rw [pkL_len hb, bsR_len]; exact Nat.mul_comm _ _) hd (fun i hi => ?_) (by rw [cpL_len]; exact h.2.2.1) (cpL_bytes h.2.2.2.1 hf.2.2.2.1 n) (fun j hj => ?_)
 ·rw [pkL_at hb i (by rw [bsR_len]; exact hi)]
  have : (bsR fsf sr n).getD i emptyB = blkAt fsf (sr + i) := by simp [bsR, List.getD, List.getElem?_map, List.getElem?_range hi]
  rw [this]
  exact (hf.2.2.2.2 (sr + i) (by omega)).1
 ·exact cpL_get n j (by rw [h.2.2.1]; exact hd)
theorem Holds.read {k : Int} {fs : List (Option Bk)} {ws : List Int} (h : Holds k fs ws) {i : Nat} (hi : i < 16) : pkL false (bsR fs i 1) = List.replicate 16 (ws.getD i 0) := by
 have e : bsR fs i 1 = [blkAt fs i] := by simp [bsR]
 rw [e, ← (h.2.2.2.2 i hi).1]
 simp [pkL, pkB]
theorem Holds.good {k : Int} {fs : List (Option Bk)} {ws : List Int} (h : Holds k fs ws) {a n : Nat} (ha : a + n ≤ 16) : ∀ i, i < n → GoodB k (a + i) (blkAt fs (a + i)) := fun i hi => (h.2.2.2.2 (a + i) (by omega)).2
theorem FileAt.other {c c1 : List (Value × Value)} {nm n2 : ByteArray} {ob : Option Nat} {fs : List (Option Bk)} (h : FileAt c n2 ob fs) (hO : ∀ m u, m ≠ nm → Found c m u → Found c1 m u) (hne : n2 ≠ nm) : FileAt c1 n2 ob fs := by
 rcases h with ⟨h1, h2, h3⟩ | ⟨fb, h1, h2, h3⟩
 ·exact .inl ⟨h1, h2, hO _ _ hne h3⟩
 ·exact .inr ⟨fb, h1, h2, hO _ _ hne h3⟩
theorem want_set0 {w0 w1 : List Int} {a : Nat} {f : Int} (h : w0.length = 16) (ha : a < 16) : ((w0 ++ w1).map (Value.int .u8)).set (0 + a) (.int .u8 f) = (w0.set a f ++ w1).map (Value.int .u8) := by
 rw [Nat.zero_add, List.map_append, List.set_append_left _ _ (by simp; omega), List.map_append, List.map_set]
theorem want_set1 {w0 w1 : List Int} {a : Nat} {f : Int} (h : w0.length = 16) : ((w0 ++ w1).map (Value.int .u8)).set (16 + a) (.int .u8 f) = (w0 ++ w1.set a f).map (Value.int .u8) := by
 rw [List.map_append, List.set_append_right _ _ (by simp; omega), List.map_append, List.map_set, List.length_map, h, Nat.add_sub_cancel_left]
theorem want_get0 {w0 w1 : List Int} {a : Nat} (h : w0.length = 16) (ha : a < 16) : ((w0 ++ w1).map (Value.int .u8))[0 + a]? = some (.int .u8 (w0.getD a 0)) := by
 rw [Nat.zero_add, List.getElem?_map, List.getElem?_append_left (by omega), List.getElem?_eq_getElem (by omega)]
 simp [List.getD, List.getElem?_eq_getElem (show a < w0.length by omega)]
theorem want_get1 {w0 w1 : List Int} {a : Nat} (h : w0.length = 16) (h1 : w1.length = 16) (ha : a < 16) : ((w0 ++ w1).map (Value.int .u8))[16 + a]? = some (.int .u8 (w1.getD a 0)) := by
 rw [List.getElem?_map, List.getElem?_append_right (by omega), h, Nat.add_sub_cancel_left, List.getElem?_eq_getElem (by omega)]
 simp [List.getD, List.getElem?_eq_getElem (show a < w1.length by omega)]
theorem want_all0 {w0 w1 : List Int} (h : w0.length = 16) : (((w0 ++ w1).map (Value.int .u8)).drop 0).take 16 = w0.map (Value.int .u8) := by
 rw [List.drop_zero, List.map_append, List.take_left' (by simp [h])]
theorem want_all1 {w0 w1 : List Int} (h : w0.length = 16) (h1 : w1.length = 16) : (((w0 ++ w1).map (Value.int .u8)).drop 16).take 16 = w1.map (Value.int .u8) := by
 rw [List.map_append, List.drop_left' (by simp [h]), List.take_of_length_le (by simp [h1])]
structure Mv where
 cp : Nat
 ot : Bool
 src : Nat
 dst : Nat
 n : Nat
 fill : Nat
def mv0 : Mv := ⟨0, false, 0, 0, 0, 0⟩
def Mv.ok (m : Mv) : Prop := m.cp < 256 ∧ m.src < 256 ∧ m.dst < 256 ∧ m.n < 256 ∧ m.fill < 256
def mvE (m : Mv) : List Value := [.int .u8 (m.cp : Int), .bool m.ot, .int .u8 (m.src : Int), .int .u8 (m.dst : Int), .int .u8 (m.n : Int), .int .u8 (m.fill : Int)]
theorem mvE_len (m : Mv) : (mvE m).length = 6 := rfl

end Go.Proofs.YtjmjkdelkaflmaaGreatDoor.Abs
