/- Sessions: the answer to a read. -/
import Derived.Test.YtloeadlmcdddnaaZD
set_option linter.unusedVariables false
set_option linter.unusedSimpArgs false
set_option maxRecDepth 100000
namespace Go.Proofs.Ytloeadlmcdddnaa.Abs
open Go Go.RowKit
variable {tg sg bu : Int}
section
variable {tk : Nat} {k : IntKind} {a b c : Int}
theorem remN {n m : Nat} (hm : 0 < m) : aBin tk .rem (.int k (n : Int)) (.int k (m : Int)) = some (.int k ((n % m : Nat) : Int)) := by
  simp only [aBin, isShift, aInt, if_neg (show ¬ ((m : Int) = 0) by omega)]
  simp [Int.tmod_eq_emod_of_nonneg (Int.natCast_nonneg n)]
theorem addI (h : a + b = c) (hc : -9223372036854775808 ≤ c ∧ c < 9223372036854775808) : aBin tk .add (.int .i64 a) (.int .i64 b) = some (.int .i64 c) := by
  simp only [aBin, isShift, aInt, if_true, if_false, Bool.false_eq_true]
  rw [h, wi c hc]
theorem subI (h : a - b = c) (hc : -9223372036854775808 ≤ c ∧ c < 9223372036854775808) : aBin tk .sub (.int .i64 a) (.int .i64 b) = some (.int .i64 c) := by
  simp only [aBin, isShift, aInt, if_true, if_false, Bool.false_eq_true]
  rw [h, wi c hc]
theorem addU (h : a + b = c) (hc : 0 ≤ c ∧ c < 4294967296) : aBin tk .add (.int .u32 a) (.int .u32 b) = some (.int .u32 c) := by
  simp only [aBin, isShift, aInt, if_true, if_false, Bool.false_eq_true]
  rw [h, w32, Int.emod_eq_of_lt hc.1 hc.2]
theorem eqT (h : a = b) : aBin tk .eql (.int k a) (.int k b) = some (.bool true) := by simp [aBin, isShift, aInt, h]
theorem eqF (h : a ≠ b) : aBin tk .eql (.int k a) (.int k b) = some (.bool false) := by simp [aBin, isShift, aInt, h]
theorem neT (h : a ≠ b) : aBin tk .neq (.int k a) (.int k b) = some (.bool true) := by simp [aBin, isShift, aInt, h]
theorem neF (h : a = b) : aBin tk .neq (.int k a) (.int k b) = some (.bool false) := by simp [aBin, isShift, aInt, h]
theorem gtT (h : b < a) : aBin tk .gtr (.int k a) (.int k b) = some (.bool true) := by simp [aBin, isShift, aInt, h]
theorem gtF (h : a ≤ b) : aBin tk .gtr (.int k a) (.int k b) = some (.bool false) := by simp [aBin, isShift, aInt]; omega
theorem ltT (h : a < b) : aBin tk .lss (.int k a) (.int k b) = some (.bool true) := by simp [aBin, isShift, aInt, h]
theorem ltF (h : b ≤ a) : aBin tk .lss (.int k a) (.int k b) = some (.bool false) := by simp [aBin, isShift, aInt]; omega
theorem eqB (p : Bool) (h : a = b ↔ p = true) : aBin tk .eql (.int k a) (.int k b) = some (.bool p) := by
  cases p
  · exact eqF (fun e => by have := h.1 e; cases this)
  · exact eqT (h.2 rfl)
theorem c64 (h : 0 ≤ a ∧ a < 9223372036854775808) : IntKind.i64.wrap a = a := wi a (by omega)
theorem c32w (h : 0 ≤ a ∧ a < 4294967296) : IntKind.u32.wrap a = a := by rw [w32, Int.emod_eq_of_lt h.1 h.2]
end
section
variable {P : Program} {R : Tm → Hp → Prop} {t : Tm} {X : List Nat} {H0 H : Hp} {L : List Ent} {d : Option Nat} {x y : Opd}
theorem aMinV {k : IntKind} {a b r : Int} (hx : ev t x = .int k a) (hy : ev t y = .int k b) (h : (if b < a then b else a) = r) (kk : R (upd t d (.int k r)) H) : aStep P ⟨d, .minmax false x y, none⟩ R t H := by
  subst h
  exact aMin hx hy kk
theorem aMaxV {k : IntKind} {a b r : Int} (hx : ev t x = .int k a) (hy : ev t y = .int k b) (h : (if a < b then b else a) = r) (kk : R (upd t d (.int k r)) H) : aStep P ⟨d, .minmax true x y, none⟩ R t H := by
  subst h
  exact aMax hx hy kk
theorem Stt.selT {A T : List Ent} (st : Stt X H0 H (A ++ T)) (is : List Nat) (hn : is.Nodup) : Stt X H0 H (is.filterMap (A[·]?) ++ T) := by
  have hA : Stt X H0 H A := st.sub (fun p hp => List.mem_append_left _ hp) (List.Nodup.sublist (List.Sublist.filterMap _ (List.sublist_append_left _ _)) st.dis)
  have hS := hA.sel is hn
  have hT : (T.filterMap (·.key)).Nodup := List.Nodup.sublist (List.Sublist.filterMap _ (List.sublist_append_right _ _)) st.dis
  refine st.sub (fun p hp => ?_) ?_
  · rcases List.mem_append.1 hp with h | h
    · obtain ⟨i, _, hi⟩ := List.mem_filterMap.1 h
      exact List.mem_append_left _ (List.mem_of_getElem? hi)
    · exact List.mem_append_right _ h
  · rw [List.filterMap_append]
    refine nodup_app hS.dis hT fun b hb hb' => ?_
    obtain ⟨p, hp, he⟩ := List.mem_filterMap.1 hb
    obtain ⟨q, hq, hf⟩ := List.mem_filterMap.1 hb'
    obtain ⟨i, _, hi⟩ := List.mem_filterMap.1 hp
    obtain ⟨j, hj⟩ := List.mem_iff_getElem?.1 hq
    have h1 : (A ++ T)[i]? = some p := by rw [List.getElem?_append_left (List.getElem?_eq_some_iff.1 hi).1]; exact hi
    have h2 : (A ++ T)[A.length + j]? = some q := by rw [List.getElem?_append_right (Nat.le_add_right _ _), Nat.add_sub_cancel_left]; exact hj
    have := nodup_keys st.dis h1 h2 he hf
    have := (List.getElem?_eq_some_iff.1 hi).1
    omega
/-- Of the first n entries some stay; the rest is behind them. -/
theorem Stt.selN {A T : List Ent} (st : Stt X H0 H L) (is : List Nat) (hl : L = A ++ T) (hn : is.Nodup) : Stt X H0 H (is.filterMap (A[·]?) ++ T) := by
  subst hl
  exact st.selT is hn
/-- The same, and one goes to the end. -/
theorem Stt.selE {A T : List Ent} {e : Ent} (st : Stt X H0 H L) (i : Nat) (is : List Nat) (hl : L = A ++ T) (hi : A[i]? = some e) (hn : (i :: is).Nodup) : Stt X H0 H (is.filterMap (A[·]?) ++ (T ++ [e])) := by
  subst hl
  have := st.selT (i :: is) hn
  rw [List.filterMap_cons_some hi] at this
  rw [← List.append_assoc]
  exact this.swap (List.perm_append_singleton e (is.filterMap (A[·]?) ++ T)).symm
end
/-- A piece of data. -/
def pc (ls : List Int) (g j : Nat) : List Int := (ls.drop (j * g)).take g
theorem pc_len {ls : List Int} {g j : Nat} : (pc ls g j).length = min g (ls.length - j * g) := by simp [pc]
theorem pc_cut {ls : List Int} {g j e : Nat} (he : e = min (j * g + g) ls.length) : (ls.drop (j * g)).take (e - j * g) = pc ls g j := by
  unfold pc
  subst he
  apply List.ext_getElem?
  intro i
  simp only [List.getElem?_take, List.getElem?_drop]
  by_cases h1 : i < g
  · by_cases h2 : j * g + i < ls.length
    · rw [if_pos (by omega), if_pos h1]
    · rw [if_pos h1, List.getElem?_eq_none (by omega)]
      simp
  · rw [if_neg (by omega), if_neg h1]
theorem take_pc {ls : List Int} {g j : Nat} : ls.take (j * g) ++ pc ls g j = ls.take ((j + 1) * g) := by
  rw [Nat.add_mul, Nat.one_mul, List.take_add]
  rfl
@[reducible] def DZ : Type := Nat × Option Nat
def diE (ls : List Int) (g : Nat) (tag cmd : Int) (z : DZ) : List Value := [.int .u8 37, .int .u8 (if (z.1 + 1) * g < ls.length then 0 else 128), .int .u8 0, .int .u8 0, .int .u8 0, .int .u32 tag, .int .u32 4294967295, .int .u32 0, .int .u32 cmd, .int .u32 (IntKind.u32.wrap (IntKind.u32.wrap (cmd + 16) - 1)), .int .u32 (z.1 : Int), .int .u32 ((z.1 * g : Nat) : Int), .int .u32 0, accV z.2 (pc ls g z.1).length 1]
theorem diE_len {ls : List Int} {g : Nat} {tag cmd : Int} (z : DZ) : (diE ls g tag cmd z).length = 14 := rfl
def dtE (ls : List Int) (g : Nat) (z : DZ) : Ent := ⟨z.2, true, ⟨true, 5, (pc ls g z.1).map (Value.int .u8)⟩⟩
def enE (ls : List Int) (g : Nat) (tag cmd stat : Int) (n : Nat) (fl rs : Int) : Option DZ → List Value
  | some z => diE ls g tag cmd z
  | none => [.int .u8 33, .int .u8 fl, .int .u8 0, .int .u8 0, .int .u8 0, .int .u32 tag, .int .u32 0, .int .u32 stat, .int .u32 cmd, .int .u32 (IntKind.u32.wrap (IntKind.u32.wrap (cmd + 16) - 1)), .int .u32 (n : Int), .int .u32 0, .int .u32 rs, .slice none 0 0]
theorem enE_len {ls : List Int} {g : Nat} {tag cmd stat : Int} {n : Nat} {fl rs : Int} (z : Option DZ) : (enE ls g tag cmd stat n fl rs z).length = 14 := by cases z <;> rfl
theorem en_list {ls : List Int} {g : Nat} {tag cmd stat : Int} {n : Nat} {fl rs : Int} (zs : List DZ) : zs.flatMap (diE ls g tag cmd) ++ [.int .u8 33, .int .u8 fl, .int .u8 0, .int .u8 0, .int .u8 0, .int .u32 tag, .int .u32 0, .int .u32 stat, .int .u32 cmd, .int .u32 (IntKind.u32.wrap (IntKind.u32.wrap (cmd + 16) - 1)), .int .u32 (n : Int), .int .u32 0, .int .u32 rs, .slice none 0 0] = (zs.map some ++ [none]).flatMap (enE ls g tag cmd stat n fl rs) := by
  rw [List.flatMap_append, List.flatMap_map]
  simp [enE]
theorem zs_snoc {zs : List DZ} {o : Option Nat} (h : zs.map (·.1) = List.range zs.length) : (zs ++ [(zs.length, o)]).map (·.1) = List.range (zs ++ [(zs.length, o)]).length := by
  rw [List.map_append, h, List.length_append, List.length_singleton, List.range_succ]
  rfl
theorem zs_at {zs : List DZ} (h : zs.map (·.1) = List.range zs.length) {i : Nat} (hi : i < zs.length) (d : DZ) : zs.getD i d = (i, (zs.getD i d).2) := by
  have e : (zs.map (·.1))[i]? = (List.range zs.length)[i]? := by rw [h]
  rw [List.getElem?_map, List.getElem?_range hi] at e
  have e2 : zs.getD i d = zs[i] := by simp [List.getD, List.getElem?_eq_getElem hi]
  rw [List.getElem?_eq_getElem hi] at e
  simp at e
  rw [e2, Prod.ext_iff]
  exact ⟨e, rfl⟩
theorem end_r {H : Hp} {b rb g W : Nat} {cmd stat tag : Int} {hd x : Value} {xs : List Int} (hk : H.m b = some ⟨true, 64, [.string ⟨#[]⟩, .string ⟨#[116]⟩, .bool false, .bool false, .bool false, .int .i64 (g : Int), .int .i64 bu, .int .i64 65536, .bool true, .bool true, .slice none 0 0, .int .u32 cmd, .int .u32 stat, .int .u32 tg, hd, .slice none 0 0, .bool false, .slice (some ⟨rb, 0, none⟩) 1 8]⟩) (hkr : H.m rb = some ⟨true, 41, [.int .u32 tag, .int .u8 0, .int .u8 0, .slice none 0 0, .slice none 0 0, .int .i64 (W : Int), .int .u8 64, .int .u32 0]⟩) (hr : rb ≠ b) (hx : Sl H 1 xs.length (xs.map (Value.int .u8)) x) (hap : Apart b x) (hxl : xs.length ≤ 3000) (hW : W ≤ 4000) (hg : 1 ≤ g ∧ g ≤ 65536) :
  ACalls Try.prog 17 [.pointer (some ⟨b, 0, none⟩), .int .u32 tag, .agg #[.int .u8 0, .int .u8 0, .int .u16 0, .int .u64 0, .bool false, .int .i64 0, .int .i64 0, .bool false, .bool false, x], .bool false] H (fun v H' => ∃ (c : Nat) (zs : List DZ) (ls : List Int) (fl rs : Int), ls = xs.take (min xs.length W) ∧ v = .slice (some ⟨c, 0, none⟩) (zs.length + 1) 14 ∧ zs.map (·.1) = List.range zs.length ∧ (∀ i, i < zs.length → i * g < ls.length) ∧ ls.length ≤ zs.length * g ∧ ((W < xs.length ∧ fl = 132 ∧ rs = ((xs.length - W : Nat) : Int)) ∨ (xs.length < W ∧ fl = 130 ∧ rs = ((W - xs.length : Nat) : Int)) ∨ (xs.length = W ∧ fl = 128 ∧ rs = 0)) ∧ Stt [b] H H' ([⟨some b, true, ⟨true, 64, [.string ⟨#[]⟩, .string ⟨#[116]⟩, .bool false, .bool false, .bool false, .int .i64 (g : Int), .int .i64 bu, .int .i64 65536, .bool true, .bool true, .slice none 0 0, .int .u32 cmd, .int .u32 (IntKind.u32.wrap (stat + 1)), .int .u32 tg, hd, .slice none 0 0, .bool false, .slice none 0 0]⟩⟩, ⟨some c, true, ⟨true, 37, (zs.map some ++ [none]).flatMap (enE ls g tag cmd stat zs.length fl rs)⟩⟩] ++ zs.map (dtE ls g))) := by
 refine acallsW Try.func17 f17_ok (Nat.le_of_ble_eq_true rfl) fun hw => ?_
 have st : Stt [b] H H [] := Stt.start hw
 obtain ⟨hg, hg2⟩ := hg
 replace st := st.ro hkr (by simp)
 replace st := st.mine hk rfl (by simp) (by simp [hr])
 obtain ⟨px, cx, rfl⟩ := hx.shape
 unfold f17c
 show AWl _ _ _ _ _
 refine aBoxN st rfl rfl (by repeat constructor) rfl fun b6 H1 st => ?_
 refine aN rfl rfl (by constructor) ?_
 refine sE ?_
 show AWl _ _ _ _ _
 refine aN rfl rfl (by constructor) ?_
 refine aBinV (.bool false) rfl rfl rfl ?_
 refine aN rfl rfl (by constructor) ?_
 refine gT rfl ?_
 refine aN rfl rfl (by constructor) ?_
 refine gT rfl ?_
 refine aN rfl rfl (by constructor) ?_
 refine gT rfl ?_
 refine aN rfl rfl (by constructor) ?_
 refine gT rfl ?_
 refine aLd st 1 rfl rfl rfl (by constructor) ?_
 refine aN rfl rfl (by constructor) ?_
 refine sE ?_
 show AW _ (.cond _ _ _) _ _ _
 refine cF' rfl ?_
 show AWl _ _ _ _ _
 iterate 2 refine aN rfl rfl (by constructor) ?_
 refine aC (begun_r (st.get (j := 1) rfl) (st.get (j := 2) rfl) (by have := st.ne 2 1 rfl rfl (by decide); simpa using this)) fun v32 H2 ⟨hv, st1⟩ => ?_
 subst hv
 replace st := st.callX 1 rfl st1 rfl
 clear st1
 iterate 3 refine aN rfl rfl (by constructor) ?_
 refine aNewP st rfl rfl (by repeat constructor) fun b9 H3 st => ?_
 refine aSt st 0 rfl rfl rfl rfl (by first | rfl | simp [cellsOf, *]) (by first | decide | (simp [*]; done) | (simp [k8]; done)) (by repeat constructor) fun H4 st => ?_
 refine aN rfl rfl (by constructor) ?_
 refine sE ?_
 show AWl _ _ _ _ _
 iterate 2 refine aN rfl rfl (by constructor) ?_
 refine sE ?_
 show AW _ (.cond _ _ _) _ _ _
 refine cF' rfl ?_
 show AWl _ _ _ _ _
 refine aN rfl rfl (by constructor) ?_
 refine sE ?_
 show AWp _ _ _ _ _
 refine aN rfl rfl (by constructor) ?_
 refine aLdQ st 2 rfl rfl rfl (rfl : (Value.slice px xs.length cx) = _) ?_
 refine aN rfl rfl (by constructor) ?_
 refine aMovV (Value.slice px xs.length cx) rfl ?_
 refine pE ?_
 show AWl _ _ _ _ _
 refine aN rfl rfl (by constructor) ?_
 refine aLd st 0 rfl rfl rfl (by constructor) ?_
 refine aBinV (.int .u8 64) rfl rfl (rfl) ?_
 refine aBinV (.bool false) rfl rfl rfl ?_
 refine aN rfl rfl (by constructor) ?_
 refine gT rfl ?_
 refine aN rfl rfl (by constructor) ?_
 refine gT rfl ?_
 refine aLd st 2 rfl rfl rfl (by constructor) ?_
 refine gT rfl ?_
 refine aBinV (.bool false) rfl rfl rfl ?_
 refine aN rfl rfl (by constructor) ?_
 refine sE ?_
 show AW _ (.cond _ _ _) _ _ _
 refine cF' rfl ?_
 show AWl _ _ _ _ _
 refine aMovV (Value.slice px xs.length cx) rfl ?_
 refine aN (v := .int .i64 (xs.length : Int)) rfl rfl (by constructor) ?_
 refine aN rfl rfl (by constructor) ?_
 refine sE ?_
 show AWl _ _ _ _ _
 refine aMovV (Value.slice px xs.length cx) rfl ?_
 iterate 2 refine aN rfl rfl (by constructor) ?_
 refine aLd st 0 rfl rfl rfl (by constructor) ?_
 refine aMinV (r := (((min xs.length W) : Nat) : Int)) rfl rfl (by split <;> omega) ?_
 refine aCutH (st.slcX hx hap) rfl rfl (by omega) fun v55 s55 => ?_
 obtain ⟨ls, hls⟩ : ∃ ls, ls = xs.take (min xs.length W) := ⟨_, rfl⟩
 have hll : ls.length = (min xs.length W) := by rw [hls, List.length_take]; omega
 replace s55 : ∀ H1, Sl H1 1 xs.length (xs.map (Value.int .u8)) (.slice px xs.length cx) → Sl H1 1 ls.length (ls.map (Value.int .u8)) v55 := fun H1 h1 => by have := s55 H1 h1; rw [Int.toNat_natCast, ← hls] at this; rw [hll]; exact this
 refine aMovV v55 rfl ?_
 refine sE ?_
 show AWl _ _ _ _ _
 refine aN rfl rfl (by constructor) ?_
 refine sE ?_
 show AW _ (.loop _) _ _ _
 have st := st.nil 37
 refine AW_loopN (fun m t1 H1 => ∃ (zs : List DZ) (oc : Option Nat), m = ls.length + g - zs.length * g ∧ (zs.map (·.1) = List.range zs.length) ∧ (∀ i, i < zs.length → i * g < ls.length) ∧ (zs.length * g < ls.length + g) ∧ t1 15 = .int .i64 ((zs.length * g : Nat) : Int) ∧ t1 12 = .int .u32 (zs.length : Int) ∧ t1 11 = accV oc zs.length 14 ∧ t1 13 = v55 ∧ Stt [b] H H1 ([⟨some b9, true, ⟨true, 41, [.int .u32 tag, .int .u8 0, .int .u8 0, .slice none 0 0, .slice none 0 0, .int .i64 (W : Int), .int .u8 64, .int .u32 0]⟩⟩, ⟨some b6, true, ⟨true, 55, [.int .u8 0, .int .u8 0, .int .u16 0, .int .u64 0, .bool false, .int .i64 0, .int .i64 0, .bool false, .bool false, .slice px xs.length cx]⟩⟩, ⟨some b, true, ⟨true, 64, [.string ⟨#[]⟩, .string ⟨#[116]⟩, .bool false, .bool false, .bool false, .int .i64 (g : Int), .int .i64 bu, .int .i64 65536, .bool true, .bool true, .slice none 0 0, .int .u32 cmd, .int .u32 stat, .int .u32 tg, hd, .slice none 0 0, .bool false, .slice none 0 0]⟩⟩, ⟨oc, true, ⟨true, 37, zs.flatMap (diE ls g tag cmd)⟩⟩] ++ zs.map (dtE ls g))) _ ⟨[], none, rfl, rfl, fun i h => absurd h (Nat.not_lt_zero i), by simp; omega, congrArg (Value.int .i64) (by simp), rfl, rfl, rfl, (st.sel [1, 3, 2, 0] (by decide))⟩ [11, 12, 15, 16, 17, 56, 57, 58, 59, 60, 61, 62, 63, 64, 65, 66, 67, 68, 69, 70, 71, 72, 73, 74, 75, 76, 77, 78, 79, 80, 81, 82, 83, 84, 85, 86, 87, 88, 89, 90, 91, 92, 93, 94, 95, 96, 97, 98, 99, 100, 101, 102, 103, 104, 105, 106, 107, 108, 109, 110, 111] (by decide) ?_
 rintro m t1 H1 hk hI
 obtain ⟨zs, oc, rfl, hzs, hlt, hzg, ht15, ht12, ht11, ht13, st⟩ := hI
 obtain ⟨u, rfl⟩ : ∃ u, t1 = (upd (upd (upd (upd (mix [11, 12, 15, 16, 17, 56, 57, 58, 59, 60, 61, 62, 63, 64, 65, 66, 67, 68, 69, 70, 71, 72, 73, 74, 75, 76, 77, 78, 79, 80, 81, 82, 83, 84, 85, 86, 87, 88, 89, 90, 91, 92, 93, 94, 95, 96, 97, 98, 99, 100, 101, 102, 103, 104, 105, 106, 107, 108, 109, 110, 111] _ u) (some 15) _) (some 12) _) (some 11) _) (some 13) _) := ⟨t1, by rw [← hk, upd_self ht15, upd_self ht12, upd_self ht11, upd_self ht13]⟩
 clear hk ht15 ht12 ht11 ht13
 show AWl _ _ _ _ _
 refine aN rfl rfl (by constructor) ?_
 refine aMovV v55 rfl ?_
 refine aLen (s55 _ (st.slcX hx hap)) rfl ?_
 refine aN rfl rfl (by constructor) ?_
 refine sE ?_
 show AW _ (.cond _ _ _) _ _ _
 refine cC' rfl (fun h5 => ?_) (fun h5 => ?_)
 ·have hat : zs.length * g < ls.length := by have := of_decide_eq_true h5; omega
  have hzn : zs.length ≤ zs.length * g := Nat.le_mul_of_pos_right _ hg
  show AWl _ _ _ _ _
  iterate 5 refine aN rfl rfl (by constructor) ?_
  refine aLd st 2 rfl rfl rfl (by constructor) ?_
  refine aMaxV (r := (g : Int)) rfl rfl (if_neg (by omega)) ?_
  refine aBinV (.int .i64 ((zs.length * g + g : Nat) : Int)) rfl rfl (addI (by omega) (by omega)) ?_
  refine aMovV v55 rfl ?_
  refine aLen (s55 _ (st.slcX hx hap)) rfl ?_
  refine aMinV (r := ((min (zs.length * g + g) ls.length : Nat) : Int)) rfl rfl (by split <;> omega) ?_
  refine aN rfl rfl (by constructor) ?_
  refine sE ?_
  show AWp _ _ _ _ _
  iterate 2 refine aN rfl rfl (by constructor) ?_
  refine aLd st 0 rfl rfl rfl (by constructor) ?_
  refine aN rfl rfl (by constructor) ?_
  refine aMovV v55 rfl ?_
  iterate 2 refine aN rfl rfl (by constructor) ?_
  refine aCutLH (s55 _ (st.slcX hx hap)) rfl rfl rfl (by omega) fun v86 s86 => ?_
  replace s86 : ∀ H1, Sl H1 1 ls.length (ls.map (Value.int .u8)) v55 → Sl H1 1 (pc ls g zs.length).length ((pc ls g zs.length).map (Value.int .u8)) v86 := fun H1 h1 => by
   have := s86 H1 h1
   rw [Int.toNat_natCast, Int.toNat_natCast, pc_cut rfl] at this
   rw [pc_len]
   rwa [show min g (ls.length - zs.length * g) = min (zs.length * g + g) ls.length - zs.length * g by omega]
  refine ⟨?_, ?_⟩
  ·have st := st.nil 5
   have hnil : (Value.slice none 0 0) = accV none 0 1 := rfl
   refine aApp st 0 (ob := none) (n := 0) rfl rfl rfl (by decide) (rfl) (s86 _ (s55 _ (st.slcX hx hap))).src (by rw [List.length_map, Nat.mul_one]) (by rw [pc_len]; omega) (by rw [pc_len]; omega) fun b87 H6 hp87 st => ?_
   have st := st.recell 0 rfl (cs' := (pc ls g zs.length).map (Value.int .u8)) (List.nil_append _)
   have h0p : 0 + (pc ls g zs.length).length = (pc ls g zs.length).length := Nat.zero_add _
   rw [h0p]
   obtain ⟨bq, rfl⟩ := hp87 (by rw [pc_len]; omega)
   refine ⟨⟨(h_Ld st 1 rfl rfl rfl (by constructor)), trivial⟩, ?_⟩
   refine aBld rfl (by repeat constructor) ?_
   refine ⟨?_, ?_⟩
   ·refine aC (num3f_call (x := .slice (some ⟨bq, 0, none⟩) (pc ls g zs.length).length 1) (st.get (j := 3) rfl)) fun v89 H7 ⟨hv, st1⟩ => ?_
    subst hv
    replace st := st.call st1 rfl
    clear st1
    refine ⟨⟨(h_Ld st 1 rfl rfl rfl (by constructor)), trivial⟩, ?_⟩
    refine ⟨?_, trivial⟩
    refine aNewP st rfl rfl (by repeat constructor) fun b17 H8 st => ?_
    refine ⟨⟨(h_Ld st 2 rfl rfl rfl (by constructor)), trivial⟩, ?_⟩
    refine ⟨?_, trivial⟩
    refine aSt st 0 rfl rfl rfl rfl (by first | rfl | simp [cellsOf, *]) (by first | decide | (simp [*]; done) | (simp [k8]; done)) (by repeat constructor) fun H9 st => ?_
    refine ⟨trivial, ?_⟩
    refine pE ?_
    show AWl _ _ _ _ _
    refine aN rfl rfl (by constructor) ?_
    refine aMovV v55 rfl ?_
    refine aLen (s55 _ (st.slcX hx hap)) rfl ?_
    refine aN rfl rfl (by constructor) ?_
    refine sE ?_
    show AW _ (.cond _ _ _) _ _ _
    refine cC' rfl (fun h10 => ?_) (fun h10 => ?_)
    ·have hfe : ((min (zs.length * g + g) ls.length : Nat) : Int) = ls.length := by simpa using h10
     show AWl _ _ _ _ _
     refine aN rfl rfl (by constructor) ?_
     refine aSt st 0 rfl rfl rfl rfl (by first | rfl | simp [cellsOf, *]) (by first | decide | (simp [*]; done) | (simp [k8]; done)) (by repeat constructor) fun H11 st => ?_
     refine sE ?_
     show AWl _ _ _ _ _
     iterate 2 refine aN rfl rfl (by constructor) ?_
     refine aConvV (n' := ((zs.length * g : Nat) : Int)) rfl (c32w (by omega)) ?_
     iterate 2 refine aN rfl rfl (by constructor) ?_
     refine aSt st 0 rfl rfl rfl rfl (by first | rfl | simp [cellsOf, *]) (by first | decide | (simp [*]; done) | (simp [k8]; done)) (by repeat constructor) fun H12 st => ?_
     iterate 2 refine aN rfl rfl (by constructor) ?_
     refine aSt st 0 rfl rfl rfl rfl (by first | rfl | simp [cellsOf, *]) (by first | decide | (simp [*]; done) | (simp [k8]; done)) (by repeat constructor) fun H13 st => ?_
     iterate 2 refine aN rfl rfl (by constructor) ?_
     refine aSt st 0 rfl rfl rfl rfl (by first | rfl | simp [cellsOf, *]) (by first | decide | (simp [*]; done) | (simp [k8]; done)) (by repeat constructor) fun H14 st => ?_
     iterate 2 refine aN rfl rfl (by constructor) ?_
     refine aSt st 0 rfl rfl rfl rfl (by first | rfl | simp [cellsOf, *]) (by first | decide | (simp [*]; done) | (simp [k8]; done)) (by repeat constructor) fun H15 st => ?_
     refine sE ?_
     show AWl _ _ _ _ _
     refine aMovA rfl ?_
     refine aLdA st 0 rfl rfl (by first | decide | simp [*]) (by repeat constructor) ?_
     refine aLit st rfl (by repeat constructor) fun b108 H16 st => ?_
     refine aApp st 6 (ob := oc) rfl rfl rfl (by decide) (by exact flat_len' diE_len _) (st.rowAll 0 rfl (by first | rfl | (simp [beB_len, *]; done) | (simp [beB_len, *]; omega))).src (rfl) (by omega) (by omega) fun b109 H17 hp109 st => ?_
     refine aMovA rfl ?_
     refine sE ?_
     show AWl _ _ _ _ _
     refine aN rfl rfl (by constructor) ?_
     refine aBinV (.int .u32 ((zs.length : Int) + 1)) rfl rfl (addU rfl (by omega)) ?_
     refine aN rfl rfl (by constructor) ?_
     refine sE ?_
     show AWl _ _ _ _ _
     iterate 5 refine aN rfl rfl (by constructor) ?_
     refine aLd st 5 rfl rfl rfl (by constructor) ?_
     refine aMaxV (r := (g : Int)) rfl rfl (if_neg (by omega)) ?_
     refine aBinV (.int .i64 ((zs.length * g + g : Nat) : Int)) rfl rfl (addI (by omega) (by omega)) ?_
     refine aN rfl rfl (by constructor) ?_
     refine sE ?_
     have st := st.recell 6 rfl (cs' := (zs ++ [(zs.length, some bq)]).flatMap (diE ls g tag cmd)) (flat_snoc rfl (by show [.int .u8 37, .int .u8 (if (zs.length + 1) * g < ls.length then 0 else 128), .int .u8 0, .int .u8 0, .int .u8 0, .int .u32 tag, .int .u32 4294967295, .int .u32 0, .int .u32 cmd, .int .u32 (IntKind.u32.wrap (IntKind.u32.wrap (cmd + 16) - 1)), .int .u32 (zs.length : Int), .int .u32 ((zs.length * g : Nat) : Int), .int .u32 0, accV (some bq) (pc ls g zs.length).length 1] = _; rw [if_neg (by rw [Nat.add_mul]; omega)]; rfl))
     have st := st.selE (A := _) (T := zs.map (dtE ls g)) 2 [3, 4, 5, 6] (show _ = [_, _, _, _, _, _, _] ++ zs.map (dtE ls g) from rfl) rfl (by decide)
     refine ⟨_, ?_, zs ++ [(zs.length, some bq)], b109, rfl, zs_snoc hzs, ?_, ?_, ?_, ?_, ?_, rfl, ?_⟩
     ·rw [List.length_append, List.length_singleton, Nat.add_mul]; omega
     ·intro i hi; rw [List.length_append, List.length_singleton] at hi; by_cases h9 : i < zs.length; exact hlt i h9; rw [show i = zs.length by omega]; exact hat
     ·rw [List.length_append, List.length_singleton, Nat.add_mul]; omega
     ·exact congrArg (Value.int .i64) (by rw [List.length_append, List.length_singleton, Nat.add_mul, Nat.one_mul])
     ·exact congrArg (Value.int .u32) (by rw [List.length_append, List.length_singleton]; omega)
     ·exact congrArg (fun n => accV _ n 14) (by rw [List.length_append, List.length_singleton])
     ·rw [List.map_append]; exact st
    ·have hfe : ¬ ((min (zs.length * g + g) ls.length : Nat) : Int) = ls.length := by simpa using h10
     show AWl _ _ _ _ _
     iterate 2 refine aN rfl rfl (by constructor) ?_
     refine aConvV (n' := ((zs.length * g : Nat) : Int)) rfl (c32w (by omega)) ?_
     iterate 2 refine aN rfl rfl (by constructor) ?_
     refine aSt st 0 rfl rfl rfl rfl (by first | rfl | simp [cellsOf, *]) (by first | decide | (simp [*]; done) | (simp [k8]; done)) (by repeat constructor) fun H18 st => ?_
     iterate 2 refine aN rfl rfl (by constructor) ?_
     refine aSt st 0 rfl rfl rfl rfl (by first | rfl | simp [cellsOf, *]) (by first | decide | (simp [*]; done) | (simp [k8]; done)) (by repeat constructor) fun H19 st => ?_
     iterate 2 refine aN rfl rfl (by constructor) ?_
     refine aSt st 0 rfl rfl rfl rfl (by first | rfl | simp [cellsOf, *]) (by first | decide | (simp [*]; done) | (simp [k8]; done)) (by repeat constructor) fun H20 st => ?_
     iterate 2 refine aN rfl rfl (by constructor) ?_
     refine aSt st 0 rfl rfl rfl rfl (by first | rfl | simp [cellsOf, *]) (by first | decide | (simp [*]; done) | (simp [k8]; done)) (by repeat constructor) fun H21 st => ?_
     refine sE ?_
     show AWl _ _ _ _ _
     refine aMovA rfl ?_
     refine aLdA st 0 rfl rfl (by first | decide | simp [*]) (by repeat constructor) ?_
     refine aLit st rfl (by repeat constructor) fun b108 H22 st => ?_
     refine aApp st 6 (ob := oc) rfl rfl rfl (by decide) (by exact flat_len' diE_len _) (st.rowAll 0 rfl (by first | rfl | (simp [beB_len, *]; done) | (simp [beB_len, *]; omega))).src (rfl) (by omega) (by omega) fun b109 H23 hp109 st => ?_
     refine aMovA rfl ?_
     refine sE ?_
     show AWl _ _ _ _ _
     refine aN rfl rfl (by constructor) ?_
     refine aBinV (.int .u32 ((zs.length : Int) + 1)) rfl rfl (addU rfl (by omega)) ?_
     refine aN rfl rfl (by constructor) ?_
     refine sE ?_
     show AWl _ _ _ _ _
     iterate 5 refine aN rfl rfl (by constructor) ?_
     refine aLd st 5 rfl rfl rfl (by constructor) ?_
     refine aMaxV (r := (g : Int)) rfl rfl (if_neg (by omega)) ?_
     refine aBinV (.int .i64 ((zs.length * g + g : Nat) : Int)) rfl rfl (addI (by omega) (by omega)) ?_
     refine aN rfl rfl (by constructor) ?_
     refine sE ?_
     have st := st.recell 6 rfl (cs' := (zs ++ [(zs.length, some bq)]).flatMap (diE ls g tag cmd)) (flat_snoc rfl (by show [.int .u8 37, .int .u8 (if (zs.length + 1) * g < ls.length then 0 else 128), .int .u8 0, .int .u8 0, .int .u8 0, .int .u32 tag, .int .u32 4294967295, .int .u32 0, .int .u32 cmd, .int .u32 (IntKind.u32.wrap (IntKind.u32.wrap (cmd + 16) - 1)), .int .u32 (zs.length : Int), .int .u32 ((zs.length * g : Nat) : Int), .int .u32 0, accV (some bq) (pc ls g zs.length).length 1] = _; rw [if_pos (by rw [Nat.add_mul]; omega)]; rfl))
     have st := st.selE (A := _) (T := zs.map (dtE ls g)) 2 [3, 4, 5, 6] (show _ = [_, _, _, _, _, _, _] ++ zs.map (dtE ls g) from rfl) rfl (by decide)
     refine ⟨_, ?_, zs ++ [(zs.length, some bq)], b109, rfl, zs_snoc hzs, ?_, ?_, ?_, ?_, ?_, rfl, ?_⟩
     ·rw [List.length_append, List.length_singleton, Nat.add_mul]; omega
     ·intro i hi; rw [List.length_append, List.length_singleton] at hi; by_cases h9 : i < zs.length; exact hlt i h9; rw [show i = zs.length by omega]; exact hat
     ·rw [List.length_append, List.length_singleton, Nat.add_mul]; omega
     ·exact congrArg (Value.int .i64) (by rw [List.length_append, List.length_singleton, Nat.add_mul, Nat.one_mul])
     ·exact congrArg (Value.int .u32) (by rw [List.length_append, List.length_singleton]; omega)
     ·exact congrArg (fun n => accV _ n 14) (by rw [List.length_append, List.length_singleton])
     ·rw [List.map_append]; exact st
   ·refine ⟨?_, trivial⟩
    refine aNewP st rfl rfl (by repeat constructor) fun b17 H24 st => ?_
    refine ⟨⟨(h_Ld st 2 rfl rfl rfl (by constructor)), trivial⟩, ?_⟩
    refine ⟨?_, trivial⟩
    refine aC (num3f_call (x := .slice (some ⟨bq, 0, none⟩) (pc ls g zs.length).length 1) (st.get (j := 4) rfl)) fun v89 H25 ⟨hv, st1⟩ => ?_
    subst hv
    replace st := st.call st1 rfl
    clear st1
    refine ⟨⟨(h_Ld st 2 rfl rfl rfl (by constructor)), trivial⟩, ?_⟩
    refine ⟨?_, trivial⟩
    refine aSt st 0 rfl rfl rfl rfl (by first | rfl | simp [cellsOf, *]) (by first | decide | (simp [*]; done) | (simp [k8]; done)) (by repeat constructor) fun H26 st => ?_
    refine ⟨trivial, ?_⟩
    refine pE ?_
    show AWl _ _ _ _ _
    refine aN rfl rfl (by constructor) ?_
    refine aMovV v55 rfl ?_
    refine aLen (s55 _ (st.slcX hx hap)) rfl ?_
    refine aN rfl rfl (by constructor) ?_
    refine sE ?_
    show AW _ (.cond _ _ _) _ _ _
    refine cC' rfl (fun h27 => ?_) (fun h27 => ?_)
    ·have hfe : ((min (zs.length * g + g) ls.length : Nat) : Int) = ls.length := by simpa using h27
     show AWl _ _ _ _ _
     refine aN rfl rfl (by constructor) ?_
     refine aSt st 0 rfl rfl rfl rfl (by first | rfl | simp [cellsOf, *]) (by first | decide | (simp [*]; done) | (simp [k8]; done)) (by repeat constructor) fun H28 st => ?_
     refine sE ?_
     show AWl _ _ _ _ _
     iterate 2 refine aN rfl rfl (by constructor) ?_
     refine aConvV (n' := ((zs.length * g : Nat) : Int)) rfl (c32w (by omega)) ?_
     iterate 2 refine aN rfl rfl (by constructor) ?_
     refine aSt st 0 rfl rfl rfl rfl (by first | rfl | simp [cellsOf, *]) (by first | decide | (simp [*]; done) | (simp [k8]; done)) (by repeat constructor) fun H29 st => ?_
     iterate 2 refine aN rfl rfl (by constructor) ?_
     refine aSt st 0 rfl rfl rfl rfl (by first | rfl | simp [cellsOf, *]) (by first | decide | (simp [*]; done) | (simp [k8]; done)) (by repeat constructor) fun H30 st => ?_
     iterate 2 refine aN rfl rfl (by constructor) ?_
     refine aSt st 0 rfl rfl rfl rfl (by first | rfl | simp [cellsOf, *]) (by first | decide | (simp [*]; done) | (simp [k8]; done)) (by repeat constructor) fun H31 st => ?_
     iterate 2 refine aN rfl rfl (by constructor) ?_
     refine aSt st 0 rfl rfl rfl rfl (by first | rfl | simp [cellsOf, *]) (by first | decide | (simp [*]; done) | (simp [k8]; done)) (by repeat constructor) fun H32 st => ?_
     refine sE ?_
     show AWl _ _ _ _ _
     refine aMovA rfl ?_
     refine aLdA st 0 rfl rfl (by first | decide | simp [*]) (by repeat constructor) ?_
     refine aLit st rfl (by repeat constructor) fun b108 H33 st => ?_
     refine aApp st 6 (ob := oc) rfl rfl rfl (by decide) (by exact flat_len' diE_len _) (st.rowAll 0 rfl (by first | rfl | (simp [beB_len, *]; done) | (simp [beB_len, *]; omega))).src (rfl) (by omega) (by omega) fun b109 H34 hp109 st => ?_
     refine aMovA rfl ?_
     refine sE ?_
     show AWl _ _ _ _ _
     refine aN rfl rfl (by constructor) ?_
     refine aBinV (.int .u32 ((zs.length : Int) + 1)) rfl rfl (addU rfl (by omega)) ?_
     refine aN rfl rfl (by constructor) ?_
     refine sE ?_
     show AWl _ _ _ _ _
     iterate 5 refine aN rfl rfl (by constructor) ?_
     refine aLd st 5 rfl rfl rfl (by constructor) ?_
     refine aMaxV (r := (g : Int)) rfl rfl (if_neg (by omega)) ?_
     refine aBinV (.int .i64 ((zs.length * g + g : Nat) : Int)) rfl rfl (addI (by omega) (by omega)) ?_
     refine aN rfl rfl (by constructor) ?_
     refine sE ?_
     have st := st.recell 6 rfl (cs' := (zs ++ [(zs.length, some bq)]).flatMap (diE ls g tag cmd)) (flat_snoc rfl (by show [.int .u8 37, .int .u8 (if (zs.length + 1) * g < ls.length then 0 else 128), .int .u8 0, .int .u8 0, .int .u8 0, .int .u32 tag, .int .u32 4294967295, .int .u32 0, .int .u32 cmd, .int .u32 (IntKind.u32.wrap (IntKind.u32.wrap (cmd + 16) - 1)), .int .u32 (zs.length : Int), .int .u32 ((zs.length * g : Nat) : Int), .int .u32 0, accV (some bq) (pc ls g zs.length).length 1] = _; rw [if_neg (by rw [Nat.add_mul]; omega)]; rfl))
     have st := st.selE (A := _) (T := zs.map (dtE ls g)) 2 [3, 4, 5, 6] (show _ = [_, _, _, _, _, _, _] ++ zs.map (dtE ls g) from rfl) rfl (by decide)
     refine ⟨_, ?_, zs ++ [(zs.length, some bq)], b109, rfl, zs_snoc hzs, ?_, ?_, ?_, ?_, ?_, rfl, ?_⟩
     ·rw [List.length_append, List.length_singleton, Nat.add_mul]; omega
     ·intro i hi; rw [List.length_append, List.length_singleton] at hi; by_cases h9 : i < zs.length; exact hlt i h9; rw [show i = zs.length by omega]; exact hat
     ·rw [List.length_append, List.length_singleton, Nat.add_mul]; omega
     ·exact congrArg (Value.int .i64) (by rw [List.length_append, List.length_singleton, Nat.add_mul, Nat.one_mul])
     ·exact congrArg (Value.int .u32) (by rw [List.length_append, List.length_singleton]; omega)
     ·exact congrArg (fun n => accV _ n 14) (by rw [List.length_append, List.length_singleton])
     ·rw [List.map_append]; exact st
    ·have hfe : ¬ ((min (zs.length * g + g) ls.length : Nat) : Int) = ls.length := by simpa using h27
     show AWl _ _ _ _ _
     iterate 2 refine aN rfl rfl (by constructor) ?_
     refine aConvV (n' := ((zs.length * g : Nat) : Int)) rfl (c32w (by omega)) ?_
     iterate 2 refine aN rfl rfl (by constructor) ?_
     refine aSt st 0 rfl rfl rfl rfl (by first | rfl | simp [cellsOf, *]) (by first | decide | (simp [*]; done) | (simp [k8]; done)) (by repeat constructor) fun H35 st => ?_
     iterate 2 refine aN rfl rfl (by constructor) ?_
     refine aSt st 0 rfl rfl rfl rfl (by first | rfl | simp [cellsOf, *]) (by first | decide | (simp [*]; done) | (simp [k8]; done)) (by repeat constructor) fun H36 st => ?_
     iterate 2 refine aN rfl rfl (by constructor) ?_
     refine aSt st 0 rfl rfl rfl rfl (by first | rfl | simp [cellsOf, *]) (by first | decide | (simp [*]; done) | (simp [k8]; done)) (by repeat constructor) fun H37 st => ?_
     iterate 2 refine aN rfl rfl (by constructor) ?_
     refine aSt st 0 rfl rfl rfl rfl (by first | rfl | simp [cellsOf, *]) (by first | decide | (simp [*]; done) | (simp [k8]; done)) (by repeat constructor) fun H38 st => ?_
     refine sE ?_
     show AWl _ _ _ _ _
     refine aMovA rfl ?_
     refine aLdA st 0 rfl rfl (by first | decide | simp [*]) (by repeat constructor) ?_
     refine aLit st rfl (by repeat constructor) fun b108 H39 st => ?_
     refine aApp st 6 (ob := oc) rfl rfl rfl (by decide) (by exact flat_len' diE_len _) (st.rowAll 0 rfl (by first | rfl | (simp [beB_len, *]; done) | (simp [beB_len, *]; omega))).src (rfl) (by omega) (by omega) fun b109 H40 hp109 st => ?_
     refine aMovA rfl ?_
     refine sE ?_
     show AWl _ _ _ _ _
     refine aN rfl rfl (by constructor) ?_
     refine aBinV (.int .u32 ((zs.length : Int) + 1)) rfl rfl (addU rfl (by omega)) ?_
     refine aN rfl rfl (by constructor) ?_
     refine sE ?_
     show AWl _ _ _ _ _
     iterate 5 refine aN rfl rfl (by constructor) ?_
     refine aLd st 5 rfl rfl rfl (by constructor) ?_
     refine aMaxV (r := (g : Int)) rfl rfl (if_neg (by omega)) ?_
     refine aBinV (.int .i64 ((zs.length * g + g : Nat) : Int)) rfl rfl (addI (by omega) (by omega)) ?_
     refine aN rfl rfl (by constructor) ?_
     refine sE ?_
     have st := st.recell 6 rfl (cs' := (zs ++ [(zs.length, some bq)]).flatMap (diE ls g tag cmd)) (flat_snoc rfl (by show [.int .u8 37, .int .u8 (if (zs.length + 1) * g < ls.length then 0 else 128), .int .u8 0, .int .u8 0, .int .u8 0, .int .u32 tag, .int .u32 4294967295, .int .u32 0, .int .u32 cmd, .int .u32 (IntKind.u32.wrap (IntKind.u32.wrap (cmd + 16) - 1)), .int .u32 (zs.length : Int), .int .u32 ((zs.length * g : Nat) : Int), .int .u32 0, accV (some bq) (pc ls g zs.length).length 1] = _; rw [if_pos (by rw [Nat.add_mul]; omega)]; rfl))
     have st := st.selE (A := _) (T := zs.map (dtE ls g)) 2 [3, 4, 5, 6] (show _ = [_, _, _, _, _, _, _] ++ zs.map (dtE ls g) from rfl) rfl (by decide)
     refine ⟨_, ?_, zs ++ [(zs.length, some bq)], b109, rfl, zs_snoc hzs, ?_, ?_, ?_, ?_, ?_, rfl, ?_⟩
     ·rw [List.length_append, List.length_singleton, Nat.add_mul]; omega
     ·intro i hi; rw [List.length_append, List.length_singleton] at hi; by_cases h9 : i < zs.length; exact hlt i h9; rw [show i = zs.length by omega]; exact hat
     ·rw [List.length_append, List.length_singleton, Nat.add_mul]; omega
     ·exact congrArg (Value.int .i64) (by rw [List.length_append, List.length_singleton, Nat.add_mul, Nat.one_mul])
     ·exact congrArg (Value.int .u32) (by rw [List.length_append, List.length_singleton]; omega)
     ·exact congrArg (fun n => accV _ n 14) (by rw [List.length_append, List.length_singleton])
     ·rw [List.map_append]; exact st
  ·refine ⟨?_, trivial⟩
   refine aNewP st rfl rfl (by repeat constructor) fun b17 H41 st => ?_
   refine ⟨⟨(h_Ld st 1 rfl rfl rfl (by constructor)), trivial⟩, ?_⟩
   refine ⟨?_, trivial⟩
   have st := st.nil 5
   have hnil : (Value.slice none 0 0) = accV none 0 1 := rfl
   refine aApp st 0 (ob := none) (n := 0) rfl rfl rfl (by decide) (rfl) (s86 _ (s55 _ (st.slcX hx hap))).src (by rw [List.length_map, Nat.mul_one]) (by rw [pc_len]; omega) (by rw [pc_len]; omega) fun b87 H42 hp87 st => ?_
   have st := st.recell 0 rfl (cs' := (pc ls g zs.length).map (Value.int .u8)) (List.nil_append _)
   have h0p : 0 + (pc ls g zs.length).length = (pc ls g zs.length).length := Nat.zero_add _
   rw [h0p]
   obtain ⟨bq, rfl⟩ := hp87 (by rw [pc_len]; omega)
   refine ⟨⟨(h_Ld st 2 rfl rfl rfl (by constructor)), trivial⟩, ?_⟩
   refine aBld rfl (by repeat constructor) ?_
   refine ⟨?_, trivial⟩
   refine aC (num3f_call (x := .slice (some ⟨bq, 0, none⟩) (pc ls g zs.length).length 1) (st.get (j := 4) rfl)) fun v89 H43 ⟨hv, st1⟩ => ?_
   subst hv
   replace st := st.call st1 rfl
   clear st1
   refine ⟨⟨(h_Ld st 2 rfl rfl rfl (by constructor)), trivial⟩, ?_⟩
   refine ⟨?_, trivial⟩
   refine aSt st 1 rfl rfl rfl rfl (by first | rfl | simp [cellsOf, *]) (by first | decide | (simp [*]; done) | (simp [k8]; done)) (by repeat constructor) fun H44 st => ?_
   refine ⟨trivial, ?_⟩
   refine pE ?_
   show AWl _ _ _ _ _
   refine aN rfl rfl (by constructor) ?_
   refine aMovV v55 rfl ?_
   refine aLen (s55 _ (st.slcX hx hap)) rfl ?_
   refine aN rfl rfl (by constructor) ?_
   refine sE ?_
   show AW _ (.cond _ _ _) _ _ _
   refine cC' rfl (fun h45 => ?_) (fun h45 => ?_)
   ·have hfe : ((min (zs.length * g + g) ls.length : Nat) : Int) = ls.length := by simpa using h45
    show AWl _ _ _ _ _
    refine aN rfl rfl (by constructor) ?_
    refine aSt st 1 rfl rfl rfl rfl (by first | rfl | simp [cellsOf, *]) (by first | decide | (simp [*]; done) | (simp [k8]; done)) (by repeat constructor) fun H46 st => ?_
    refine sE ?_
    show AWl _ _ _ _ _
    iterate 2 refine aN rfl rfl (by constructor) ?_
    refine aConvV (n' := ((zs.length * g : Nat) : Int)) rfl (c32w (by omega)) ?_
    iterate 2 refine aN rfl rfl (by constructor) ?_
    refine aSt st 1 rfl rfl rfl rfl (by first | rfl | simp [cellsOf, *]) (by first | decide | (simp [*]; done) | (simp [k8]; done)) (by repeat constructor) fun H47 st => ?_
    iterate 2 refine aN rfl rfl (by constructor) ?_
    refine aSt st 1 rfl rfl rfl rfl (by first | rfl | simp [cellsOf, *]) (by first | decide | (simp [*]; done) | (simp [k8]; done)) (by repeat constructor) fun H48 st => ?_
    iterate 2 refine aN rfl rfl (by constructor) ?_
    refine aSt st 1 rfl rfl rfl rfl (by first | rfl | simp [cellsOf, *]) (by first | decide | (simp [*]; done) | (simp [k8]; done)) (by repeat constructor) fun H49 st => ?_
    iterate 2 refine aN rfl rfl (by constructor) ?_
    refine aSt st 1 rfl rfl rfl rfl (by first | rfl | simp [cellsOf, *]) (by first | decide | (simp [*]; done) | (simp [k8]; done)) (by repeat constructor) fun H50 st => ?_
    refine sE ?_
    show AWl _ _ _ _ _
    refine aMovA rfl ?_
    refine aLdA st 1 rfl rfl (by first | decide | simp [*]) (by repeat constructor) ?_
    refine aLit st rfl (by repeat constructor) fun b108 H51 st => ?_
    refine aApp st 6 (ob := oc) rfl rfl rfl (by decide) (by exact flat_len' diE_len _) (st.rowAll 0 rfl (by first | rfl | (simp [beB_len, *]; done) | (simp [beB_len, *]; omega))).src (rfl) (by omega) (by omega) fun b109 H52 hp109 st => ?_
    refine aMovA rfl ?_
    refine sE ?_
    show AWl _ _ _ _ _
    refine aN rfl rfl (by constructor) ?_
    refine aBinV (.int .u32 ((zs.length : Int) + 1)) rfl rfl (addU rfl (by omega)) ?_
    refine aN rfl rfl (by constructor) ?_
    refine sE ?_
    show AWl _ _ _ _ _
    iterate 5 refine aN rfl rfl (by constructor) ?_
    refine aLd st 5 rfl rfl rfl (by constructor) ?_
    refine aMaxV (r := (g : Int)) rfl rfl (if_neg (by omega)) ?_
    refine aBinV (.int .i64 ((zs.length * g + g : Nat) : Int)) rfl rfl (addI (by omega) (by omega)) ?_
    refine aN rfl rfl (by constructor) ?_
    refine sE ?_
    have st := st.recell 6 rfl (cs' := (zs ++ [(zs.length, some bq)]).flatMap (diE ls g tag cmd)) (flat_snoc rfl (by show [.int .u8 37, .int .u8 (if (zs.length + 1) * g < ls.length then 0 else 128), .int .u8 0, .int .u8 0, .int .u8 0, .int .u32 tag, .int .u32 4294967295, .int .u32 0, .int .u32 cmd, .int .u32 (IntKind.u32.wrap (IntKind.u32.wrap (cmd + 16) - 1)), .int .u32 (zs.length : Int), .int .u32 ((zs.length * g : Nat) : Int), .int .u32 0, accV (some bq) (pc ls g zs.length).length 1] = _; rw [if_neg (by rw [Nat.add_mul]; omega)]; rfl))
    have st := st.selE (A := _) (T := zs.map (dtE ls g)) 1 [3, 4, 5, 6] (show _ = [_, _, _, _, _, _, _] ++ zs.map (dtE ls g) from rfl) rfl (by decide)
    refine ⟨_, ?_, zs ++ [(zs.length, some bq)], b109, rfl, zs_snoc hzs, ?_, ?_, ?_, ?_, ?_, rfl, ?_⟩
    ·rw [List.length_append, List.length_singleton, Nat.add_mul]; omega
    ·intro i hi; rw [List.length_append, List.length_singleton] at hi; by_cases h9 : i < zs.length; exact hlt i h9; rw [show i = zs.length by omega]; exact hat
    ·rw [List.length_append, List.length_singleton, Nat.add_mul]; omega
    ·exact congrArg (Value.int .i64) (by rw [List.length_append, List.length_singleton, Nat.add_mul, Nat.one_mul])
    ·exact congrArg (Value.int .u32) (by rw [List.length_append, List.length_singleton]; omega)
    ·exact congrArg (fun n => accV _ n 14) (by rw [List.length_append, List.length_singleton])
    ·rw [List.map_append]; exact st
   ·have hfe : ¬ ((min (zs.length * g + g) ls.length : Nat) : Int) = ls.length := by simpa using h45
    show AWl _ _ _ _ _
    iterate 2 refine aN rfl rfl (by constructor) ?_
    refine aConvV (n' := ((zs.length * g : Nat) : Int)) rfl (c32w (by omega)) ?_
    iterate 2 refine aN rfl rfl (by constructor) ?_
    refine aSt st 1 rfl rfl rfl rfl (by first | rfl | simp [cellsOf, *]) (by first | decide | (simp [*]; done) | (simp [k8]; done)) (by repeat constructor) fun H53 st => ?_
    iterate 2 refine aN rfl rfl (by constructor) ?_
    refine aSt st 1 rfl rfl rfl rfl (by first | rfl | simp [cellsOf, *]) (by first | decide | (simp [*]; done) | (simp [k8]; done)) (by repeat constructor) fun H54 st => ?_
    iterate 2 refine aN rfl rfl (by constructor) ?_
    refine aSt st 1 rfl rfl rfl rfl (by first | rfl | simp [cellsOf, *]) (by first | decide | (simp [*]; done) | (simp [k8]; done)) (by repeat constructor) fun H55 st => ?_
    iterate 2 refine aN rfl rfl (by constructor) ?_
    refine aSt st 1 rfl rfl rfl rfl (by first | rfl | simp [cellsOf, *]) (by first | decide | (simp [*]; done) | (simp [k8]; done)) (by repeat constructor) fun H56 st => ?_
    refine sE ?_
    show AWl _ _ _ _ _
    refine aMovA rfl ?_
    refine aLdA st 1 rfl rfl (by first | decide | simp [*]) (by repeat constructor) ?_
    refine aLit st rfl (by repeat constructor) fun b108 H57 st => ?_
    refine aApp st 6 (ob := oc) rfl rfl rfl (by decide) (by exact flat_len' diE_len _) (st.rowAll 0 rfl (by first | rfl | (simp [beB_len, *]; done) | (simp [beB_len, *]; omega))).src (rfl) (by omega) (by omega) fun b109 H58 hp109 st => ?_
    refine aMovA rfl ?_
    refine sE ?_
    show AWl _ _ _ _ _
    refine aN rfl rfl (by constructor) ?_
    refine aBinV (.int .u32 ((zs.length : Int) + 1)) rfl rfl (addU rfl (by omega)) ?_
    refine aN rfl rfl (by constructor) ?_
    refine sE ?_
    show AWl _ _ _ _ _
    iterate 5 refine aN rfl rfl (by constructor) ?_
    refine aLd st 5 rfl rfl rfl (by constructor) ?_
    refine aMaxV (r := (g : Int)) rfl rfl (if_neg (by omega)) ?_
    refine aBinV (.int .i64 ((zs.length * g + g : Nat) : Int)) rfl rfl (addI (by omega) (by omega)) ?_
    refine aN rfl rfl (by constructor) ?_
    refine sE ?_
    have st := st.recell 6 rfl (cs' := (zs ++ [(zs.length, some bq)]).flatMap (diE ls g tag cmd)) (flat_snoc rfl (by show [.int .u8 37, .int .u8 (if (zs.length + 1) * g < ls.length then 0 else 128), .int .u8 0, .int .u8 0, .int .u8 0, .int .u32 tag, .int .u32 4294967295, .int .u32 0, .int .u32 cmd, .int .u32 (IntKind.u32.wrap (IntKind.u32.wrap (cmd + 16) - 1)), .int .u32 (zs.length : Int), .int .u32 ((zs.length * g : Nat) : Int), .int .u32 0, accV (some bq) (pc ls g zs.length).length 1] = _; rw [if_pos (by rw [Nat.add_mul]; omega)]; rfl))
    have st := st.selE (A := _) (T := zs.map (dtE ls g)) 1 [3, 4, 5, 6] (show _ = [_, _, _, _, _, _, _] ++ zs.map (dtE ls g) from rfl) rfl (by decide)
    refine ⟨_, ?_, zs ++ [(zs.length, some bq)], b109, rfl, zs_snoc hzs, ?_, ?_, ?_, ?_, ?_, rfl, ?_⟩
    ·rw [List.length_append, List.length_singleton, Nat.add_mul]; omega
    ·intro i hi; rw [List.length_append, List.length_singleton] at hi; by_cases h9 : i < zs.length; exact hlt i h9; rw [show i = zs.length by omega]; exact hat
    ·rw [List.length_append, List.length_singleton, Nat.add_mul]; omega
    ·exact congrArg (Value.int .i64) (by rw [List.length_append, List.length_singleton, Nat.add_mul, Nat.one_mul])
    ·exact congrArg (Value.int .u32) (by rw [List.length_append, List.length_singleton]; omega)
    ·exact congrArg (fun n => accV _ n 14) (by rw [List.length_append, List.length_singleton])
    ·rw [List.map_append]; exact st
 ·have hat : ls.length ≤ zs.length * g := by have := of_decide_eq_false h5; omega
  have hzn : zs.length ≤ zs.length * g := Nat.le_mul_of_pos_right _ hg
  show AWl _ _ _ _ _
  iterate 2 refine aN rfl rfl (by constructor) ?_
  refine aLd st 1 rfl rfl rfl (by constructor) ?_
  refine aN rfl rfl (by constructor) ?_
  refine aBld rfl (by repeat constructor) ?_
  refine aC (num3t_call (st.get (j := 2) rfl)) fun v117 H59 ⟨hv, st1⟩ => ?_
  subst hv
  replace st := st.callX 2 rfl st1 rfl
  clear st1
  refine aNewP st rfl rfl (by repeat constructor) fun b18 H60 st => ?_
  refine aSt st 0 rfl rfl rfl rfl (by first | rfl | simp [cellsOf, *]) (by first | decide | (simp [*]; done) | (simp [k8]; done)) (by repeat constructor) fun H61 st => ?_
  refine sE ?_
  show AWl _ _ _ _ _
  iterate 3 refine aN rfl rfl (by constructor) ?_
  refine aSt st 0 rfl rfl rfl rfl (by first | rfl | simp [cellsOf, *]) (by first | decide | (simp [*]; done) | (simp [k8]; done)) (by repeat constructor) fun H62 st => ?_
  refine sE ?_
  show AWl _ _ _ _ _
  iterate 2 refine aN rfl rfl (by constructor) ?_
  refine aLd st 2 rfl rfl rfl (by constructor) ?_
  iterate 2 refine aN rfl rfl (by constructor) ?_
  refine sE ?_
  show AW _ (.cond _ _ _) _ _ _
  refine cC' rfl (fun h63 => ?_) (fun h63 => ?_)
  ·have hgt : ((xs.length : Int) > W) := by simpa using h63
   show AWl _ _ _ _ _
   refine aN rfl rfl (by constructor) ?_
   refine aLd st 0 rfl rfl rfl (by constructor) ?_
   refine aBinV (.int .u8 132) rfl rfl (rfl) ?_
   refine aN rfl rfl (by constructor) ?_
   refine aSt st 0 rfl rfl rfl rfl (by first | rfl | simp [cellsOf, *]) (by first | decide | (simp [*]; done) | (simp [k8]; done)) (by repeat constructor) fun H64 st => ?_
   refine sE ?_
   show AWl _ _ _ _ _
   iterate 2 refine aN rfl rfl (by constructor) ?_
   refine aLd st 2 rfl rfl rfl (by constructor) ?_
   refine aBinV (.int .i64 ((xs.length - W : Nat) : Int)) rfl rfl (subI (by omega) (by omega)) ?_
   refine aConvV (n' := ((xs.length - W : Nat) : Int)) rfl (c32w (by omega)) ?_
   iterate 2 refine aN rfl rfl (by constructor) ?_
   refine aSt st 0 rfl rfl rfl rfl (by first | rfl | simp [cellsOf, *]) (by first | decide | (simp [*]; done) | (simp [k8]; done)) (by repeat constructor) fun H65 st => ?_
   refine sE ?_
   show AWl _ _ _ _ _
   refine aN rfl rfl (by constructor) ?_
   refine aLd st 3 rfl rfl rfl (by constructor) ?_
   refine aBinV (.bool false) rfl rfl rfl ?_
   refine sE ?_
   show AW _ (.cond _ _ _) _ _ _
   refine cF' rfl ?_
   show AWl _ _ _ _ _
   refine aMovA rfl ?_
   refine aLdA st 0 rfl rfl (by first | decide | simp [*]) (by repeat constructor) ?_
   refine aLit st rfl (by repeat constructor) fun b192 H66 st => ?_
   refine aAppP st 5 (ob := oc) rfl rfl rfl (by decide) (by exact flat_len' diE_len _) (st.rowAll 0 rfl (by first | rfl | (simp [beB_len, *]; done) | (simp [beB_len, *]; omega))).src (rfl) (by omega) (by omega) (by omega) (.any _) fun b193 H67 st => ?_
   refine aN rfl rfl (by constructor) ?_
   refine sE ?_
   refine ⟨_, out1 (r_tmp rfl (by constructor)), ?_⟩
   have st := st.recell 5 rfl (cs' := (zs.map some ++ [none]).flatMap (enE ls g tag cmd stat zs.length 132 ((xs.length - W : Nat) : Int))) (en_list zs)
   have st := st.selN (A := _) (T := zs.map (dtE ls g)) [2, 5] (show _ = [_, _, _, _, _, _] ++ zs.map (dtE ls g) from rfl) (by decide)
   exact ⟨b193, zs, ls, 132, ((xs.length - W : Nat) : Int), hls, rfl, hzs, hlt, hat, .inl ⟨by omega, rfl, rfl⟩, st⟩
  ·have hgt : ¬ ((xs.length : Int) > W) := by simpa using h63
   show AWl _ _ _ _ _
   refine aN rfl rfl (by constructor) ?_
   refine aLd st 2 rfl rfl rfl (by constructor) ?_
   refine aBinV (.int .u8 64) rfl rfl (rfl) ?_
   refine aBinV (.bool true) rfl rfl rfl ?_
   refine aN rfl rfl (by constructor) ?_
   refine gT rfl ?_
   refine aN rfl rfl (by constructor) ?_
   refine gT rfl ?_
   refine aN rfl rfl (by constructor) ?_
   refine gT rfl ?_
   refine aLd st 2 rfl rfl rfl (by constructor) ?_
   refine gT rfl ?_
   iterate 3 refine aN rfl rfl (by constructor) ?_
   refine sE ?_
   show AW _ (.cond _ _ _) _ _ _
   refine cC' rfl (fun h68 => ?_) (fun h68 => ?_)
   ·have hle : ((xs.length : Int) < W) := by simpa using h68
    show AWl _ _ _ _ _
    refine aN rfl rfl (by constructor) ?_
    refine aLd st 0 rfl rfl rfl (by constructor) ?_
    refine aBinV (.int .u8 130) rfl rfl (rfl) ?_
    refine aN rfl rfl (by constructor) ?_
    refine aSt st 0 rfl rfl rfl rfl (by first | rfl | simp [cellsOf, *]) (by first | decide | (simp [*]; done) | (simp [k8]; done)) (by repeat constructor) fun H69 st => ?_
    refine sE ?_
    show AWl _ _ _ _ _
    refine aN rfl rfl (by constructor) ?_
    refine aLd st 2 rfl rfl rfl (by constructor) ?_
    refine aN rfl rfl (by constructor) ?_
    refine aBinV (.int .i64 ((W - xs.length : Nat) : Int)) rfl rfl (subI (by omega) (by omega)) ?_
    refine aConvV (n' := ((W - xs.length : Nat) : Int)) rfl (c32w (by omega)) ?_
    iterate 2 refine aN rfl rfl (by constructor) ?_
    refine aSt st 0 rfl rfl rfl rfl (by first | rfl | simp [cellsOf, *]) (by first | decide | (simp [*]; done) | (simp [k8]; done)) (by repeat constructor) fun H70 st => ?_
    refine sE ?_
    show AWl _ _ _ _ _
    refine aN rfl rfl (by constructor) ?_
    refine aLd st 3 rfl rfl rfl (by constructor) ?_
    refine aBinV (.bool false) rfl rfl rfl ?_
    refine sE ?_
    show AW _ (.cond _ _ _) _ _ _
    refine cF' rfl ?_
    show AWl _ _ _ _ _
    refine aMovA rfl ?_
    refine aLdA st 0 rfl rfl (by first | decide | simp [*]) (by repeat constructor) ?_
    refine aLit st rfl (by repeat constructor) fun b192 H71 st => ?_
    refine aAppP st 5 (ob := oc) rfl rfl rfl (by decide) (by exact flat_len' diE_len _) (st.rowAll 0 rfl (by first | rfl | (simp [beB_len, *]; done) | (simp [beB_len, *]; omega))).src (rfl) (by omega) (by omega) (by omega) (.any _) fun b193 H72 st => ?_
    refine aN rfl rfl (by constructor) ?_
    refine sE ?_
    refine ⟨_, out1 (r_tmp rfl (by constructor)), ?_⟩
    have st := st.recell 5 rfl (cs' := (zs.map some ++ [none]).flatMap (enE ls g tag cmd stat zs.length 130 ((W - xs.length : Nat) : Int))) (en_list zs)
    have st := st.selN (A := _) (T := zs.map (dtE ls g)) [2, 5] (show _ = [_, _, _, _, _, _] ++ zs.map (dtE ls g) from rfl) (by decide)
    exact ⟨b193, zs, ls, 130, ((W - xs.length : Nat) : Int), hls, rfl, hzs, hlt, hat, .inr (.inl ⟨by omega, rfl, rfl⟩), st⟩
   ·have hle : ¬ ((xs.length : Int) < W) := by simpa using h68
    show AWl _ _ _ _ _
    refine aN rfl rfl (by constructor) ?_
    refine aLd st 3 rfl rfl rfl (by constructor) ?_
    refine aBinV (.bool false) rfl rfl rfl ?_
    refine sE ?_
    show AW _ (.cond _ _ _) _ _ _
    refine cF' rfl ?_
    show AWl _ _ _ _ _
    refine aMovA rfl ?_
    refine aLdA st 0 rfl rfl (by first | decide | simp [*]) (by repeat constructor) ?_
    refine aLit st rfl (by repeat constructor) fun b192 H73 st => ?_
    refine aAppP st 5 (ob := oc) rfl rfl rfl (by decide) (by exact flat_len' diE_len _) (st.rowAll 0 rfl (by first | rfl | (simp [beB_len, *]; done) | (simp [beB_len, *]; omega))).src (rfl) (by omega) (by omega) (by omega) (.any _) fun b193 H74 st => ?_
    refine aN rfl rfl (by constructor) ?_
    refine sE ?_
    refine ⟨_, out1 (r_tmp rfl (by constructor)), ?_⟩
    have st := st.recell 5 rfl (cs' := (zs.map some ++ [none]).flatMap (enE ls g tag cmd stat zs.length 128 0)) (en_list zs)
    have st := st.selN (A := _) (T := zs.map (dtE ls g)) [2, 5] (show _ = [_, _, _, _, _, _] ++ zs.map (dtE ls g) from rfl) (by decide)
    exact ⟨b193, zs, ls, 128, 0, hls, rfl, hzs, hlt, hat, .inr (.inr ⟨by omega, rfl, rfl⟩), st⟩
end Go.Proofs.Ytloeadlmcdddnaa.Abs
