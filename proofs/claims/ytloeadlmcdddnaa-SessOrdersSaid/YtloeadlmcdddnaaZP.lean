/- SessOrders. -/
import Derived.Test.YtloeadlmcdddnaaZO
import Derived.Test.YtloeadlmcdddnaaZ7
set_option linter.unusedVariables false
set_option linter.unusedSimpArgs false
set_option maxRecDepth 100000
namespace Go.Proofs.Ytloeadlmcdddnaa.Abs
open Go Go.RowKit
variable {tg sg bu : Int}
theorem getD_byte {xs : List Int} (h : ByteL xs) (i : Nat) : 0 ≤ xs.getD i 0 ∧ xs.getD i 0 ≤ 255 := by
  by_cases hi : i < xs.length
  · have e : xs.getD i 0 = xs[i] := by simp [List.getD, List.getElem?_eq_getElem hi]
    rw [e]
    have := h _ (List.getElem_mem hi)
    omega
  · simp [List.getD, List.getElem?_eq_none (by omega : xs.length ≤ i)]
section
variable {P : Program} {R : Tm → Hp → Prop} {t : Tm} {H : Hp} {d : Option Nat} {x y : Opd}
theorem aIxAN {n b j : Nat} {kd : IntKind} (hx : ev t x = .pointer (some ⟨b, 0, none⟩)) (hy : ev t y = .int kd (j : Int)) (hj : j < n) (kk : R (upd t d (.pointer (some ⟨b, j, none⟩))) H) : aStep P ⟨d, .iadrA n 1 x y, none⟩ R t H := by
  refine aIxA hx hy (by omega) ?_
  rw [Int.toNat_natCast, Nat.mul_one, Nat.zero_add]
  exact kk
end
def cmL (f : Nat → Bool) : List Value := (List.range 16).map fun j => Value.bool (f j)
theorem cm_at {f : Nat → Bool} {j : Nat} {p : Bool} (hj : j < 16) (h : f j = p) : (cmL f)[j]? = some (.bool p) := by
  unfold cmL
  rw [List.getElem?_map, List.getElem?_range hj]
  simp [h]
theorem cm_len {f : Nat → Bool} : (cmL f).length = 16 := by simp [cmL]
theorem cm_set {f : Nat → Bool} {k : Nat} : (cmL f).set k (.bool true) = cmL fun j => decide (j = k) || f j := by
  unfold cmL
  apply List.ext_getElem
  · simp
  · intro j h1 h2
    rw [List.getElem_set]
    split
    · rename_i h
      simp [h.symm]
    · rename_i h
      have h' : ¬ j = k := fun e => h e.symm
      simp [h']
theorem cv0 {F : Int} (h : 0 ≤ F ∧ F < 4294967296) : F = IntKind.u32.wrap (F + ((0 : Nat) : Int)) := by
  rw [w32]
  omega
theorem zs_tag {zs : List TZ} {nx j : Nat} {d : TZ} (hz : zs.map (·.1) = List.range' nx zs.length) (hj : j < zs.length) : (zs.getD j d).1 = nx + j := by
  have e : zs.getD j d = zs[j] := by simp [List.getD, List.getElem?_eq_getElem hj]
  have h : (zs.map (·.1))[j]? = (List.range' nx zs.length)[j]? := by rw [hz]
  rw [List.getElem?_map, List.getElem?_eq_getElem hj, List.getElem?_range' hj] at h
  simp at h
  rw [e, h]
theorem came_step {hs hs1 : List Nat} {nx n1 k : Nat} {cm : Nat → Bool} (hc : ∀ j, j < 16 → (cm j = true ↔ (j ∈ hs ∨ j < nx))) (hR : ∀ j, (j ∈ hs1 ∨ j < n1) ↔ (j ∈ hs ∨ j < nx ∨ j = k)) : ∀ j, j < 16 → ((decide (j = k) || cm j) = true ↔ (j ∈ hs1 ∨ j < n1)) := fun j hj => by
  rw [hR j, Bool.or_eq_true, decide_eq_true_iff, hc j hj]
  constructor
  · rintro (h | h | h)
    · exact .inr (.inr h)
    · exact .inl h
    · exact .inr (.inl h)
  · rintro (h | h | h)
    · exact .inr (.inl h)
    · exact .inr (.inr h)
    · exact .inl h
theorem orders_call {H : Hp} {x : Value} {ks : List Int} {F : Int} (hF : 0 ≤ F ∧ F < 4294967296) (hk : Sl H 1 ks.length (ks.map (Value.int .u8)) x) (hkb : ByteL ks) :
  ACalls Try.prog 3 [.int .u32 F, x] H (fun v _ => v = .bool true) := by
 refine acallsW Try.func3 f3_ok (Nat.le_of_ble_eq_true rfl) fun hw => ?_
 have st : Stt [] H H [] := Stt.start hw
 obtain ⟨pk, ck, rfl⟩ := hk.shape
 unfold f3c
 show AWl _ _ _ _ _
 refine aN rfl rfl (by constructor) ?_
 refine sE ?_
 show AWl _ _ _ _ _
 refine aC (awake_call) fun v14 H1 ⟨hv, st1⟩ => ?_
 subst hv
 replace st := st.call st1 rfl
 clear st1
 refine aN rfl rfl (by constructor) ?_
 refine sE ?_
 show AW _ (.cond _ _ _) _ _ _
 refine cF' rfl ?_
 show AWl _ _ _ _ _
 refine aC (plain_call) fun v16 H2 ⟨hv, st1⟩ => ?_
 subst hv
 replace st := st.call st1 rfl
 clear st1
 refine aN rfl rfl (by constructor) ?_
 refine aC (new_call) fun v18 H3 ⟨b18, hv, st1⟩ => ?_
 subst hv
 replace st := st.call st1 rfl
 clear st1
 refine aN rfl rfl (by constructor) ?_
 refine sE ?_
 show AWl _ _ _ _ _
 refine aNewP st rfl rfl (by repeat constructor) fun b6 H4 st => ?_
 refine sE ?_
 show AWl _ _ _ _ _
 refine aN rfl rfl (by constructor) ?_
 refine sE ?_
 show AWl _ _ _ _ _
 refine aN rfl rfl (by constructor) ?_
 refine sE ?_
 show AW _ (.loop _) _ _ _
 have st := st.nil 37
 have st := st.nil 41
 rw [cv0 hF] at st
 refine AW_loopN (fun m t1 H1 => ∃ (i nx : Nat) (hs : List Nat) (ho rb : Option Nat) (cm : Nat → Bool), m = ks.length - i ∧ (i ≤ ks.length) ∧ (∀ j, j < 16 → (cm j = true ↔ (j ∈ hs ∨ j < nx))) ∧ (nx ∉ hs) ∧ (∀ j ∈ hs, j ≤ 15) ∧ (nx ≤ 16) ∧ (hs.length ≤ i) ∧ t1 7 = .int .i64 (nx : Int) ∧ t1 8 = .int .i64 (i : Int) ∧ Stt [] H H1 [⟨some b18, true, ⟨true, 64, [.string ⟨#[]⟩, .string ⟨#[116]⟩, .bool false, .bool false, .bool false, .int .i64 8192, .int .i64 65536, .int .i64 65536, .bool true, .bool true, .slice none 0 0, .int .u32 (IntKind.u32.wrap (F + ((nx : Nat) : Int))), .int .u32 1, .int .u32 0, accV ho hs.length 14, .slice none 0 0, .bool false, accV rb nx 8]⟩⟩, ⟨ho, true, ⟨true, 37, hs.flatMap (rdE F)⟩⟩, ⟨rb, true, ⟨true, 41, (List.range nx).flatMap trE⟩⟩, ⟨some b6, true, ⟨true, 30, cmL cm⟩⟩]) _ ⟨0, 0, [], none, none, (fun _ => false), rfl, Nat.zero_le _, (fun j hj => by simp), (by simp), (fun j h => by cases h), (by omega), Nat.le_refl _, rfl, rfl, (st.sel [3, 1, 0, 2] (by decide))⟩ [4, 7, 8, 9, 10, 11, 12, 13, 19, 20, 21, 22, 23, 24, 25, 26, 27, 28, 29, 30, 31, 32, 33, 34, 35, 36, 37, 38, 39, 40, 41, 42, 43, 44, 45, 46, 47, 48, 49, 50, 51, 52, 53, 54, 55, 56, 57, 58, 59, 60, 61, 62, 63, 64, 65, 66, 67, 68, 69, 70, 71, 72, 73, 74, 75, 76, 77, 78, 79, 80, 81, 82, 83, 84, 85, 86, 87, 88, 89, 90, 91, 92, 93, 94, 95, 96, 97, 98, 99, 100, 101, 102, 103, 104, 105, 106, 107, 108, 109, 110] (by decide) ?_
 rintro m t1 H1 hk hI
 obtain ⟨i, nx, hs, ho, rb, cm, rfl, hi0, hc, hnm, h15, hnx, hhl, ht7, ht8, st⟩ := hI
 obtain ⟨u, rfl⟩ : ∃ u, t1 = (upd (upd (mix [4, 7, 8, 9, 10, 11, 12, 13, 19, 20, 21, 22, 23, 24, 25, 26, 27, 28, 29, 30, 31, 32, 33, 34, 35, 36, 37, 38, 39, 40, 41, 42, 43, 44, 45, 46, 47, 48, 49, 50, 51, 52, 53, 54, 55, 56, 57, 58, 59, 60, 61, 62, 63, 64, 65, 66, 67, 68, 69, 70, 71, 72, 73, 74, 75, 76, 77, 78, 79, 80, 81, 82, 83, 84, 85, 86, 87, 88, 89, 90, 91, 92, 93, 94, 95, 96, 97, 98, 99, 100, 101, 102, 103, 104, 105, 106, 107, 108, 109, 110] _ u) (some 7) _) (some 8) _) := ⟨t1, by rw [← hk, upd_self ht7, upd_self ht8]⟩
 clear hk ht7 ht8
 show AWl _ _ _ _ _
 refine aN rfl rfl (by constructor) ?_
 refine aMovV (Value.slice pk ks.length ck) rfl ?_
 refine aLen (st.slc hk) rfl ?_
 refine aBinV (.bool (decide (i < ks.length))) rfl rfl (by exact congrArg (fun q => some (Value.bool q)) (decide_eq_decide.2 (by omega))) ?_
 refine aN rfl rfl (by constructor) ?_
 refine gCase 23 rfl (fun h5 => ?_) (fun h5 => ?_)
 ·refine gT rfl ?_
  refine aN rfl rfl (by constructor) ?_
  refine gT rfl ?_
  refine aBinV (.bool (decide (i < 60))) rfl rfl (by exact congrArg (fun q => some (Value.bool q)) (decide_eq_decide.2 (by omega))) ?_
  refine aN rfl rfl (by constructor) ?_
  refine sE ?_
  show AW _ (.cond _ _ _) _ _ _
  refine cC' rfl (fun h6 => ?_) (fun h6 => ?_)
  ·have hi : i < 60 ∧ i < ks.length := by first | (refine ⟨?_, ?_⟩ <;> (apply of_decide_eq_true; assumption)) | (simp_all)
   show AWl _ _ _ _ _
   refine aMovV (Value.slice pk ks.length ck) rfl ?_
   refine aN rfl rfl (by constructor) ?_
   refine aIxB (st.slc hk) rfl rfl (by omega) fun b31 o31 g31 => ?_
   rw [Int.toNat_natCast] at g31
   obtain ⟨c0, hc0⟩ := Int.eq_ofNat_of_zero_le (getD_byte hkb i).1
   rw [hc0] at g31
   obtain ⟨k, hkd⟩ : ∃ k, k = c0 % 16 := ⟨_, rfl⟩
   have hk15 : k ≤ 15 := by omega
   refine aLdG rfl g31 ?_
   refine aBinV (.int .u8 (k : Int)) rfl rfl (by rw [hkd]; exact remN (m := 16) (by decide)) ?_
   refine aConvV (n' := (k : Int)) rfl (by first | exact c64 (by omega) | exact c32w (by omega)) ?_
   refine aN rfl rfl (by constructor) ?_
   refine sE ?_
   show AWl _ _ _ _ _
   iterate 2 refine aN rfl rfl (by constructor) ?_
   refine aBinV (.int .i64 ((100 + k : Nat) : Int)) rfl rfl (addI (by omega) (by omega)) ?_
   refine aConvV (n' := ((100 + k : Nat) : Int)) rfl (by first | exact c64 (by omega) | exact c32w (by omega)) ?_
   iterate 2 refine aN rfl rfl (by constructor) ?_
   refine aConvV (n' := (k : Int)) rfl (by first | exact c64 (by omega) | exact c32w (by omega)) ?_
   refine aBinV (.int .u32 (IntKind.u32.wrap (F + (k : Int)))) rfl rfl rfl ?_
   refine aC (read_call) fun v44 H7 ⟨hv, st1⟩ => ?_
   subst hv
   replace st := st.call st1 rfl
   clear st1
   refine aC (in_o (k := k) (st.take3 (o1 := some b18) 0 1 2 rfl rfl rfl (by decide)) hk15 hnx h15 hnm (by omega)) fun v45 H8 ⟨hs1, zs, ho1, rb1, ot, hv, hz, hR, hnm1, h151, hn16, hl1, hzn, st1⟩ => ?_
   subst hv
   replace st := st.call3 (o1 := some b18) 0 0 0 rfl rfl rfl st1 rfl
   clear st1
   iterate 2 refine aN rfl rfl (by constructor) ?_
   refine aExtA rfl rfl ?_
   refine aN rfl rfl (by constructor) ?_
   refine aMovA rfl ?_
   refine sE ?_
   show AWl _ _ _ _ _
   refine aN rfl rfl (by constructor) ?_
   refine aIxAN rfl rfl (by omega) ?_
   refine aLd st 4 rfl rfl (cm_at (by omega) rfl) (by constructor) ?_
   iterate 2 refine aN rfl rfl (by constructor) ?_
   refine gCase 52 rfl (fun h9 => ?_) (fun h9 => ?_)
   ·have h9n : (cm k) = false := Eq.mp (Bool.not_eq_true' _) h9
    refine gT rfl ?_
    refine aN rfl rfl (by constructor) ?_
    refine gT rfl ?_
    refine aN rfl rfl (by constructor) ?_
    refine gT rfl ?_
    have hcf := h9n
    have hkk : ¬ (k ∈ hs ∨ k < nx) := fun h => by rw [(hc k (by omega)).2 h] at hcf; cases hcf
    refine aBinV (.bool true) rfl rfl (by exact congrArg (fun q => some (Value.bool q)) (decide_eq_true (by omega))) ?_
    iterate 2 refine aN rfl rfl (by constructor) ?_
    refine sE ?_
    show AWl _ _ _ _ _
    refine aN rfl rfl (by constructor) ?_
    refine aIxAN rfl rfl (by omega) ?_
    refine aStAt st 4 rfl rfl rfl rfl rfl (by rw [cm_len]; omega) cm_set fun H10 st => ?_
    refine sE ?_
    show AWl _ _ _ _ _
    refine aN rfl rfl (by constructor) ?_
    refine sE ?_
    show AW _ (.loop _) _ _ _
    refine AW_loopN (fun m t1 H1 => ∃ (j : Nat), m = zs.length - j ∧ (j ≤ zs.length) ∧ t1 13 = .int .i64 (j : Int) ∧ t1 7 = .int .i64 ((nx + j : Nat) : Int) ∧ Stt [] H H1 [⟨some b18, true, ⟨true, 64, [.string ⟨#[]⟩, .string ⟨#[116]⟩, .bool false, .bool false, .bool false, .int .i64 8192, .int .i64 65536, .int .i64 65536, .bool true, .bool true, .slice none 0 0, .int .u32 (IntKind.u32.wrap (F + (((nx + zs.length) : Nat) : Int))), .int .u32 1, .int .u32 0, accV ho1 hs1.length 14, .slice none 0 0, .bool false, accV rb1 (nx + zs.length) 8]⟩⟩, ⟨ho1, true, ⟨true, 37, hs1.flatMap (rdE F)⟩⟩, ⟨rb1, true, ⟨true, 41, (List.range (nx + zs.length)).flatMap trE⟩⟩, ⟨some b6, true, ⟨true, 30, cmL (fun j => decide (j = k) || cm j)⟩⟩, ⟨ot, true, ⟨true, 41, zs.flatMap tkE⟩⟩]) _ ⟨0, rfl, Nat.zero_le _, rfl, rfl, (st.sel [0, 1, 2, 4, 3] (by decide))⟩ [4, 7, 13, 59, 60, 61, 62, 63, 64, 65, 66, 67, 68, 69, 70, 71, 72, 73, 74, 75, 76, 77, 78, 79, 80, 81, 82, 83, 84, 85] (by decide) ?_
    rintro m t1 H1 hk hI
    obtain ⟨j, rfl, hj, ht13, ht7, st⟩ := hI
    obtain ⟨u, rfl⟩ : ∃ u, t1 = (upd (upd (mix [4, 7, 13, 59, 60, 61, 62, 63, 64, 65, 66, 67, 68, 69, 70, 71, 72, 73, 74, 75, 76, 77, 78, 79, 80, 81, 82, 83, 84, 85] _ u) (some 13) _) (some 7) _) := ⟨t1, by rw [← hk, upd_self ht13, upd_self ht7]⟩
    clear hk ht13 ht7
    show AWl _ _ _ _ _
    refine aN rfl rfl (by constructor) ?_
    refine aMovA rfl ?_
    refine aLen (st.rowAcc 4 rfl (by decide) (by exact flat_len' tkE_len _)) rfl ?_
    refine aBinV (.bool (decide (j < zs.length))) rfl rfl (by exact congrArg (fun q => some (Value.bool q)) (decide_eq_decide.2 (by omega))) ?_
    refine sE ?_
    show AW _ (.cond _ _ _) _ _ _
    refine cC' rfl (fun h11 => ?_) (fun h11 => ?_)
    ·have hjz : j < zs.length := of_decide_eq_true h11
     show AWl _ _ _ _ _
     refine aN rfl rfl (by constructor) ?_
     refine aBinV (.bool false) rfl rfl (gtF (by omega)) ?_
     refine aN rfl rfl (by constructor) ?_
     refine gT rfl ?_
     refine aN rfl rfl (by constructor) ?_
     refine gT rfl ?_
     refine aIxAN rfl rfl (by omega) ?_
     refine gT rfl ?_
     refine aLd st 3 rfl rfl (cm_at (p := true) (by omega) ((came_step hc hR (nx + j) (by omega)).2 (.inr (by omega)))) (by constructor) ?_
     refine gT rfl ?_
     iterate 3 refine aN rfl rfl (by constructor) ?_
     refine gT rfl ?_
     refine aMovA rfl ?_
     refine gT rfl ?_
     refine aN rfl rfl (by constructor) ?_
     refine gT rfl ?_
     refine aIxE tkE_len (0, undef) (l := zs) (st.rowAcc 4 rfl (by decide) (by exact flat_len' tkE_len _)) rfl rfl (by omega) fun b76 o76 g76 => ?_
     rw [Int.toNat_natCast] at g76
     have htg := zs_tag (d := (0, undef)) hz hjz
     refine gT rfl ?_
     refine aN rfl rfl (by constructor) ?_
     refine gT rfl ?_
     refine aLdP g76 0 rfl (v := .int .u32 ((100 + (zs.getD j (0, undef)).1 : Nat) : Int)) rfl (by constructor) (by decide) ?_
     refine gT rfl ?_
     refine aN rfl rfl (by constructor) ?_
     refine gT rfl ?_
     refine aBinV (.int .i64 ((100 + (nx + j) : Nat) : Int)) rfl rfl (addI (by omega) (by omega)) ?_
     refine gT rfl ?_
     refine aConvV (n' := ((100 + (nx + j) : Nat) : Int)) rfl (by first | exact c64 (by omega) | exact c32w (by omega)) ?_
     refine gT rfl ?_
     refine aBinV (.bool false) rfl rfl (neF (by rw [htg])) ?_
     refine aN rfl rfl (by constructor) ?_
     refine sE ?_
     show AW _ (.cond _ _ _) _ _ _
     refine cF' rfl ?_
     show AWl _ _ _ _ _
     refine aN rfl rfl (by constructor) ?_
     refine aBinV (.int .i64 ((nx + j + 1 : Nat) : Int)) rfl rfl (addI (by omega) (by omega)) ?_
     refine aN rfl rfl (by constructor) ?_
     refine sE ?_
     show AWl _ _ _ _ _
     iterate 3 refine aN rfl rfl (by constructor) ?_
     refine sE ?_
     exact ⟨_, by omega, (j + 1), rfl, by omega, congrArg (Value.int .i64) (wi _ (by omega)), congrArg (Value.int .i64) (by omega), (st.sel [0, 1, 2, 3, 4] (by decide))⟩
    ·have hjz : ¬ j < zs.length := of_decide_eq_false h11
     obtain rfl : j = zs.length := by omega
     show AWl _ _ _ _ _
     iterate 3 refine aN rfl rfl (by constructor) ?_
     refine gF rfl (by decide) ?_
     refine gF rfl (by decide) ?_
     refine gF rfl (by decide) ?_
     iterate 2 refine aN rfl rfl (by constructor) ?_
     refine gT rfl ?_
     refine aN rfl rfl (by constructor) ?_
     refine gT rfl ?_
     refine aBinV (.bool (decide (nx + zs.length < 16))) rfl rfl (by exact congrArg (fun q => some (Value.bool q)) (decide_eq_decide.2 (by omega))) ?_
     refine gT rfl ?_
     refine aN rfl rfl (by constructor) ?_
     refine gCase 96 rfl (fun h12 => ?_) (fun h12 => ?_)
     ·refine gT rfl ?_
      refine aN rfl rfl (by constructor) ?_
      refine gT rfl ?_
      refine aIxAN rfl rfl (by have := of_decide_eq_true (p := nx + zs.length < 16) (by assumption); omega) ?_
      refine gT rfl ?_
      refine aLd st 3 rfl rfl (cm_at (p := false) (of_decide_eq_true (by assumption)) (Bool.eq_false_iff.2 fun hq => (by
       rcases (came_step hc hR _ (of_decide_eq_true (by assumption))).1 hq with h | h
       ·exact hnm1 h
       ·omega))) (by constructor) ?_
      refine gT rfl ?_
      iterate 3 refine aN rfl rfl (by constructor) ?_
      refine gT rfl ?_
      refine aN rfl rfl (by constructor) ?_
      refine gT rfl ?_
      refine aC (next_call (st.get (j := 0) rfl)) fun v104 H13 ⟨hv, st1⟩ => ?_
      subst hv
      replace st := st.call st1 rfl
      clear st1
      refine gT rfl ?_
      refine aN rfl rfl (by constructor) ?_
      refine gT rfl ?_
      refine aN rfl rfl (by constructor) ?_
      refine gT rfl ?_
      refine aConvV (n' := ((nx + zs.length : Nat) : Int)) rfl (by first | exact c64 (by omega) | exact c32w (by omega)) ?_
      refine gT rfl ?_
      refine aBinV (.int .u32 (IntKind.u32.wrap (F + ((nx + zs.length : Nat) : Int)))) rfl rfl rfl ?_
      refine gT rfl ?_
      refine aBinV (.bool false) rfl rfl (neF rfl) ?_
      refine aN rfl rfl (by constructor) ?_
      refine sE ?_
      show AW _ (.cond _ _ _) _ _ _
      refine cF' rfl ?_
      show AWl _ _ _ _ _
      iterate 3 refine aN rfl rfl (by constructor) ?_
      refine sE ?_
      exact ⟨_, by omega, (i + 1), (nx + zs.length), hs1, ho1, rb1, (fun j => decide (j = k) || cm j), rfl, by omega, came_step hc hR, hnm1, h151, hn16, by omega, rfl, congrArg (Value.int .i64) (wi _ (by omega)), (st.sel [0, 1, 2, 3] (by decide))⟩
     ·refine gF rfl (by decide) ?_
      refine gF rfl (by decide) ?_
      refine gF rfl (by decide) ?_
      refine gT rfl ?_
      iterate 3 refine aN rfl rfl (by constructor) ?_
      refine gT rfl ?_
      refine aN rfl rfl (by constructor) ?_
      refine gT rfl ?_
      refine aC (next_call (st.get (j := 0) rfl)) fun v104 H14 ⟨hv, st1⟩ => ?_
      subst hv
      replace st := st.call st1 rfl
      clear st1
      refine gT rfl ?_
      refine aN rfl rfl (by constructor) ?_
      refine gT rfl ?_
      refine aN rfl rfl (by constructor) ?_
      refine gT rfl ?_
      refine aConvV (n' := ((nx + zs.length : Nat) : Int)) rfl (by first | exact c64 (by omega) | exact c32w (by omega)) ?_
      refine gT rfl ?_
      refine aBinV (.int .u32 (IntKind.u32.wrap (F + ((nx + zs.length : Nat) : Int)))) rfl rfl rfl ?_
      refine gT rfl ?_
      refine aBinV (.bool false) rfl rfl (neF rfl) ?_
      refine aN rfl rfl (by constructor) ?_
      refine sE ?_
      show AW _ (.cond _ _ _) _ _ _
      refine cF' rfl ?_
      show AWl _ _ _ _ _
      iterate 3 refine aN rfl rfl (by constructor) ?_
      refine sE ?_
      exact ⟨_, by omega, (i + 1), (nx + zs.length), hs1, ho1, rb1, (fun j => decide (j = k) || cm j), rfl, by omega, came_step hc hR, hnm1, h151, hn16, by omega, rfl, congrArg (Value.int .i64) (wi _ (by omega)), (st.sel [0, 1, 2, 3] (by decide))⟩
   ·have h9n : (cm k) = true := Eq.mp (Bool.not_eq_false' _) h9
    refine gF rfl (by decide) ?_
    refine gF rfl (by decide) ?_
    refine gF rfl (by decide) ?_
    iterate 2 refine aN rfl rfl (by constructor) ?_
    refine sE ?_
    show AWl _ _ _ _ _
    refine aN rfl rfl (by constructor) ?_
    refine aIxAN rfl rfl (by omega) ?_
    refine aStAt st 4 rfl rfl rfl rfl rfl (by rw [cm_len]; omega) cm_set fun H15 st => ?_
    refine sE ?_
    show AWl _ _ _ _ _
    refine aN rfl rfl (by constructor) ?_
    refine sE ?_
    show AW _ (.loop _) _ _ _
    refine AW_loopN (fun m t1 H1 => ∃ (j : Nat), m = zs.length - j ∧ (j ≤ zs.length) ∧ t1 13 = .int .i64 (j : Int) ∧ t1 7 = .int .i64 ((nx + j : Nat) : Int) ∧ Stt [] H H1 [⟨some b18, true, ⟨true, 64, [.string ⟨#[]⟩, .string ⟨#[116]⟩, .bool false, .bool false, .bool false, .int .i64 8192, .int .i64 65536, .int .i64 65536, .bool true, .bool true, .slice none 0 0, .int .u32 (IntKind.u32.wrap (F + (((nx + zs.length) : Nat) : Int))), .int .u32 1, .int .u32 0, accV ho1 hs1.length 14, .slice none 0 0, .bool false, accV rb1 (nx + zs.length) 8]⟩⟩, ⟨ho1, true, ⟨true, 37, hs1.flatMap (rdE F)⟩⟩, ⟨rb1, true, ⟨true, 41, (List.range (nx + zs.length)).flatMap trE⟩⟩, ⟨some b6, true, ⟨true, 30, cmL (fun j => decide (j = k) || cm j)⟩⟩, ⟨ot, true, ⟨true, 41, zs.flatMap tkE⟩⟩]) _ ⟨0, rfl, Nat.zero_le _, rfl, rfl, (st.sel [0, 1, 2, 4, 3] (by decide))⟩ [4, 7, 13, 59, 60, 61, 62, 63, 64, 65, 66, 67, 68, 69, 70, 71, 72, 73, 74, 75, 76, 77, 78, 79, 80, 81, 82, 83, 84, 85] (by decide) ?_
    rintro m t1 H1 hk hI
    obtain ⟨j, rfl, hj, ht13, ht7, st⟩ := hI
    obtain ⟨u, rfl⟩ : ∃ u, t1 = (upd (upd (mix [4, 7, 13, 59, 60, 61, 62, 63, 64, 65, 66, 67, 68, 69, 70, 71, 72, 73, 74, 75, 76, 77, 78, 79, 80, 81, 82, 83, 84, 85] _ u) (some 13) _) (some 7) _) := ⟨t1, by rw [← hk, upd_self ht13, upd_self ht7]⟩
    clear hk ht13 ht7
    show AWl _ _ _ _ _
    refine aN rfl rfl (by constructor) ?_
    refine aMovA rfl ?_
    refine aLen (st.rowAcc 4 rfl (by decide) (by exact flat_len' tkE_len _)) rfl ?_
    refine aBinV (.bool (decide (j < zs.length))) rfl rfl (by exact congrArg (fun q => some (Value.bool q)) (decide_eq_decide.2 (by omega))) ?_
    refine sE ?_
    show AW _ (.cond _ _ _) _ _ _
    refine cC' rfl (fun h16 => ?_) (fun h16 => ?_)
    ·have hjz : j < zs.length := of_decide_eq_true h16
     show AWl _ _ _ _ _
     refine aN rfl rfl (by constructor) ?_
     refine aBinV (.bool false) rfl rfl (gtF (by omega)) ?_
     refine aN rfl rfl (by constructor) ?_
     refine gT rfl ?_
     refine aN rfl rfl (by constructor) ?_
     refine gT rfl ?_
     refine aIxAN rfl rfl (by omega) ?_
     refine gT rfl ?_
     refine aLd st 3 rfl rfl (cm_at (p := true) (by omega) ((came_step hc hR (nx + j) (by omega)).2 (.inr (by omega)))) (by constructor) ?_
     refine gT rfl ?_
     iterate 3 refine aN rfl rfl (by constructor) ?_
     refine gT rfl ?_
     refine aMovA rfl ?_
     refine gT rfl ?_
     refine aN rfl rfl (by constructor) ?_
     refine gT rfl ?_
     refine aIxE tkE_len (0, undef) (l := zs) (st.rowAcc 4 rfl (by decide) (by exact flat_len' tkE_len _)) rfl rfl (by omega) fun b76 o76 g76 => ?_
     rw [Int.toNat_natCast] at g76
     have htg := zs_tag (d := (0, undef)) hz hjz
     refine gT rfl ?_
     refine aN rfl rfl (by constructor) ?_
     refine gT rfl ?_
     refine aLdP g76 0 rfl (v := .int .u32 ((100 + (zs.getD j (0, undef)).1 : Nat) : Int)) rfl (by constructor) (by decide) ?_
     refine gT rfl ?_
     refine aN rfl rfl (by constructor) ?_
     refine gT rfl ?_
     refine aBinV (.int .i64 ((100 + (nx + j) : Nat) : Int)) rfl rfl (addI (by omega) (by omega)) ?_
     refine gT rfl ?_
     refine aConvV (n' := ((100 + (nx + j) : Nat) : Int)) rfl (by first | exact c64 (by omega) | exact c32w (by omega)) ?_
     refine gT rfl ?_
     refine aBinV (.bool false) rfl rfl (neF (by rw [htg])) ?_
     refine aN rfl rfl (by constructor) ?_
     refine sE ?_
     show AW _ (.cond _ _ _) _ _ _
     refine cF' rfl ?_
     show AWl _ _ _ _ _
     refine aN rfl rfl (by constructor) ?_
     refine aBinV (.int .i64 ((nx + j + 1 : Nat) : Int)) rfl rfl (addI (by omega) (by omega)) ?_
     refine aN rfl rfl (by constructor) ?_
     refine sE ?_
     show AWl _ _ _ _ _
     iterate 3 refine aN rfl rfl (by constructor) ?_
     refine sE ?_
     exact ⟨_, by omega, (j + 1), rfl, by omega, congrArg (Value.int .i64) (wi _ (by omega)), congrArg (Value.int .i64) (by omega), (st.sel [0, 1, 2, 3, 4] (by decide))⟩
    ·have hjz : ¬ j < zs.length := of_decide_eq_false h16
     obtain rfl : j = zs.length := by omega
     show AWl _ _ _ _ _
     iterate 3 refine aN rfl rfl (by constructor) ?_
     refine gT rfl ?_
     refine aMovA rfl ?_
     refine gT rfl ?_
     refine aLen (st.rowAcc 4 rfl (by decide) (by exact flat_len' tkE_len _)) rfl ?_
     refine gT rfl ?_
     have hct := h9n
     have hz0 : zs = [] := hzn (by have := (hc k (by omega)).1 hct; exact this.elim .inr .inl)
     refine aBinV (.bool false) rfl rfl (neF (by rw [hz0]; rfl)) ?_
     iterate 2 refine aN rfl rfl (by constructor) ?_
     refine gT rfl ?_
     refine aN rfl rfl (by constructor) ?_
     refine gT rfl ?_
     refine aBinV (.bool (decide (nx + zs.length < 16))) rfl rfl (by exact congrArg (fun q => some (Value.bool q)) (decide_eq_decide.2 (by omega))) ?_
     refine gT rfl ?_
     refine aN rfl rfl (by constructor) ?_
     refine gCase 96 rfl (fun h17 => ?_) (fun h17 => ?_)
     ·refine gT rfl ?_
      refine aN rfl rfl (by constructor) ?_
      refine gT rfl ?_
      refine aIxAN rfl rfl (by have := of_decide_eq_true (p := nx + zs.length < 16) (by assumption); omega) ?_
      refine gT rfl ?_
      refine aLd st 3 rfl rfl (cm_at (p := false) (of_decide_eq_true (by assumption)) (Bool.eq_false_iff.2 fun hq => (by
       rcases (came_step hc hR _ (of_decide_eq_true (by assumption))).1 hq with h | h
       ·exact hnm1 h
       ·omega))) (by constructor) ?_
      refine gT rfl ?_
      iterate 3 refine aN rfl rfl (by constructor) ?_
      refine gT rfl ?_
      refine aN rfl rfl (by constructor) ?_
      refine gT rfl ?_
      refine aC (next_call (st.get (j := 0) rfl)) fun v104 H18 ⟨hv, st1⟩ => ?_
      subst hv
      replace st := st.call st1 rfl
      clear st1
      refine gT rfl ?_
      refine aN rfl rfl (by constructor) ?_
      refine gT rfl ?_
      refine aN rfl rfl (by constructor) ?_
      refine gT rfl ?_
      refine aConvV (n' := ((nx + zs.length : Nat) : Int)) rfl (by first | exact c64 (by omega) | exact c32w (by omega)) ?_
      refine gT rfl ?_
      refine aBinV (.int .u32 (IntKind.u32.wrap (F + ((nx + zs.length : Nat) : Int)))) rfl rfl rfl ?_
      refine gT rfl ?_
      refine aBinV (.bool false) rfl rfl (neF rfl) ?_
      refine aN rfl rfl (by constructor) ?_
      refine sE ?_
      show AW _ (.cond _ _ _) _ _ _
      refine cF' rfl ?_
      show AWl _ _ _ _ _
      iterate 3 refine aN rfl rfl (by constructor) ?_
      refine sE ?_
      exact ⟨_, by omega, (i + 1), (nx + zs.length), hs1, ho1, rb1, (fun j => decide (j = k) || cm j), rfl, by omega, came_step hc hR, hnm1, h151, hn16, by omega, rfl, congrArg (Value.int .i64) (wi _ (by omega)), (st.sel [0, 1, 2, 3] (by decide))⟩
     ·refine gF rfl (by decide) ?_
      refine gF rfl (by decide) ?_
      refine gF rfl (by decide) ?_
      refine gT rfl ?_
      iterate 3 refine aN rfl rfl (by constructor) ?_
      refine gT rfl ?_
      refine aN rfl rfl (by constructor) ?_
      refine gT rfl ?_
      refine aC (next_call (st.get (j := 0) rfl)) fun v104 H19 ⟨hv, st1⟩ => ?_
      subst hv
      replace st := st.call st1 rfl
      clear st1
      refine gT rfl ?_
      refine aN rfl rfl (by constructor) ?_
      refine gT rfl ?_
      refine aN rfl rfl (by constructor) ?_
      refine gT rfl ?_
      refine aConvV (n' := ((nx + zs.length : Nat) : Int)) rfl (by first | exact c64 (by omega) | exact c32w (by omega)) ?_
      refine gT rfl ?_
      refine aBinV (.int .u32 (IntKind.u32.wrap (F + ((nx + zs.length : Nat) : Int)))) rfl rfl rfl ?_
      refine gT rfl ?_
      refine aBinV (.bool false) rfl rfl (neF rfl) ?_
      refine aN rfl rfl (by constructor) ?_
      refine sE ?_
      show AW _ (.cond _ _ _) _ _ _
      refine cF' rfl ?_
      show AWl _ _ _ _ _
      iterate 3 refine aN rfl rfl (by constructor) ?_
      refine sE ?_
      exact ⟨_, by omega, (i + 1), (nx + zs.length), hs1, ho1, rb1, (fun j => decide (j = k) || cm j), rfl, by omega, came_step hc hR, hnm1, h151, hn16, by omega, rfl, congrArg (Value.int .i64) (wi _ (by omega)), (st.sel [0, 1, 2, 3] (by decide))⟩
  ·show AWl _ _ _ _ _
   refine aN rfl rfl (by constructor) ?_
   refine sE ?_
   refine ⟨_, out1 (r_tmp rfl (by constructor)), ?_⟩
   rfl
 ·refine gF rfl (by decide) ?_
  refine gF rfl (by decide) ?_
  refine aN rfl rfl (by constructor) ?_
  refine sE ?_
  show AW _ (.cond _ _ _) _ _ _
  refine cF' rfl ?_
  show AWl _ _ _ _ _
  refine aN rfl rfl (by constructor) ?_
  refine sE ?_
  refine ⟨_, out1 (r_tmp rfl (by constructor)), ?_⟩
  rfl
theorem args2 {P : Program} {H : Hp} {B D : Nat} {a b : TypeId} {xs : List Value} (h : datArgs P H B D [a, b] xs) : ∃ x0 x1, xs = [x0, x1] ∧ datV P H B D a x0 ∧ datV P H B D b x1 := by
  match xs, h with
  | [x0, x1], ⟨d0, d1, _⟩ => exact ⟨x0, x1, rfl, d0, d1⟩
theorem sessOrders_law {H : Hp} {B : Nat} {xs : List Value} (hro : Ro H) (hd : datArgs Try.prog H B 8 [22, 23] xs) : ACalls Try.prog 3 xs H fun v _ => v = .bool true := by
  obtain ⟨x0, x1, rfl, d0, d1⟩ := args2 hd
  obtain ⟨n, rfl, wn⟩ := arg_int (k := .u32) (by kernel_rfl) d0
  obtain ⟨k, hx, wk, lk, _⟩ := arg_ints (e := 5) (k := .u8) (by kernel_rfl) (by kernel_rfl) (by kernel_rfl) d1
  exact orders_call (r32 wn) hx (wf_bytes wk)

end Go.Proofs.Ytloeadlmcdddnaa.Abs
