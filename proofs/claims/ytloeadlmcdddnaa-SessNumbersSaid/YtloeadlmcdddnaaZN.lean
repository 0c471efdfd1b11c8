/- SessNumbers. -/
import Derived.Test.YtloeadlmcdddnaaZM
import Derived.Test.YtloeadlmcdddnaaZ6
import Derived.Test.YtloeadlmcdddnaaZ7
set_option linter.unusedVariables false
set_option linter.unusedSimpArgs false
set_option maxRecDepth 100000
namespace Go.Proofs.Ytloeadlmcdddnaa.Abs
open Go Go.RowKit
variable {tg sg bu : Int}
theorem wf_62 {i : Int} (hi : 0 ≤ i ∧ i < 4294967296) : ({ ({ op := 62, fl := 0, res := 0, st := 0, lun := 0, tag := i, w0 := 0, w1 := 0, w2 := 0, w3 := 0, w4 := 0, w5 := 0, w6 := 0, data := [112, 105, 110, 103] } : Pd) with op := 62 } : Pd).wf := by
  refine ⟨⟨(show (0 : Int) ≤ 62 ∧ (62 : Int) < 256 by decide), (show (0 : Int) ≤ 0 ∧ (0 : Int) < 256 by decide), (show (0 : Int) ≤ 0 ∧ (0 : Int) < 256 by decide), (show (0 : Int) ≤ 0 ∧ (0 : Int) < 256 by decide), (show (0 : Int) ≤ 0 ∧ (0 : Int) < 256 by decide)⟩, hi, ?_, by simp only [byteL_cons, byteL_nil, and_true]; decide, (show 4 ≤ 140737488351232 by decide)⟩
  intro w hw
  simp only [Pd.ws, List.mem_cons, List.not_mem_nil, or_false] at hw
  rcases hw with rfl | rfl | rfl | rfl | rfl | rfl | rfl
  all_goals exact (show (0 : Int) ≤ 0 ∧ (0 : Int) < 4294967296 by decide)
theorem numbers_call {H : Hp} {x z : Value} {ks : List Int} {cs : List Value} {n : Nat} (hk : Sl H 1 ks.length (ks.map (Value.int .u8)) x) (hkb : ByteL ks) (hz : Sl H 14 n cs z) :
  ACalls Try.prog 9 [x, z] H (fun v _ => v = .bool true) := by
 refine acallsW Try.func9 f9_ok (Nat.le_of_ble_eq_true rfl) fun hw => ?_
 have st : Stt [] H H [] := Stt.start hw
 obtain ⟨pk, ck, rfl⟩ := hk.shape
 obtain ⟨pz, cz, rfl⟩ := hz.shape
 have hcl := hz.1
 unfold f9c
 show AWl _ _ _ _ _
 refine aN rfl rfl (by constructor) ?_
 refine sE ?_
 show AWl _ _ _ _ _
 refine aC (awake_call) fun v20 H1 ⟨hv, st1⟩ => ?_
 subst hv
 replace st := st.call st1 rfl
 clear st1
 refine aN rfl rfl (by constructor) ?_
 refine sE ?_
 show AW _ (.cond _ _ _) _ _ _
 refine cF' rfl ?_
 show AWl _ _ _ _ _
 refine aC (plain_call) fun v22 H2 ⟨hv, st1⟩ => ?_
 subst hv
 replace st := st.call st1 rfl
 clear st1
 refine aC (new_call) fun v23 H3 ⟨b23, hv, st1⟩ => ?_
 subst hv
 replace st := st.call st1 rfl
 clear st1
 refine aN rfl rfl (by constructor) ?_
 refine sE ?_
 show AWl _ _ _ _ _
 refine aN rfl rfl (by constructor) ?_
 refine sE ?_
 show AWl _ _ _ _ _
 refine aN rfl rfl (by constructor) ?_
 refine sE ?_
 show AW _ (.loop _) _ _ _
 refine AW_loopN (fun m t1 H1 => ∃ (i : Nat) (cm st0 : Int), m = ks.length - i ∧ (i ≤ ks.length) ∧ t1 7 = .int .i64 (i : Int) ∧ t1 6 = .int .u32 st0 ∧ Stt [] H H1 [⟨some b23, true, ⟨true, 64, [.string ⟨#[]⟩, .string ⟨#[116]⟩, .bool false, .bool false, .bool false, .int .i64 8192, .int .i64 65536, .int .i64 65536, .bool true, .bool true, .slice none 0 0, .int .u32 cm, .int .u32 st0, .int .u32 0, .slice none 0 0, .slice none 0 0, .bool false, .slice none 0 0]⟩⟩]) _ ⟨0, 1, 1, rfl, Nat.zero_le _, rfl, rfl, (st.sel [0] (by decide))⟩ [4, 6, 7, 8, 9, 10, 11, 24, 25, 26, 27, 28, 29, 30, 31, 32, 33, 34, 35, 36, 37, 38, 39, 40, 41, 42, 43, 44, 45, 46, 47, 48, 49, 50, 51, 52, 53, 54, 55, 56, 57, 58, 59, 60, 61, 62, 63, 64, 65, 66, 67, 68, 69, 70, 71, 72, 73, 74, 75, 76, 77, 78, 79, 80, 81, 82, 83, 84, 85, 86, 87, 88, 89, 90, 91, 92, 93, 94, 95, 96, 97, 98, 99, 100, 101, 102, 103, 104, 105, 106, 107, 108, 109, 110, 111, 112, 113, 114, 115, 116, 117, 118, 119, 120, 121, 122, 123, 124, 125, 126, 127, 128, 129, 130, 131] (by decide) ?_
 rintro m t1 H1 hk hI
 obtain ⟨i, cm, st0, rfl, hi0, ht7, ht6, st⟩ := hI
 obtain ⟨u, rfl⟩ : ∃ u, t1 = (upd (upd (mix [4, 6, 7, 8, 9, 10, 11, 24, 25, 26, 27, 28, 29, 30, 31, 32, 33, 34, 35, 36, 37, 38, 39, 40, 41, 42, 43, 44, 45, 46, 47, 48, 49, 50, 51, 52, 53, 54, 55, 56, 57, 58, 59, 60, 61, 62, 63, 64, 65, 66, 67, 68, 69, 70, 71, 72, 73, 74, 75, 76, 77, 78, 79, 80, 81, 82, 83, 84, 85, 86, 87, 88, 89, 90, 91, 92, 93, 94, 95, 96, 97, 98, 99, 100, 101, 102, 103, 104, 105, 106, 107, 108, 109, 110, 111, 112, 113, 114, 115, 116, 117, 118, 119, 120, 121, 122, 123, 124, 125, 126, 127, 128, 129, 130, 131] _ u) (some 7) _) (some 6) _) := ⟨t1, by rw [← hk, upd_self ht7, upd_self ht6]⟩
 clear hk ht7 ht6
 show AWl _ _ _ _ _
 refine aN rfl rfl (by constructor) ?_
 refine aMovV (Value.slice pk ks.length ck) rfl ?_
 refine aLen (st.slc hk) rfl ?_
 refine aBinV (.bool (decide (i < ks.length))) rfl rfl (by exact congrArg (fun q => some (Value.bool q)) (decide_eq_decide.2 (by omega))) ?_
 refine aN rfl rfl (by constructor) ?_
 refine gCase 28 rfl (fun h4 => ?_) (fun h4 => ?_)
 ·refine gT rfl ?_
  refine aN rfl rfl (by constructor) ?_
  refine gT rfl ?_
  refine aBinV (.bool (decide (i < 60))) rfl rfl (by exact congrArg (fun q => some (Value.bool q)) (decide_eq_decide.2 (by omega))) ?_
  refine aN rfl rfl (by constructor) ?_
  refine sE ?_
  show AW _ (.cond _ _ _) _ _ _
  refine cC' rfl (fun h5 => ?_) (fun h5 => ?_)
  ·have hi : i < 60 ∧ i < ks.length := by first | (refine ⟨?_, ?_⟩ <;> (apply of_decide_eq_true; assumption)) | (simp_all)
   show AWl _ _ _ _ _
   refine aN rfl rfl (by constructor) ?_
   refine aConvV (n' := (i : Int)) rfl (by first | exact c64 (by omega) | exact c32w (by omega)) ?_
   refine aLit st rfl (by repeat constructor) fun b36 H6 st => ?_
   refine aSame st rfl (j := 0) rfl (by decide) ?_
   refine aBld rfl (by repeat constructor) ?_
   refine aNewP st rfl rfl (by repeat constructor) fun b8 H7 st => ?_
   refine aSt st 0 rfl rfl rfl rfl (by first | rfl | simp [cellsOf, *]) (by first | decide | (simp [*]; done) | (simp [k8]; done)) (by repeat constructor) fun H8 st => ?_
   refine sE ?_
   show AWl _ _ _ _ _
   refine aMovV (Value.slice pk ks.length ck) rfl ?_
   refine aN rfl rfl (by constructor) ?_
   refine aIxB (st.slc hk) rfl rfl (by omega) fun b41 o41 g41 => ?_
   rw [Int.toNat_natCast] at g41
   refine aLdG rfl g41 ?_
   refine aN (v := .int .u8 ((ks.getD i 0).tmod 4)) rfl rfl (by constructor) ?_
   refine sE ?_
   show AWl _ _ _ _ _
   iterate 2 refine aN rfl rfl (by constructor) ?_
   refine sE ?_
   show AW _ (.cond _ _ _) _ _ _
   refine cC' rfl (fun h9 => ?_) (fun h9 => ?_)
   ·show AWl _ _ _ _ _
    refine aN rfl rfl (by constructor) ?_
    refine aSt st 0 rfl rfl rfl rfl (by first | rfl | simp [cellsOf, *]) (by first | decide | (simp [*]; done) | (simp [k8]; done)) (by repeat constructor) fun H10 st => ?_
    refine sE ?_
    show AWl _ _ _ _ _
    refine aLit st rfl (by repeat constructor) fun b47 H11 st => ?_
    refine aSame st rfl (j := 0) rfl (by decide) ?_
    refine aN rfl rfl (by constructor) ?_
    refine aSt st 1 rfl rfl rfl rfl (by first | rfl | simp [cellsOf, *]) (by first | decide | (simp [*]; done) | (simp [k8]; done)) (by repeat constructor) fun H12 st => ?_
    refine sE ?_
    show AWl _ _ _ _ _
    refine aN rfl rfl (by constructor) ?_
    refine aLdA st 1 rfl rfl (by first | decide | simp [*]) (by repeat constructor) ?_
    refine aC (in_text (st.get (j := 3) rfl) (st.rowAll 0 rfl rfl) (acc_apart (ob := some b47) (st.ne 0 3 rfl rfl (by decide)))) fun v63 H13 ⟨c63, bo63, hv, st1⟩ => ?_
    subst hv
    replace st := st.callX 3 rfl st1 rfl
    clear st1
    iterate 5 refine aN rfl rfl (by constructor) ?_
    refine sE ?_
    refine AW_cutK (b := .seq (.seq (.plan _) _) _) (fun t1 H1 => ∃ (oq : Nat) (cm1 p0 p1 p2 p3 p4 p5 q0 q4 q5 q6 : Int) (xv : Value), t1 9 = .slice (some ⟨oq, 0, none⟩) 1 14 ∧ Stt [] H H1 [⟨some b23, true, ⟨true, 64, [.string ⟨#[]⟩, .string ⟨#[116]⟩, .bool false, .bool false, .bool false, .int .i64 8192, .int .i64 65536, .int .i64 65536, .bool true, .bool true, .slice none 0 0, .int .u32 cm1, .int .u32 (IntKind.u32.wrap (st0 + 1)), .int .u32 0, .slice none 0 0, .slice none 0 0, .bool false, .slice none 0 0]⟩⟩, ⟨some oq, true, ⟨true, 37, [.int .u8 p0, .int .u8 p1, .int .u8 p2, .int .u8 p3, .int .u8 p4, .int .u32 p5, .int .u32 q0, .int .u32 st0, .int .u32 cm1, .int .u32 (IntKind.u32.wrap (IntKind.u32.wrap (cm1 + 16) - 1)), .int .u32 q4, .int .u32 q5, .int .u32 q6, xv]⟩⟩]) [9, 11, 66, 67, 68, 69, 70, 71, 72, 73, 74, 75, 76, 77, 78, 79, 80, 81] (by decide) ?_ fun t1 H1 hk hI => ?_
    ·show AWl _ _ _ _ _
     refine aN rfl rfl (by constructor) ?_
     refine sE ?_
     show AW _ (.loop _) _ _ _
     refine AW_loopN (fun m t1 H1 => m = 0 ∧ t1 11 = .int .i64 0 ∧ t1 9 = .slice (some ⟨c63, 0, none⟩) 1 14 ∧ Stt [] H H1 [⟨some b23, true, ⟨true, 64, [.string ⟨#[]⟩, .string ⟨#[116]⟩, .bool false, .bool false, .bool false, .int .i64 8192, .int .i64 65536, .int .i64 65536, .bool true, .bool true, .slice none 0 0, .int .u32 cm, .int .u32 (IntKind.u32.wrap (st0 + 1)), .int .u32 0, .slice none 0 0, .slice none 0 0, .bool false, .slice none 0 0]⟩⟩, ⟨some c63, true, ⟨true, 37, [.int .u8 36, .int .u8 128, .int .u8 0, .int .u8 0, .int .u8 0, .int .u32 (i : Int), .int .u32 0, .int .u32 st0, .int .u32 cm, .int .u32 (IntKind.u32.wrap (IntKind.u32.wrap (cm + 16) - 1)), .int .u32 0, .int .u32 0, .int .u32 0, .slice (some ⟨bo63, 0, none⟩) 16 1]⟩⟩]) 0 ⟨rfl, rfl, rfl, (st.sel [0, 1] (by decide))⟩ [9, 11, 66, 67, 68, 69, 70, 71, 72, 73, 74, 75, 76, 77, 78, 79, 80, 81] (by decide) ?_
     rintro m t1 H1 hk hI
     obtain ⟨rfl, ht11, ht9, st⟩ := hI
     obtain ⟨u, rfl⟩ : ∃ u, t1 = (upd (upd (mix [9, 11, 66, 67, 68, 69, 70, 71, 72, 73, 74, 75, 76, 77, 78, 79, 80, 81] _ u) (some 11) _) (some 9) _) := ⟨t1, by rw [← hk, upd_self ht11, upd_self ht9]⟩
     clear hk ht11 ht9
     show AWl _ _ _ _ _
     iterate 2 refine aN rfl rfl (by constructor) ?_
     refine aN (v := .int .i64 0) rfl rfl (by constructor) ?_
     refine aBinV (.bool false) rfl rfl rfl ?_
     refine sE ?_
     show AW _ (.cond _ _ _) _ _ _
     refine cF' rfl ?_
     exact ⟨c63, cm, 36, 128, 0, 0, 0, (i : Int), 0, 0, 0, 0, (.slice (some ⟨bo63, 0, none⟩) 16 1), rfl, (st.sel [0, 1] (by decide))⟩
    ·obtain ⟨oq, cm1, p0, p1, p2, p3, p4, p5, q0, q4, q5, q6, xv, ht9, st⟩ := hI
     obtain ⟨u, rfl⟩ : ∃ u, t1 = (upd (mix [9, 11, 66, 67, 68, 69, 70, 71, 72, 73, 74, 75, 76, 77, 78, 79, 80, 81] _ u) (some 9) _) := ⟨t1, by rw [← hk, upd_self ht9]⟩
     clear hk ht9
     show AWp _ _ _ _ _
     refine aN rfl rfl (by constructor) ?_
     refine aN (v := .int .i64 1) rfl rfl (by constructor) ?_
     refine aBinV (.bool false) rfl rfl rfl ?_
     refine aN rfl rfl (by constructor) ?_
     refine gT rfl ?_
     refine aN rfl rfl (by constructor) ?_
     refine gT rfl ?_
     refine aN rfl rfl (by constructor) ?_
     refine gT rfl ?_
     refine aN rfl rfl (by constructor) ?_
     refine gT rfl ?_
     refine aN rfl rfl (by constructor) ?_
     refine gT rfl ?_
     refine aLd st 1 rfl rfl rfl (by constructor) ?_
     refine gT rfl ?_
     refine aN rfl rfl (by constructor) ?_
     refine gT rfl ?_
     refine aBinV (.bool false) rfl rfl (neF rfl) ?_
     iterate 2 refine aN rfl rfl (by constructor) ?_
     refine gT rfl ?_
     refine aN rfl rfl (by constructor) ?_
     refine gT rfl ?_
     refine aN rfl rfl (by constructor) ?_
     refine gT rfl ?_
     refine aN rfl rfl (by constructor) ?_
     refine gT rfl ?_
     refine aN rfl rfl (by constructor) ?_
     refine gT rfl ?_
     refine aLd st 1 rfl rfl rfl (by constructor) ?_
     refine gT rfl ?_
     refine aN rfl rfl (by constructor) ?_
     refine ⟨?_, trivial⟩
     refine gT rfl ?_
     refine aC (next_call (st.get (j := 0) rfl)) fun v101 H14 ⟨hv, st1⟩ => ?_
     subst hv
     replace st := st.call st1 rfl
     clear st1
     refine ⟨⟨⟨some false, .bool false, (h_Ld st 1 rfl rfl rfl (by constructor))⟩, ⟨some false, .bool false, (h_Ld st 1 rfl rfl rfl (by constructor))⟩, trivial⟩, ?_⟩
     refine gT rfl ?_
     refine aBinV (.bool false) rfl rfl (neF rfl) ?_
     iterate 2 refine aN rfl rfl (by constructor) ?_
     refine gT rfl ?_
     refine aN rfl rfl (by constructor) ?_
     refine gT rfl ?_
     refine aN rfl rfl (by constructor) ?_
     refine gT rfl ?_
     refine aN rfl rfl (by constructor) ?_
     refine gT rfl ?_
     refine aN rfl rfl (by constructor) ?_
     refine gT rfl ?_
     refine aLd st 1 rfl rfl rfl (by constructor) ?_
     refine gT rfl ?_
     refine aN rfl rfl (by constructor) ?_
     refine ⟨?_, trivial⟩
     refine gT rfl ?_
     refine aC (next_call (st.get (j := 0) rfl)) fun v111 H15 ⟨hv, st1⟩ => ?_
     subst hv
     replace st := st.call st1 rfl
     clear st1
     refine ⟨⟨⟨some false, .bool false, (h_Ld st 1 rfl rfl rfl (by constructor))⟩, ⟨some false, .bool false, (h_Ld st 1 rfl rfl rfl (by constructor))⟩, ⟨some false, .bool false, (h_Ld st 1 rfl rfl rfl (by constructor))⟩, trivial⟩, ?_⟩
     refine gT rfl ?_
     refine aN rfl rfl (by constructor) ?_
     refine gT rfl ?_
     refine aBinV (.bool false) rfl rfl (neF (by rw [w32, w32, w32]; omega)) ?_
     refine aN rfl rfl (by constructor) ?_
     refine pE ?_
     show AW _ (.cond _ _ _) _ _ _
     refine cF' rfl ?_
     show AWl _ _ _ _ _
     iterate 3 refine aN rfl rfl (by constructor) ?_
     refine sE ?_
     show AWl _ _ _ _ _
     iterate 4 refine aN rfl rfl (by constructor) ?_
     refine aBld rfl (by repeat constructor) ?_
     refine aC (end_n (st.get (j := 0) rfl)) fun v122 H16 ⟨hv, st1⟩ => ?_
     subst hv
     replace st := st.callX 0 rfl st1 rfl
     clear st1
     refine aN (v := .int .i64 0) rfl rfl (by constructor) ?_
     refine aBinV (.bool false) rfl rfl rfl ?_
     refine aN rfl rfl (by constructor) ?_
     refine gT rfl ?_
     refine aN rfl rfl (by constructor) ?_
     refine gT rfl ?_
     refine aN rfl rfl (by constructor) ?_
     refine gT rfl ?_
     refine aN rfl rfl (by constructor) ?_
     refine gT rfl ?_
     refine aN rfl rfl (by constructor) ?_
     refine gT rfl ?_
     refine aC (forget_n (st.get (j := 0) rfl)) fun v130 H17 ⟨hv, st1⟩ => ?_
     subst hv
     replace st := st.callX 0 rfl st1 rfl
     clear st1
     refine aN rfl rfl (by constructor) ?_
     refine sE ?_
     show AW _ (.cond _ _ _) _ _ _
     refine cF' rfl ?_
     show AWl _ _ _ _ _
     iterate 3 refine aN rfl rfl (by constructor) ?_
     refine sE ?_
     exact ⟨_, by omega, (i + 1), cm1, (IntKind.u32.wrap (st0 + 1)), rfl, by omega, congrArg (Value.int .i64) (wi _ (by omega)), rfl, (st.sel [0] (by decide))⟩
   ·show AWl _ _ _ _ _
    iterate 2 refine aN rfl rfl (by constructor) ?_
    refine sE ?_
    show AW _ (.cond _ _ _) _ _ _
    refine cC' rfl (fun h18 => ?_) (fun h18 => ?_)
    ·show AWl _ _ _ _ _
     refine aN rfl rfl (by constructor) ?_
     refine aSt st 0 rfl rfl rfl rfl (by first | rfl | simp [cellsOf, *]) (by first | decide | (simp [*]; done) | (simp [k8]; done)) (by repeat constructor) fun H19 st => ?_
     refine sE ?_
     show AWl _ _ _ _ _
     refine aN rfl rfl (by constructor) ?_
     refine aLdA st 0 rfl rfl (by first | decide | simp [*]) (by repeat constructor) ?_
     refine aC (in_reject62 (p := { op := 62, fl := 0, res := 0, st := 0, lun := 0, tag := (i : Int), w0 := 0, w1 := 0, w2 := 0, w3 := 0, w4 := 0, w5 := 0, w6 := 0, data := [112, 105, 110, 103] }) (st.get (j := 2) rfl) (wf_62 (by omega)) (st.rowAll 1 rfl rfl) (acc_apart (ob := some b36) (st.ne 1 2 rfl rfl (by decide))) (show 4 ≤ 8192 by decide)) fun v63 H20 ⟨c63, bp63, zs63, hv, hz, st1⟩ => ?_
     subst hv
     replace st := st.callX 2 rfl st1 rfl
     clear st1
     iterate 5 refine aN rfl rfl (by constructor) ?_
     refine sE ?_
     refine AW_cutK (b := .seq (.seq (.plan _) _) _) (fun t1 H1 => ∃ (oq : Nat) (cm1 p0 p1 p2 p3 p4 p5 q0 q4 q5 q6 : Int) (xv : Value), t1 9 = .slice (some ⟨oq, 0, none⟩) 1 14 ∧ Stt [] H H1 [⟨some b23, true, ⟨true, 64, [.string ⟨#[]⟩, .string ⟨#[116]⟩, .bool false, .bool false, .bool false, .int .i64 8192, .int .i64 65536, .int .i64 65536, .bool true, .bool true, .slice none 0 0, .int .u32 cm1, .int .u32 (IntKind.u32.wrap (st0 + 1)), .int .u32 0, .slice none 0 0, .slice none 0 0, .bool false, .slice none 0 0]⟩⟩, ⟨some oq, true, ⟨true, 37, [.int .u8 p0, .int .u8 p1, .int .u8 p2, .int .u8 p3, .int .u8 p4, .int .u32 p5, .int .u32 q0, .int .u32 st0, .int .u32 cm1, .int .u32 (IntKind.u32.wrap (IntKind.u32.wrap (cm1 + 16) - 1)), .int .u32 q4, .int .u32 q5, .int .u32 q6, xv]⟩⟩]) [9, 11, 66, 67, 68, 69, 70, 71, 72, 73, 74, 75, 76, 77, 78, 79, 80, 81] (by decide) ?_ fun t1 H1 hk hI => ?_
     ·show AWl _ _ _ _ _
      refine aN rfl rfl (by constructor) ?_
      refine sE ?_
      show AW _ (.loop _) _ _ _
      refine AW_loopN (fun m t1 H1 => m = 0 ∧ t1 11 = .int .i64 0 ∧ t1 9 = .slice (some ⟨c63, 0, none⟩) 1 14 ∧ Stt [] H H1 [⟨some b23, true, ⟨true, 64, [.string ⟨#[]⟩, .string ⟨#[116]⟩, .bool false, .bool false, .bool false, .int .i64 8192, .int .i64 65536, .int .i64 65536, .bool true, .bool true, .slice none 0 0, .int .u32 cm, .int .u32 (IntKind.u32.wrap (st0 + 1)), .int .u32 0, .slice none 0 0, .slice none 0 0, .bool false, .slice none 0 0]⟩⟩, ⟨some c63, true, ⟨true, 37, [.int .u8 63, .int .u8 128, .int .u8 5, .int .u8 0, .int .u8 0, .int .u32 4294967295, .int .u32 0, .int .u32 st0, .int .u32 cm, .int .u32 (IntKind.u32.wrap (IntKind.u32.wrap (cm + 16) - 1)), .int .u32 0, .int .u32 0, .int .u32 0, .slice (some ⟨bp63, 0, none⟩) 48 1]⟩⟩]) 0 ⟨rfl, rfl, rfl, (st.sel [0, 1] (by decide))⟩ [9, 11, 66, 67, 68, 69, 70, 71, 72, 73, 74, 75, 76, 77, 78, 79, 80, 81] (by decide) ?_
      rintro m t1 H1 hk hI
      obtain ⟨rfl, ht11, ht9, st⟩ := hI
      obtain ⟨u, rfl⟩ : ∃ u, t1 = (upd (upd (mix [9, 11, 66, 67, 68, 69, 70, 71, 72, 73, 74, 75, 76, 77, 78, 79, 80, 81] _ u) (some 11) _) (some 9) _) := ⟨t1, by rw [← hk, upd_self ht11, upd_self ht9]⟩
      clear hk ht11 ht9
      show AWl _ _ _ _ _
      iterate 2 refine aN rfl rfl (by constructor) ?_
      refine aN (v := .int .i64 0) rfl rfl (by constructor) ?_
      refine aBinV (.bool false) rfl rfl rfl ?_
      refine sE ?_
      show AW _ (.cond _ _ _) _ _ _
      refine cF' rfl ?_
      exact ⟨c63, cm, 63, 128, 5, 0, 0, 4294967295, 0, 0, 0, 0, (.slice (some ⟨bp63, 0, none⟩) 48 1), rfl, (st.sel [0, 1] (by decide))⟩
     ·obtain ⟨oq, cm1, p0, p1, p2, p3, p4, p5, q0, q4, q5, q6, xv, ht9, st⟩ := hI
      obtain ⟨u, rfl⟩ : ∃ u, t1 = (upd (mix [9, 11, 66, 67, 68, 69, 70, 71, 72, 73, 74, 75, 76, 77, 78, 79, 80, 81] _ u) (some 9) _) := ⟨t1, by rw [← hk, upd_self ht9]⟩
      clear hk ht9
      show AWp _ _ _ _ _
      refine aN rfl rfl (by constructor) ?_
      refine aN (v := .int .i64 1) rfl rfl (by constructor) ?_
      refine aBinV (.bool false) rfl rfl rfl ?_
      refine aN rfl rfl (by constructor) ?_
      refine gT rfl ?_
      refine aN rfl rfl (by constructor) ?_
      refine gT rfl ?_
      refine aN rfl rfl (by constructor) ?_
      refine gT rfl ?_
      refine aN rfl rfl (by constructor) ?_
      refine gT rfl ?_
      refine aN rfl rfl (by constructor) ?_
      refine gT rfl ?_
      refine aLd st 1 rfl rfl rfl (by constructor) ?_
      refine gT rfl ?_
      refine aN rfl rfl (by constructor) ?_
      refine gT rfl ?_
      refine aBinV (.bool false) rfl rfl (neF rfl) ?_
      iterate 2 refine aN rfl rfl (by constructor) ?_
      refine gT rfl ?_
      refine aN rfl rfl (by constructor) ?_
      refine gT rfl ?_
      refine aN rfl rfl (by constructor) ?_
      refine gT rfl ?_
      refine aN rfl rfl (by constructor) ?_
      refine gT rfl ?_
      refine aN rfl rfl (by constructor) ?_
      refine gT rfl ?_
      refine aLd st 1 rfl rfl rfl (by constructor) ?_
      refine gT rfl ?_
      refine aN rfl rfl (by constructor) ?_
      refine ⟨?_, trivial⟩
      refine gT rfl ?_
      refine aC (next_call (st.get (j := 0) rfl)) fun v101 H21 ⟨hv, st1⟩ => ?_
      subst hv
      replace st := st.call st1 rfl
      clear st1
      refine ⟨⟨⟨some false, .bool false, (h_Ld st 1 rfl rfl rfl (by constructor))⟩, ⟨some false, .bool false, (h_Ld st 1 rfl rfl rfl (by constructor))⟩, trivial⟩, ?_⟩
      refine gT rfl ?_
      refine aBinV (.bool false) rfl rfl (neF rfl) ?_
      iterate 2 refine aN rfl rfl (by constructor) ?_
      refine gT rfl ?_
      refine aN rfl rfl (by constructor) ?_
      refine gT rfl ?_
      refine aN rfl rfl (by constructor) ?_
      refine gT rfl ?_
      refine aN rfl rfl (by constructor) ?_
      refine gT rfl ?_
      refine aN rfl rfl (by constructor) ?_
      refine gT rfl ?_
      refine aLd st 1 rfl rfl rfl (by constructor) ?_
      refine gT rfl ?_
      refine aN rfl rfl (by constructor) ?_
      refine ⟨?_, trivial⟩
      refine gT rfl ?_
      refine aC (next_call (st.get (j := 0) rfl)) fun v111 H22 ⟨hv, st1⟩ => ?_
      subst hv
      replace st := st.call st1 rfl
      clear st1
      refine ⟨⟨⟨some false, .bool false, (h_Ld st 1 rfl rfl rfl (by constructor))⟩, ⟨some false, .bool false, (h_Ld st 1 rfl rfl rfl (by constructor))⟩, ⟨some false, .bool false, (h_Ld st 1 rfl rfl rfl (by constructor))⟩, trivial⟩, ?_⟩
      refine gT rfl ?_
      refine aN rfl rfl (by constructor) ?_
      refine gT rfl ?_
      refine aBinV (.bool false) rfl rfl (neF (by rw [w32, w32, w32]; omega)) ?_
      refine aN rfl rfl (by constructor) ?_
      refine pE ?_
      show AW _ (.cond _ _ _) _ _ _
      refine cF' rfl ?_
      show AWl _ _ _ _ _
      iterate 3 refine aN rfl rfl (by constructor) ?_
      refine sE ?_
      show AWl _ _ _ _ _
      iterate 4 refine aN rfl rfl (by constructor) ?_
      refine aBld rfl (by repeat constructor) ?_
      refine aC (end_n (st.get (j := 0) rfl)) fun v122 H23 ⟨hv, st1⟩ => ?_
      subst hv
      replace st := st.callX 0 rfl st1 rfl
      clear st1
      refine aN (v := .int .i64 0) rfl rfl (by constructor) ?_
      refine aBinV (.bool false) rfl rfl rfl ?_
      refine aN rfl rfl (by constructor) ?_
      refine gT rfl ?_
      refine aN rfl rfl (by constructor) ?_
      refine gT rfl ?_
      refine aN rfl rfl (by constructor) ?_
      refine gT rfl ?_
      refine aN rfl rfl (by constructor) ?_
      refine gT rfl ?_
      refine aN rfl rfl (by constructor) ?_
      refine gT rfl ?_
      refine aC (forget_n (st.get (j := 0) rfl)) fun v130 H24 ⟨hv, st1⟩ => ?_
      subst hv
      replace st := st.callX 0 rfl st1 rfl
      clear st1
      refine aN rfl rfl (by constructor) ?_
      refine sE ?_
      show AW _ (.cond _ _ _) _ _ _
      refine cF' rfl ?_
      show AWl _ _ _ _ _
      iterate 3 refine aN rfl rfl (by constructor) ?_
      refine sE ?_
      exact ⟨_, by omega, (i + 1), cm1, (IntKind.u32.wrap (st0 + 1)), rfl, by omega, congrArg (Value.int .i64) (wi _ (by omega)), rfl, (st.sel [0] (by decide))⟩
    ·show AWl _ _ _ _ _
     iterate 2 refine aN rfl rfl (by constructor) ?_
     refine sE ?_
     show AW _ (.cond _ _ _) _ _ _
     refine cC' rfl (fun h25 => ?_) (fun h25 => ?_)
     ·show AWl _ _ _ _ _
      refine aN rfl rfl (by constructor) ?_
      refine aConvV (n' := (i : Int)) rfl (by first | exact c64 (by omega) | exact c32w (by omega)) ?_
      refine aN rfl rfl (by constructor) ?_
      refine aC (next_call (st.get (j := 2) rfl)) fun v58 H26 ⟨hv, st1⟩ => ?_
      subst hv
      replace st := st.call st1 rfl
      clear st1
      refine aC (read_call) fun v59 H27 ⟨hv, st1⟩ => ?_
      subst hv
      replace st := st.call st1 rfl
      clear st1
      refine aSt st 0 rfl rfl rfl rfl (by first | rfl | simp [cellsOf, *]) (by first | decide | (simp [*]; done) | (simp [k8]; done)) (by repeat constructor) fun H28 st => ?_
      refine sE ?_
      show AWl _ _ _ _ _
      refine aN rfl rfl (by constructor) ?_
      refine aLdA st 0 rfl rfl (by first | decide | simp [*]) (by repeat constructor) ?_
      refine aC (in_read (cmd := cm) (st.get (j := 2) rfl)) fun v63 H29 ⟨c63, oc63, rb63, hv, st1⟩ => ?_
      subst hv
      replace st := st.callX 2 rfl st1 rfl
      clear st1
      obtain ⟨rx63, rfl⟩ := st.isSome 3 rfl (fun h => by cases h)
      iterate 5 refine aN rfl rfl (by constructor) ?_
      refine sE ?_
      refine AW_cutK (b := .seq (.seq (.plan _) _) _) (fun t1 H1 => ∃ (oq : Nat) (cm1 p0 p1 p2 p3 p4 p5 q0 q4 q5 q6 : Int) (xv : Value), t1 9 = .slice (some ⟨oq, 0, none⟩) 1 14 ∧ Stt [] H H1 [⟨some b23, true, ⟨true, 64, [.string ⟨#[]⟩, .string ⟨#[116]⟩, .bool false, .bool false, .bool false, .int .i64 8192, .int .i64 65536, .int .i64 65536, .bool true, .bool true, .slice none 0 0, .int .u32 cm1, .int .u32 (IntKind.u32.wrap (st0 + 1)), .int .u32 0, .slice none 0 0, .slice none 0 0, .bool false, .slice none 0 0]⟩⟩, ⟨some oq, true, ⟨true, 37, [.int .u8 p0, .int .u8 p1, .int .u8 p2, .int .u8 p3, .int .u8 p4, .int .u32 p5, .int .u32 q0, .int .u32 st0, .int .u32 cm1, .int .u32 (IntKind.u32.wrap (IntKind.u32.wrap (cm1 + 16) - 1)), .int .u32 q4, .int .u32 q5, .int .u32 q6, xv]⟩⟩]) [9, 11, 66, 67, 68, 69, 70, 71, 72, 73, 74, 75, 76, 77, 78, 79, 80, 81] (by decide) ?_ fun t1 H1 hk hI => ?_
      ·show AWl _ _ _ _ _
       refine aN rfl rfl (by constructor) ?_
       refine sE ?_
       show AW _ (.loop _) _ _ _
       refine AW_loopN (fun m t1 H1 => (m = 1 ∧ t1 11 = .int .i64 0 ∧ t1 9 = .slice none 0 0 ∧ Stt [] H H1 [⟨some b23, true, ⟨true, 64, [.string ⟨#[]⟩, .string ⟨#[116]⟩, .bool false, .bool false, .bool false, .int .i64 8192, .int .i64 65536, .int .i64 65536, .bool true, .bool true, .slice none 0 0, .int .u32 (IntKind.u32.wrap (cm + 1)), .int .u32 st0, .int .u32 0, .slice none 0 0, .slice none 0 0, .bool false, .slice (some ⟨rx63, 0, none⟩) 1 8]⟩⟩, ⟨some c63, true, ⟨true, 41, [.int .u32 (i : Int), .int .u8 0, .int .u8 0, accV oc63 16 1, .slice none 0 0, .int .i64 (IntKind.i64.wrap 0), .int .u8 0, .int .u32 0]⟩⟩, ⟨some rx63, true, ⟨true, 41, [.int .u32 (i : Int), .int .u8 0, .int .u8 0, .slice none 0 0, .slice none 0 0, .int .i64 (IntKind.i64.wrap 0), .int .u8 64, .int .u32 0]⟩⟩]) ∨ (∃ (oc : Nat), m = 0 ∧ t1 11 = .int .i64 1 ∧ t1 9 = .slice (some ⟨oc, 0, none⟩) 1 14 ∧ Stt [] H H1 [⟨some b23, true, ⟨true, 64, [.string ⟨#[]⟩, .string ⟨#[116]⟩, .bool false, .bool false, .bool false, .int .i64 8192, .int .i64 65536, .int .i64 65536, .bool true, .bool true, .slice none 0 0, .int .u32 (IntKind.u32.wrap (cm + 1)), .int .u32 (IntKind.u32.wrap (st0 + 1)), .int .u32 0, .slice none 0 0, .slice none 0 0, .bool false, .slice none 0 0]⟩⟩, ⟨some oc, true, ⟨true, 37, [.int .u8 33, .int .u8 128, .int .u8 0, .int .u8 0, .int .u8 0, .int .u32 (i : Int), .int .u32 0, .int .u32 st0, .int .u32 (IntKind.u32.wrap (cm + 1)), .int .u32 (IntKind.u32.wrap (IntKind.u32.wrap ((IntKind.u32.wrap (cm + 1)) + 16) - 1)), .int .u32 ((0 : Nat) : Int), .int .u32 0, .int .u32 0, .slice none 0 0]⟩⟩])) _ (.inl ⟨rfl, rfl, rfl, (st.sel [0, 1, 3] (by decide))⟩) [9, 11, 66, 67, 68, 69, 70, 71, 72, 73, 74, 75, 76, 77, 78, 79, 80, 81] (by decide) ?_
       rintro m t1 H1 hk hI
       rcases hI with hI | hI
       ·obtain ⟨rfl, ht11, ht9, st⟩ := hI
        obtain ⟨u, rfl⟩ : ∃ u, t1 = (upd (upd (mix [9, 11, 66, 67, 68, 69, 70, 71, 72, 73, 74, 75, 76, 77, 78, 79, 80, 81] _ u) (some 11) _) (some 9) _) := ⟨t1, by rw [← hk, upd_self ht11, upd_self ht9]⟩
        clear hk ht11 ht9
        show AWl _ _ _ _ _
        iterate 2 refine aN rfl rfl (by constructor) ?_
        refine aN (v := .int .i64 1) rfl rfl (by constructor) ?_
        refine aBinV (.bool true) rfl rfl rfl ?_
        refine sE ?_
        show AW _ (.cond _ _ _) _ _ _
        refine cT rfl ?_
        show AWl _ _ _ _ _
        iterate 6 refine aN rfl rfl (by constructor) ?_
        refine aLd st 1 rfl rfl rfl (by constructor) ?_
        refine aBld rfl (by repeat constructor) ?_
        refine aC (end0 (g := 8192) (g0 := 8192) rfl (st.get (j := 0) rfl) (st.get (j := 2) rfl) (by have := st.ne 2 0 rfl rfl (by decide); simpa using this) (by decide)) fun v80 H30 ⟨c80, hv, st1⟩ => ?_
        subst hv
        replace st := st.callX 0 rfl st1 rfl
        clear st1
        have st := st.nil 37
        have hnil : (Value.slice none 0 0) = accV none 0 14 := rfl
        refine aAppP st 0 (ob := none) (n := 0) rfl rfl rfl (by decide) (rfl) (st.rowAll 2 rfl (rfl)).src (rfl) (by decide) (by decide) (by decide) (by repeat constructor) fun b81 H31 st => ?_
        refine aN rfl rfl (by constructor) ?_
        refine sE ?_
        show AWl _ _ _ _ _
        refine aN rfl rfl (by constructor) ?_
        refine aN (v := .int .i64 1) rfl rfl (by constructor) ?_
        refine aN rfl rfl (by constructor) ?_
        refine sE ?_
        exact ⟨_, by decide, .inr (⟨b81, rfl, rfl, rfl, (st.sel [1, 0] (by decide))⟩)⟩
       ·obtain ⟨oc, rfl, ht11, ht9, st⟩ := hI
        obtain ⟨u, rfl⟩ : ∃ u, t1 = (upd (upd (mix [9, 11, 66, 67, 68, 69, 70, 71, 72, 73, 74, 75, 76, 77, 78, 79, 80, 81] _ u) (some 11) _) (some 9) _) := ⟨t1, by rw [← hk, upd_self ht11, upd_self ht9]⟩
        clear hk ht11 ht9
        show AWl _ _ _ _ _
        iterate 2 refine aN rfl rfl (by constructor) ?_
        refine aN (v := .int .i64 1) rfl rfl (by constructor) ?_
        refine aBinV (.bool false) rfl rfl rfl ?_
        refine sE ?_
        show AW _ (.cond _ _ _) _ _ _
        refine cF' rfl ?_
        exact ⟨oc, (IntKind.u32.wrap (cm + 1)), 33, 128, 0, 0, 0, (i : Int), 0, ((0 : Nat) : Int), 0, 0, (.slice none 0 0), rfl, (st.sel [0, 1] (by decide))⟩
      ·obtain ⟨oq, cm1, p0, p1, p2, p3, p4, p5, q0, q4, q5, q6, xv, ht9, st⟩ := hI
       obtain ⟨u, rfl⟩ : ∃ u, t1 = (upd (mix [9, 11, 66, 67, 68, 69, 70, 71, 72, 73, 74, 75, 76, 77, 78, 79, 80, 81] _ u) (some 9) _) := ⟨t1, by rw [← hk, upd_self ht9]⟩
       clear hk ht9
       show AWp _ _ _ _ _
       refine aN rfl rfl (by constructor) ?_
       refine aN (v := .int .i64 1) rfl rfl (by constructor) ?_
       refine aBinV (.bool false) rfl rfl rfl ?_
       refine aN rfl rfl (by constructor) ?_
       refine gT rfl ?_
       refine aN rfl rfl (by constructor) ?_
       refine gT rfl ?_
       refine aN rfl rfl (by constructor) ?_
       refine gT rfl ?_
       refine aN rfl rfl (by constructor) ?_
       refine gT rfl ?_
       refine aN rfl rfl (by constructor) ?_
       refine gT rfl ?_
       refine aLd st 1 rfl rfl rfl (by constructor) ?_
       refine gT rfl ?_
       refine aN rfl rfl (by constructor) ?_
       refine gT rfl ?_
       refine aBinV (.bool false) rfl rfl (neF rfl) ?_
       iterate 2 refine aN rfl rfl (by constructor) ?_
       refine gT rfl ?_
       refine aN rfl rfl (by constructor) ?_
       refine gT rfl ?_
       refine aN rfl rfl (by constructor) ?_
       refine gT rfl ?_
       refine aN rfl rfl (by constructor) ?_
       refine gT rfl ?_
       refine aN rfl rfl (by constructor) ?_
       refine gT rfl ?_
       refine aLd st 1 rfl rfl rfl (by constructor) ?_
       refine gT rfl ?_
       refine aN rfl rfl (by constructor) ?_
       refine ⟨?_, trivial⟩
       refine gT rfl ?_
       refine aC (next_call (st.get (j := 0) rfl)) fun v101 H32 ⟨hv, st1⟩ => ?_
       subst hv
       replace st := st.call st1 rfl
       clear st1
       refine ⟨⟨⟨some false, .bool false, (h_Ld st 1 rfl rfl rfl (by constructor))⟩, ⟨some false, .bool false, (h_Ld st 1 rfl rfl rfl (by constructor))⟩, trivial⟩, ?_⟩
       refine gT rfl ?_
       refine aBinV (.bool false) rfl rfl (neF rfl) ?_
       iterate 2 refine aN rfl rfl (by constructor) ?_
       refine gT rfl ?_
       refine aN rfl rfl (by constructor) ?_
       refine gT rfl ?_
       refine aN rfl rfl (by constructor) ?_
       refine gT rfl ?_
       refine aN rfl rfl (by constructor) ?_
       refine gT rfl ?_
       refine aN rfl rfl (by constructor) ?_
       refine gT rfl ?_
       refine aLd st 1 rfl rfl rfl (by constructor) ?_
       refine gT rfl ?_
       refine aN rfl rfl (by constructor) ?_
       refine ⟨?_, trivial⟩
       refine gT rfl ?_
       refine aC (next_call (st.get (j := 0) rfl)) fun v111 H33 ⟨hv, st1⟩ => ?_
       subst hv
       replace st := st.call st1 rfl
       clear st1
       refine ⟨⟨⟨some false, .bool false, (h_Ld st 1 rfl rfl rfl (by constructor))⟩, ⟨some false, .bool false, (h_Ld st 1 rfl rfl rfl (by constructor))⟩, ⟨some false, .bool false, (h_Ld st 1 rfl rfl rfl (by constructor))⟩, trivial⟩, ?_⟩
       refine gT rfl ?_
       refine aN rfl rfl (by constructor) ?_
       refine gT rfl ?_
       refine aBinV (.bool false) rfl rfl (neF (by rw [w32, w32, w32]; omega)) ?_
       refine aN rfl rfl (by constructor) ?_
       refine pE ?_
       show AW _ (.cond _ _ _) _ _ _
       refine cF' rfl ?_
       show AWl _ _ _ _ _
       iterate 3 refine aN rfl rfl (by constructor) ?_
       refine sE ?_
       show AWl _ _ _ _ _
       iterate 4 refine aN rfl rfl (by constructor) ?_
       refine aBld rfl (by repeat constructor) ?_
       refine aC (end_n (st.get (j := 0) rfl)) fun v122 H34 ⟨hv, st1⟩ => ?_
       subst hv
       replace st := st.callX 0 rfl st1 rfl
       clear st1
       refine aN (v := .int .i64 0) rfl rfl (by constructor) ?_
       refine aBinV (.bool false) rfl rfl rfl ?_
       refine aN rfl rfl (by constructor) ?_
       refine gT rfl ?_
       refine aN rfl rfl (by constructor) ?_
       refine gT rfl ?_
       refine aN rfl rfl (by constructor) ?_
       refine gT rfl ?_
       refine aN rfl rfl (by constructor) ?_
       refine gT rfl ?_
       refine aN rfl rfl (by constructor) ?_
       refine gT rfl ?_
       refine aC (forget_n (st.get (j := 0) rfl)) fun v130 H35 ⟨hv, st1⟩ => ?_
       subst hv
       replace st := st.callX 0 rfl st1 rfl
       clear st1
       refine aN rfl rfl (by constructor) ?_
       refine sE ?_
       show AW _ (.cond _ _ _) _ _ _
       refine cF' rfl ?_
       show AWl _ _ _ _ _
       iterate 3 refine aN rfl rfl (by constructor) ?_
       refine sE ?_
       exact ⟨_, by omega, (i + 1), cm1, (IntKind.u32.wrap (st0 + 1)), rfl, by omega, congrArg (Value.int .i64) (wi _ (by omega)), rfl, (st.sel [0] (by decide))⟩
     ·show AWl _ _ _ _ _
      refine aN rfl rfl (by constructor) ?_
      refine aLdA st 0 rfl rfl (by first | decide | simp [*]) (by repeat constructor) ?_
      refine aC (in_ping64 (k := [112, 105, 110, 103]) (st.get (j := 2) rfl) (st.rowAll 1 rfl rfl) (acc_apart (ob := some b36) (st.ne 1 2 rfl rfl (by decide))) (by omega)) fun v63 H36 ⟨c63, hv, st1⟩ => ?_
      subst hv
      replace st := st.callX 2 rfl st1 rfl
      clear st1
      iterate 5 refine aN rfl rfl (by constructor) ?_
      refine sE ?_
      refine AW_cutK (b := .seq (.seq (.plan _) _) _) (fun t1 H1 => ∃ (oq : Nat) (cm1 p0 p1 p2 p3 p4 p5 q0 q4 q5 q6 : Int) (xv : Value), t1 9 = .slice (some ⟨oq, 0, none⟩) 1 14 ∧ Stt [] H H1 [⟨some b23, true, ⟨true, 64, [.string ⟨#[]⟩, .string ⟨#[116]⟩, .bool false, .bool false, .bool false, .int .i64 8192, .int .i64 65536, .int .i64 65536, .bool true, .bool true, .slice none 0 0, .int .u32 cm1, .int .u32 (IntKind.u32.wrap (st0 + 1)), .int .u32 0, .slice none 0 0, .slice none 0 0, .bool false, .slice none 0 0]⟩⟩, ⟨some oq, true, ⟨true, 37, [.int .u8 p0, .int .u8 p1, .int .u8 p2, .int .u8 p3, .int .u8 p4, .int .u32 p5, .int .u32 q0, .int .u32 st0, .int .u32 cm1, .int .u32 (IntKind.u32.wrap (IntKind.u32.wrap (cm1 + 16) - 1)), .int .u32 q4, .int .u32 q5, .int .u32 q6, xv]⟩⟩]) [9, 11, 66, 67, 68, 69, 70, 71, 72, 73, 74, 75, 76, 77, 78, 79, 80, 81] (by decide) ?_ fun t1 H1 hk hI => ?_
      ·show AWl _ _ _ _ _
       refine aN rfl rfl (by constructor) ?_
       refine sE ?_
       show AW _ (.loop _) _ _ _
       refine AW_loopN (fun m t1 H1 => m = 0 ∧ t1 11 = .int .i64 0 ∧ t1 9 = .slice (some ⟨c63, 0, none⟩) 1 14 ∧ Stt [] H H1 [⟨some b23, true, ⟨true, 64, [.string ⟨#[]⟩, .string ⟨#[116]⟩, .bool false, .bool false, .bool false, .int .i64 8192, .int .i64 65536, .int .i64 65536, .bool true, .bool true, .slice none 0 0, .int .u32 cm, .int .u32 (IntKind.u32.wrap (st0 + 1)), .int .u32 0, .slice none 0 0, .slice none 0 0, .bool false, .slice none 0 0]⟩⟩, ⟨some c63, true, ⟨true, 37, [.int .u8 32, .int .u8 128, .int .u8 0, .int .u8 0, .int .u8 0, .int .u32 (i : Int), .int .u32 4294967295, .int .u32 st0, .int .u32 cm, .int .u32 (IntKind.u32.wrap (IntKind.u32.wrap (cm + 16) - 1)), .int .u32 0, .int .u32 0, .int .u32 0, .slice (some ⟨b36, 0, none⟩) 4 1]⟩⟩]) 0 ⟨rfl, rfl, rfl, (st.sel [0, 1] (by decide))⟩ [9, 11, 66, 67, 68, 69, 70, 71, 72, 73, 74, 75, 76, 77, 78, 79, 80, 81] (by decide) ?_
       rintro m t1 H1 hk hI
       obtain ⟨rfl, ht11, ht9, st⟩ := hI
       obtain ⟨u, rfl⟩ : ∃ u, t1 = (upd (upd (mix [9, 11, 66, 67, 68, 69, 70, 71, 72, 73, 74, 75, 76, 77, 78, 79, 80, 81] _ u) (some 11) _) (some 9) _) := ⟨t1, by rw [← hk, upd_self ht11, upd_self ht9]⟩
       clear hk ht11 ht9
       show AWl _ _ _ _ _
       iterate 2 refine aN rfl rfl (by constructor) ?_
       refine aN (v := .int .i64 0) rfl rfl (by constructor) ?_
       refine aBinV (.bool false) rfl rfl rfl ?_
       refine sE ?_
       show AW _ (.cond _ _ _) _ _ _
       refine cF' rfl ?_
       exact ⟨c63, cm, 32, 128, 0, 0, 0, (i : Int), 4294967295, 0, 0, 0, (.slice (some ⟨b36, 0, none⟩) 4 1), rfl, (st.sel [0, 1] (by decide))⟩
      ·obtain ⟨oq, cm1, p0, p1, p2, p3, p4, p5, q0, q4, q5, q6, xv, ht9, st⟩ := hI
       obtain ⟨u, rfl⟩ : ∃ u, t1 = (upd (mix [9, 11, 66, 67, 68, 69, 70, 71, 72, 73, 74, 75, 76, 77, 78, 79, 80, 81] _ u) (some 9) _) := ⟨t1, by rw [← hk, upd_self ht9]⟩
       clear hk ht9
       show AWp _ _ _ _ _
       refine aN rfl rfl (by constructor) ?_
       refine aN (v := .int .i64 1) rfl rfl (by constructor) ?_
       refine aBinV (.bool false) rfl rfl rfl ?_
       refine aN rfl rfl (by constructor) ?_
       refine gT rfl ?_
       refine aN rfl rfl (by constructor) ?_
       refine gT rfl ?_
       refine aN rfl rfl (by constructor) ?_
       refine gT rfl ?_
       refine aN rfl rfl (by constructor) ?_
       refine gT rfl ?_
       refine aN rfl rfl (by constructor) ?_
       refine gT rfl ?_
       refine aLd st 1 rfl rfl rfl (by constructor) ?_
       refine gT rfl ?_
       refine aN rfl rfl (by constructor) ?_
       refine gT rfl ?_
       refine aBinV (.bool false) rfl rfl (neF rfl) ?_
       iterate 2 refine aN rfl rfl (by constructor) ?_
       refine gT rfl ?_
       refine aN rfl rfl (by constructor) ?_
       refine gT rfl ?_
       refine aN rfl rfl (by constructor) ?_
       refine gT rfl ?_
       refine aN rfl rfl (by constructor) ?_
       refine gT rfl ?_
       refine aN rfl rfl (by constructor) ?_
       refine gT rfl ?_
       refine aLd st 1 rfl rfl rfl (by constructor) ?_
       refine gT rfl ?_
       refine aN rfl rfl (by constructor) ?_
       refine ⟨?_, trivial⟩
       refine gT rfl ?_
       refine aC (next_call (st.get (j := 0) rfl)) fun v101 H37 ⟨hv, st1⟩ => ?_
       subst hv
       replace st := st.call st1 rfl
       clear st1
       refine ⟨⟨⟨some false, .bool false, (h_Ld st 1 rfl rfl rfl (by constructor))⟩, ⟨some false, .bool false, (h_Ld st 1 rfl rfl rfl (by constructor))⟩, trivial⟩, ?_⟩
       refine gT rfl ?_
       refine aBinV (.bool false) rfl rfl (neF rfl) ?_
       iterate 2 refine aN rfl rfl (by constructor) ?_
       refine gT rfl ?_
       refine aN rfl rfl (by constructor) ?_
       refine gT rfl ?_
       refine aN rfl rfl (by constructor) ?_
       refine gT rfl ?_
       refine aN rfl rfl (by constructor) ?_
       refine gT rfl ?_
       refine aN rfl rfl (by constructor) ?_
       refine gT rfl ?_
       refine aLd st 1 rfl rfl rfl (by constructor) ?_
       refine gT rfl ?_
       refine aN rfl rfl (by constructor) ?_
       refine ⟨?_, trivial⟩
       refine gT rfl ?_
       refine aC (next_call (st.get (j := 0) rfl)) fun v111 H38 ⟨hv, st1⟩ => ?_
       subst hv
       replace st := st.call st1 rfl
       clear st1
       refine ⟨⟨⟨some false, .bool false, (h_Ld st 1 rfl rfl rfl (by constructor))⟩, ⟨some false, .bool false, (h_Ld st 1 rfl rfl rfl (by constructor))⟩, ⟨some false, .bool false, (h_Ld st 1 rfl rfl rfl (by constructor))⟩, trivial⟩, ?_⟩
       refine gT rfl ?_
       refine aN rfl rfl (by constructor) ?_
       refine gT rfl ?_
       refine aBinV (.bool false) rfl rfl (neF (by rw [w32, w32, w32]; omega)) ?_
       refine aN rfl rfl (by constructor) ?_
       refine pE ?_
       show AW _ (.cond _ _ _) _ _ _
       refine cF' rfl ?_
       show AWl _ _ _ _ _
       iterate 3 refine aN rfl rfl (by constructor) ?_
       refine sE ?_
       show AWl _ _ _ _ _
       iterate 4 refine aN rfl rfl (by constructor) ?_
       refine aBld rfl (by repeat constructor) ?_
       refine aC (end_n (st.get (j := 0) rfl)) fun v122 H39 ⟨hv, st1⟩ => ?_
       subst hv
       replace st := st.callX 0 rfl st1 rfl
       clear st1
       refine aN (v := .int .i64 0) rfl rfl (by constructor) ?_
       refine aBinV (.bool false) rfl rfl rfl ?_
       refine aN rfl rfl (by constructor) ?_
       refine gT rfl ?_
       refine aN rfl rfl (by constructor) ?_
       refine gT rfl ?_
       refine aN rfl rfl (by constructor) ?_
       refine gT rfl ?_
       refine aN rfl rfl (by constructor) ?_
       refine gT rfl ?_
       refine aN rfl rfl (by constructor) ?_
       refine gT rfl ?_
       refine aC (forget_n (st.get (j := 0) rfl)) fun v130 H40 ⟨hv, st1⟩ => ?_
       subst hv
       replace st := st.callX 0 rfl st1 rfl
       clear st1
       refine aN rfl rfl (by constructor) ?_
       refine sE ?_
       show AW _ (.cond _ _ _) _ _ _
       refine cF' rfl ?_
       show AWl _ _ _ _ _
       iterate 3 refine aN rfl rfl (by constructor) ?_
       refine sE ?_
       exact ⟨_, by omega, (i + 1), cm1, (IntKind.u32.wrap (st0 + 1)), rfl, by omega, congrArg (Value.int .i64) (wi _ (by omega)), rfl, (st.sel [0] (by decide))⟩
  ·show AWl _ _ _ _ _
   refine aN rfl rfl (by constructor) ?_
   refine aBld rfl (by repeat constructor) ?_
   refine aC (in_logout (st.get (j := 0) rfl)) fun v135 H41 ⟨c135, hv, st1⟩ => ?_
   subst hv
   replace st := st.callX 0 rfl st1 rfl
   clear st1
   iterate 5 refine aN rfl rfl (by constructor) ?_
   refine sE ?_
   show AWl _ _ _ _ _
   refine aN rfl rfl (by constructor) ?_
   refine aN (v := .int .i64 1) rfl rfl (by constructor) ?_
   refine aBinV (.bool false) rfl rfl rfl ?_
   refine aN rfl rfl (by constructor) ?_
   refine gT rfl ?_
   refine aN rfl rfl (by constructor) ?_
   refine gT rfl ?_
   refine aN rfl rfl (by constructor) ?_
   refine gT rfl ?_
   refine aN rfl rfl (by constructor) ?_
   refine gT rfl ?_
   refine aLd st 1 rfl rfl rfl (by constructor) ?_
   refine gT rfl ?_
   refine aBinV (.bool false) rfl rfl rfl ?_
   iterate 2 refine aN rfl rfl (by constructor) ?_
   refine gT rfl ?_
   refine aN rfl rfl (by constructor) ?_
   refine gT rfl ?_
   refine aC (over_over (st.get (j := 0) rfl)) fun v150 H42 ⟨hv, st1⟩ => ?_
   subst hv
   replace st := st.call st1 rfl
   clear st1
   refine gT rfl ?_
   iterate 2 refine aN rfl rfl (by constructor) ?_
   refine sE ?_
   show AW _ (.cond _ _ _) _ _ _
   refine cF' rfl ?_
   show AWl _ _ _ _ _
   refine aN rfl rfl (by constructor) ?_
   refine sE ?_
   show AW _ (.loop _) _ _ _
   refine AW_loopN (fun m t1 H1 => ∃ (i : Nat), m = n - i ∧ (i ≤ n) ∧ t1 14 = .int .i64 (i : Int) ∧ Stt [] H H1 [⟨some b23, true, ⟨true, 64, [.string ⟨#[]⟩, .string ⟨#[116]⟩, .bool false, .bool false, .bool false, .int .i64 8192, .int .i64 65536, .int .i64 65536, .bool true, .bool true, .slice none 0 0, .int .u32 cm, .int .u32 (IntKind.u32.wrap (st0 + 1)), .int .u32 0, .slice none 0 0, .slice none 0 0, .bool true, .slice none 0 0]⟩⟩]) _ ⟨0, rfl, Nat.zero_le _, rfl, (st.sel [0] (by decide))⟩ [4, 14, 15, 16, 153, 154, 155, 156, 157, 158, 159, 160, 161, 162, 163, 164, 165, 166, 167, 168, 169, 170, 171, 172, 173, 174, 175, 176, 177, 178, 179, 180, 181, 182, 183, 184, 185] (by decide) ?_
   rintro m t1 H1 hk hI
   obtain ⟨i, rfl, hi0, ht14, st⟩ := hI
   obtain ⟨u, rfl⟩ : ∃ u, t1 = (upd (mix [4, 14, 15, 16, 153, 154, 155, 156, 157, 158, 159, 160, 161, 162, 163, 164, 165, 166, 167, 168, 169, 170, 171, 172, 173, 174, 175, 176, 177, 178, 179, 180, 181, 182, 183, 184, 185] _ u) (some 14) _) := ⟨t1, by rw [← hk, upd_self ht14]⟩
   clear hk ht14
   show AWl _ _ _ _ _
   refine aN rfl rfl (by constructor) ?_
   refine aMovV (Value.slice pz n cz) rfl ?_
   refine aLen (st.slc hz) rfl ?_
   refine aBinV (.bool (decide (i < n))) rfl rfl (by exact congrArg (fun q => some (Value.bool q)) (decide_eq_decide.2 (by omega))) ?_
   refine aN rfl rfl (by constructor) ?_
   refine gCase 157 rfl (fun h43 => ?_) (fun h43 => ?_)
   ·refine gT rfl ?_
    refine aN rfl rfl (by constructor) ?_
    refine gT rfl ?_
    refine aBinV (.bool (decide (i < 20))) rfl rfl (by exact congrArg (fun q => some (Value.bool q)) (decide_eq_decide.2 (by omega))) ?_
    refine aN rfl rfl (by constructor) ?_
    refine sE ?_
    show AW _ (.cond _ _ _) _ _ _
    refine cC' rfl (fun h44 => ?_) (fun h44 => ?_)
    ·show AWl _ _ _ _ _
     have hi : i < 20 ∧ i < n := by first | (refine ⟨?_, ?_⟩ <;> (apply of_decide_eq_true; assumption)) | (simp_all)
     have hu14 : ((cs.drop (i * 14)).take 14).length = 14 := by rw [List.length_take, List.length_drop, hcl]; omega
     refine aN rfl rfl (by constructor) ?_
     refine aMovV (Value.slice pz n cz) rfl ?_
     refine aN rfl rfl (by constructor) ?_
     refine aIx (st.slc hz) rfl rfl (by omega) fun b167 o167 g167 => ?_
     rw [Int.toNat_natCast] at g167
     refine aLdAG rfl g167 ?_
     refine aC (in_over (us := (cs.drop (i * 14)).take 14) (st.get (j := 0) rfl) hu14) fun v169 H45 ⟨hv, st1⟩ => ?_
     subst hv
     replace st := st.call st1 rfl
     clear st1
     iterate 5 refine aN rfl rfl (by constructor) ?_
     refine sE ?_
     show AWl _ _ _ _ _
     refine aN rfl rfl (by constructor) ?_
     refine aN (v := .int .i64 0) rfl rfl (by constructor) ?_
     refine aBinV (.bool false) rfl rfl rfl ?_
     refine aN rfl rfl (by constructor) ?_
     refine gT rfl ?_
     refine aN rfl rfl (by constructor) ?_
     refine gT rfl ?_
     refine aN (v := .int .i64 0) rfl rfl (by constructor) ?_
     refine gT rfl ?_
     refine aBinV (.bool false) rfl rfl rfl ?_
     iterate 2 refine aN rfl rfl (by constructor) ?_
     refine gT rfl ?_
     refine aN rfl rfl (by constructor) ?_
     refine gT rfl ?_
     refine aC (told_over (st.get (j := 0) rfl)) fun v182 H46 ⟨hv, st1⟩ => ?_
     subst hv
     replace st := st.call st1 rfl
     clear st1
     refine gT rfl ?_
     refine aN (v := .int .i64 0) rfl rfl (by constructor) ?_
     refine gT rfl ?_
     refine aBinV (.bool false) rfl rfl rfl ?_
     refine aN rfl rfl (by constructor) ?_
     refine sE ?_
     show AW _ (.cond _ _ _) _ _ _
     refine cF' rfl ?_
     show AWl _ _ _ _ _
     iterate 3 refine aN rfl rfl (by constructor) ?_
     refine sE ?_
     exact ⟨_, by omega, (i + 1), rfl, by omega, congrArg (Value.int .i64) (wi _ (by omega)), (st.sel [0] (by decide))⟩
    ·show AWl _ _ _ _ _
     refine aN rfl rfl (by constructor) ?_
     refine sE ?_
     show AWl _ _ _ _ _
     refine aN rfl rfl (by constructor) ?_
     refine aBld rfl (by repeat constructor) ?_
     refine aC (in_nil (us := [.int .u8 0, .int .u8 0, .int .u8 0, .int .u8 0, .int .u8 0, .int .u32 0, .int .u32 0, .int .u32 0, .int .u32 0, .int .u32 0, .int .u32 0, .int .u32 0, .int .u32 0, .slice none 0 0]) rfl) fun v189 H47 ⟨hv, st1⟩ => ?_
     subst hv
     replace st := st.call st1 rfl
     clear st1
     iterate 5 refine aN rfl rfl (by constructor) ?_
     refine sE ?_
     show AWl _ _ _ _ _
     refine aN rfl rfl (by constructor) ?_
     refine aN (v := .int .i64 0) rfl rfl (by constructor) ?_
     refine aBinV (.bool true) rfl rfl rfl ?_
     refine aN rfl rfl (by constructor) ?_
     refine gT rfl ?_
     refine aN rfl rfl (by constructor) ?_
     refine gT rfl ?_
     refine aN (v := .int .i64 0) rfl rfl (by constructor) ?_
     refine gT rfl ?_
     refine aBinV (.bool true) rfl rfl rfl ?_
     iterate 2 refine aN rfl rfl (by constructor) ?_
     refine gT rfl ?_
     refine aN rfl rfl (by constructor) ?_
     refine gT rfl ?_
     refine aBld rfl (by repeat constructor) ?_
     refine gT rfl ?_
     refine aC (end_nil (us := [.int .u8 0, .int .u8 0, .int .u16 0, .int .u64 0, .bool false, .int .i64 0, .int .i64 0, .bool false, .bool false, .slice none 0 0]) rfl) fun v203 H48 ⟨hv, st1⟩ => ?_
     subst hv
     replace st := st.call st1 rfl
     clear st1
     refine gT rfl ?_
     refine aN (v := .int .i64 0) rfl rfl (by constructor) ?_
     refine gT rfl ?_
     refine aBinV (.bool true) rfl rfl rfl ?_
     iterate 2 refine aN rfl rfl (by constructor) ?_
     refine gT rfl ?_
     refine aN rfl rfl (by constructor) ?_
     refine gT rfl ?_
     refine aC (told_nil) fun v209 H49 ⟨hv, st1⟩ => ?_
     subst hv
     replace st := st.call st1 rfl
     clear st1
     refine gT rfl ?_
     refine aN (v := .int .i64 0) rfl rfl (by constructor) ?_
     refine gT rfl ?_
     refine aBinV (.bool true) rfl rfl rfl ?_
     iterate 2 refine aN rfl rfl (by constructor) ?_
     refine gT rfl ?_
     refine aN rfl rfl (by constructor) ?_
     refine gT rfl ?_
     refine aC (forget_nil) fun v215 H50 ⟨hv, st1⟩ => ?_
     subst hv
     replace st := st.call st1 rfl
     clear st1
     refine gT rfl ?_
     iterate 3 refine aN rfl rfl (by constructor) ?_
     refine gT rfl ?_
     refine aN rfl rfl (by constructor) ?_
     refine gT rfl ?_
     refine aC (over_nil) fun v220 H51 ⟨hv, st1⟩ => ?_
     subst hv
     replace st := st.call st1 rfl
     clear st1
     refine gT rfl ?_
     iterate 3 refine aN rfl rfl (by constructor) ?_
     refine gT rfl ?_
     refine aN rfl rfl (by constructor) ?_
     refine gT rfl ?_
     refine aC (waits_nil) fun v225 H52 ⟨hv, st1⟩ => ?_
     subst hv
     replace st := st.call st1 rfl
     clear st1
     refine gT rfl ?_
     refine aBinV (.bool true) rfl rfl rfl ?_
     iterate 2 refine aN rfl rfl (by constructor) ?_
     refine gT rfl ?_
     refine aN rfl rfl (by constructor) ?_
     refine gT rfl ?_
     refine aC (next_nil) fun v230 H53 ⟨hv, st1⟩ => ?_
     subst hv
     replace st := st.call st1 rfl
     clear st1
     refine gT rfl ?_
     refine aBinV (.bool true) rfl rfl rfl ?_
     iterate 2 refine aN rfl rfl (by constructor) ?_
     refine sE ?_
     refine ⟨_, out1 (r_tmp rfl (by constructor)), ?_⟩
     rfl
   ·refine gF rfl (by decide) ?_
    refine gF rfl (by decide) ?_
    refine aN rfl rfl (by constructor) ?_
    refine sE ?_
    show AW _ (.cond _ _ _) _ _ _
    refine cF' rfl ?_
    show AWl _ _ _ _ _
    refine aN rfl rfl (by constructor) ?_
    refine sE ?_
    show AWl _ _ _ _ _
    refine aN rfl rfl (by constructor) ?_
    refine aBld rfl (by repeat constructor) ?_
    refine aC (in_nil (us := [.int .u8 0, .int .u8 0, .int .u8 0, .int .u8 0, .int .u8 0, .int .u32 0, .int .u32 0, .int .u32 0, .int .u32 0, .int .u32 0, .int .u32 0, .int .u32 0, .int .u32 0, .slice none 0 0]) rfl) fun v189 H54 ⟨hv, st1⟩ => ?_
    subst hv
    replace st := st.call st1 rfl
    clear st1
    iterate 5 refine aN rfl rfl (by constructor) ?_
    refine sE ?_
    show AWl _ _ _ _ _
    refine aN rfl rfl (by constructor) ?_
    refine aN (v := .int .i64 0) rfl rfl (by constructor) ?_
    refine aBinV (.bool true) rfl rfl rfl ?_
    refine aN rfl rfl (by constructor) ?_
    refine gT rfl ?_
    refine aN rfl rfl (by constructor) ?_
    refine gT rfl ?_
    refine aN (v := .int .i64 0) rfl rfl (by constructor) ?_
    refine gT rfl ?_
    refine aBinV (.bool true) rfl rfl rfl ?_
    iterate 2 refine aN rfl rfl (by constructor) ?_
    refine gT rfl ?_
    refine aN rfl rfl (by constructor) ?_
    refine gT rfl ?_
    refine aBld rfl (by repeat constructor) ?_
    refine gT rfl ?_
    refine aC (end_nil (us := [.int .u8 0, .int .u8 0, .int .u16 0, .int .u64 0, .bool false, .int .i64 0, .int .i64 0, .bool false, .bool false, .slice none 0 0]) rfl) fun v203 H55 ⟨hv, st1⟩ => ?_
    subst hv
    replace st := st.call st1 rfl
    clear st1
    refine gT rfl ?_
    refine aN (v := .int .i64 0) rfl rfl (by constructor) ?_
    refine gT rfl ?_
    refine aBinV (.bool true) rfl rfl rfl ?_
    iterate 2 refine aN rfl rfl (by constructor) ?_
    refine gT rfl ?_
    refine aN rfl rfl (by constructor) ?_
    refine gT rfl ?_
    refine aC (told_nil) fun v209 H56 ⟨hv, st1⟩ => ?_
    subst hv
    replace st := st.call st1 rfl
    clear st1
    refine gT rfl ?_
    refine aN (v := .int .i64 0) rfl rfl (by constructor) ?_
    refine gT rfl ?_
    refine aBinV (.bool true) rfl rfl rfl ?_
    iterate 2 refine aN rfl rfl (by constructor) ?_
    refine gT rfl ?_
    refine aN rfl rfl (by constructor) ?_
    refine gT rfl ?_
    refine aC (forget_nil) fun v215 H57 ⟨hv, st1⟩ => ?_
    subst hv
    replace st := st.call st1 rfl
    clear st1
    refine gT rfl ?_
    iterate 3 refine aN rfl rfl (by constructor) ?_
    refine gT rfl ?_
    refine aN rfl rfl (by constructor) ?_
    refine gT rfl ?_
    refine aC (over_nil) fun v220 H58 ⟨hv, st1⟩ => ?_
    subst hv
    replace st := st.call st1 rfl
    clear st1
    refine gT rfl ?_
    iterate 3 refine aN rfl rfl (by constructor) ?_
    refine gT rfl ?_
    refine aN rfl rfl (by constructor) ?_
    refine gT rfl ?_
    refine aC (waits_nil) fun v225 H59 ⟨hv, st1⟩ => ?_
    subst hv
    replace st := st.call st1 rfl
    clear st1
    refine gT rfl ?_
    refine aBinV (.bool true) rfl rfl rfl ?_
    iterate 2 refine aN rfl rfl (by constructor) ?_
    refine gT rfl ?_
    refine aN rfl rfl (by constructor) ?_
    refine gT rfl ?_
    refine aC (next_nil) fun v230 H60 ⟨hv, st1⟩ => ?_
    subst hv
    replace st := st.call st1 rfl
    clear st1
    refine gT rfl ?_
    refine aBinV (.bool true) rfl rfl rfl ?_
    iterate 2 refine aN rfl rfl (by constructor) ?_
    refine sE ?_
    refine ⟨_, out1 (r_tmp rfl (by constructor)), ?_⟩
    rfl
 ·refine gF rfl (by decide) ?_
  refine gF rfl (by decide) ?_
  refine aN rfl rfl (by constructor) ?_
  refine sE ?_
  show AW _ (.cond _ _ _) _ _ _
  refine cF' rfl ?_
  show AWl _ _ _ _ _
  refine aN rfl rfl (by constructor) ?_
  refine aBld rfl (by repeat constructor) ?_
  refine aC (in_logout (st.get (j := 0) rfl)) fun v135 H61 ⟨c135, hv, st1⟩ => ?_
  subst hv
  replace st := st.callX 0 rfl st1 rfl
  clear st1
  iterate 5 refine aN rfl rfl (by constructor) ?_
  refine sE ?_
  show AWl _ _ _ _ _
  refine aN rfl rfl (by constructor) ?_
  refine aN (v := .int .i64 1) rfl rfl (by constructor) ?_
  refine aBinV (.bool false) rfl rfl rfl ?_
  refine aN rfl rfl (by constructor) ?_
  refine gT rfl ?_
  refine aN rfl rfl (by constructor) ?_
  refine gT rfl ?_
  refine aN rfl rfl (by constructor) ?_
  refine gT rfl ?_
  refine aN rfl rfl (by constructor) ?_
  refine gT rfl ?_
  refine aLd st 1 rfl rfl rfl (by constructor) ?_
  refine gT rfl ?_
  refine aBinV (.bool false) rfl rfl rfl ?_
  iterate 2 refine aN rfl rfl (by constructor) ?_
  refine gT rfl ?_
  refine aN rfl rfl (by constructor) ?_
  refine gT rfl ?_
  refine aC (over_over (st.get (j := 0) rfl)) fun v150 H62 ⟨hv, st1⟩ => ?_
  subst hv
  replace st := st.call st1 rfl
  clear st1
  refine gT rfl ?_
  iterate 2 refine aN rfl rfl (by constructor) ?_
  refine sE ?_
  show AW _ (.cond _ _ _) _ _ _
  refine cF' rfl ?_
  show AWl _ _ _ _ _
  refine aN rfl rfl (by constructor) ?_
  refine sE ?_
  show AW _ (.loop _) _ _ _
  refine AW_loopN (fun m t1 H1 => ∃ (i : Nat), m = n - i ∧ (i ≤ n) ∧ t1 14 = .int .i64 (i : Int) ∧ Stt [] H H1 [⟨some b23, true, ⟨true, 64, [.string ⟨#[]⟩, .string ⟨#[116]⟩, .bool false, .bool false, .bool false, .int .i64 8192, .int .i64 65536, .int .i64 65536, .bool true, .bool true, .slice none 0 0, .int .u32 cm, .int .u32 (IntKind.u32.wrap (st0 + 1)), .int .u32 0, .slice none 0 0, .slice none 0 0, .bool true, .slice none 0 0]⟩⟩]) _ ⟨0, rfl, Nat.zero_le _, rfl, (st.sel [0] (by decide))⟩ [4, 14, 15, 16, 153, 154, 155, 156, 157, 158, 159, 160, 161, 162, 163, 164, 165, 166, 167, 168, 169, 170, 171, 172, 173, 174, 175, 176, 177, 178, 179, 180, 181, 182, 183, 184, 185] (by decide) ?_
  rintro m t1 H1 hk hI
  obtain ⟨i, rfl, hi0, ht14, st⟩ := hI
  obtain ⟨u, rfl⟩ : ∃ u, t1 = (upd (mix [4, 14, 15, 16, 153, 154, 155, 156, 157, 158, 159, 160, 161, 162, 163, 164, 165, 166, 167, 168, 169, 170, 171, 172, 173, 174, 175, 176, 177, 178, 179, 180, 181, 182, 183, 184, 185] _ u) (some 14) _) := ⟨t1, by rw [← hk, upd_self ht14]⟩
  clear hk ht14
  show AWl _ _ _ _ _
  refine aN rfl rfl (by constructor) ?_
  refine aMovV (Value.slice pz n cz) rfl ?_
  refine aLen (st.slc hz) rfl ?_
  refine aBinV (.bool (decide (i < n))) rfl rfl (by exact congrArg (fun q => some (Value.bool q)) (decide_eq_decide.2 (by omega))) ?_
  refine aN rfl rfl (by constructor) ?_
  refine gCase 157 rfl (fun h63 => ?_) (fun h63 => ?_)
  ·refine gT rfl ?_
   refine aN rfl rfl (by constructor) ?_
   refine gT rfl ?_
   refine aBinV (.bool (decide (i < 20))) rfl rfl (by exact congrArg (fun q => some (Value.bool q)) (decide_eq_decide.2 (by omega))) ?_
   refine aN rfl rfl (by constructor) ?_
   refine sE ?_
   show AW _ (.cond _ _ _) _ _ _
   refine cC' rfl (fun h64 => ?_) (fun h64 => ?_)
   ·show AWl _ _ _ _ _
    have hi : i < 20 ∧ i < n := by first | (refine ⟨?_, ?_⟩ <;> (apply of_decide_eq_true; assumption)) | (simp_all)
    have hu14 : ((cs.drop (i * 14)).take 14).length = 14 := by rw [List.length_take, List.length_drop, hcl]; omega
    refine aN rfl rfl (by constructor) ?_
    refine aMovV (Value.slice pz n cz) rfl ?_
    refine aN rfl rfl (by constructor) ?_
    refine aIx (st.slc hz) rfl rfl (by omega) fun b167 o167 g167 => ?_
    rw [Int.toNat_natCast] at g167
    refine aLdAG rfl g167 ?_
    refine aC (in_over (us := (cs.drop (i * 14)).take 14) (st.get (j := 0) rfl) hu14) fun v169 H65 ⟨hv, st1⟩ => ?_
    subst hv
    replace st := st.call st1 rfl
    clear st1
    iterate 5 refine aN rfl rfl (by constructor) ?_
    refine sE ?_
    show AWl _ _ _ _ _
    refine aN rfl rfl (by constructor) ?_
    refine aN (v := .int .i64 0) rfl rfl (by constructor) ?_
    refine aBinV (.bool false) rfl rfl rfl ?_
    refine aN rfl rfl (by constructor) ?_
    refine gT rfl ?_
    refine aN rfl rfl (by constructor) ?_
    refine gT rfl ?_
    refine aN (v := .int .i64 0) rfl rfl (by constructor) ?_
    refine gT rfl ?_
    refine aBinV (.bool false) rfl rfl rfl ?_
    iterate 2 refine aN rfl rfl (by constructor) ?_
    refine gT rfl ?_
    refine aN rfl rfl (by constructor) ?_
    refine gT rfl ?_
    refine aC (told_over (st.get (j := 0) rfl)) fun v182 H66 ⟨hv, st1⟩ => ?_
    subst hv
    replace st := st.call st1 rfl
    clear st1
    refine gT rfl ?_
    refine aN (v := .int .i64 0) rfl rfl (by constructor) ?_
    refine gT rfl ?_
    refine aBinV (.bool false) rfl rfl rfl ?_
    refine aN rfl rfl (by constructor) ?_
    refine sE ?_
    show AW _ (.cond _ _ _) _ _ _
    refine cF' rfl ?_
    show AWl _ _ _ _ _
    iterate 3 refine aN rfl rfl (by constructor) ?_
    refine sE ?_
    exact ⟨_, by omega, (i + 1), rfl, by omega, congrArg (Value.int .i64) (wi _ (by omega)), (st.sel [0] (by decide))⟩
   ·show AWl _ _ _ _ _
    refine aN rfl rfl (by constructor) ?_
    refine sE ?_
    show AWl _ _ _ _ _
    refine aN rfl rfl (by constructor) ?_
    refine aBld rfl (by repeat constructor) ?_
    refine aC (in_nil (us := [.int .u8 0, .int .u8 0, .int .u8 0, .int .u8 0, .int .u8 0, .int .u32 0, .int .u32 0, .int .u32 0, .int .u32 0, .int .u32 0, .int .u32 0, .int .u32 0, .int .u32 0, .slice none 0 0]) rfl) fun v189 H67 ⟨hv, st1⟩ => ?_
    subst hv
    replace st := st.call st1 rfl
    clear st1
    iterate 5 refine aN rfl rfl (by constructor) ?_
    refine sE ?_
    show AWl _ _ _ _ _
    refine aN rfl rfl (by constructor) ?_
    refine aN (v := .int .i64 0) rfl rfl (by constructor) ?_
    refine aBinV (.bool true) rfl rfl rfl ?_
    refine aN rfl rfl (by constructor) ?_
    refine gT rfl ?_
    refine aN rfl rfl (by constructor) ?_
    refine gT rfl ?_
    refine aN (v := .int .i64 0) rfl rfl (by constructor) ?_
    refine gT rfl ?_
    refine aBinV (.bool true) rfl rfl rfl ?_
    iterate 2 refine aN rfl rfl (by constructor) ?_
    refine gT rfl ?_
    refine aN rfl rfl (by constructor) ?_
    refine gT rfl ?_
    refine aBld rfl (by repeat constructor) ?_
    refine gT rfl ?_
    refine aC (end_nil (us := [.int .u8 0, .int .u8 0, .int .u16 0, .int .u64 0, .bool false, .int .i64 0, .int .i64 0, .bool false, .bool false, .slice none 0 0]) rfl) fun v203 H68 ⟨hv, st1⟩ => ?_
    subst hv
    replace st := st.call st1 rfl
    clear st1
    refine gT rfl ?_
    refine aN (v := .int .i64 0) rfl rfl (by constructor) ?_
    refine gT rfl ?_
    refine aBinV (.bool true) rfl rfl rfl ?_
    iterate 2 refine aN rfl rfl (by constructor) ?_
    refine gT rfl ?_
    refine aN rfl rfl (by constructor) ?_
    refine gT rfl ?_
    refine aC (told_nil) fun v209 H69 ⟨hv, st1⟩ => ?_
    subst hv
    replace st := st.call st1 rfl
    clear st1
    refine gT rfl ?_
    refine aN (v := .int .i64 0) rfl rfl (by constructor) ?_
    refine gT rfl ?_
    refine aBinV (.bool true) rfl rfl rfl ?_
    iterate 2 refine aN rfl rfl (by constructor) ?_
    refine gT rfl ?_
    refine aN rfl rfl (by constructor) ?_
    refine gT rfl ?_
    refine aC (forget_nil) fun v215 H70 ⟨hv, st1⟩ => ?_
    subst hv
    replace st := st.call st1 rfl
    clear st1
    refine gT rfl ?_
    iterate 3 refine aN rfl rfl (by constructor) ?_
    refine gT rfl ?_
    refine aN rfl rfl (by constructor) ?_
    refine gT rfl ?_
    refine aC (over_nil) fun v220 H71 ⟨hv, st1⟩ => ?_
    subst hv
    replace st := st.call st1 rfl
    clear st1
    refine gT rfl ?_
    iterate 3 refine aN rfl rfl (by constructor) ?_
    refine gT rfl ?_
    refine aN rfl rfl (by constructor) ?_
    refine gT rfl ?_
    refine aC (waits_nil) fun v225 H72 ⟨hv, st1⟩ => ?_
    subst hv
    replace st := st.call st1 rfl
    clear st1
    refine gT rfl ?_
    refine aBinV (.bool true) rfl rfl rfl ?_
    iterate 2 refine aN rfl rfl (by constructor) ?_
    refine gT rfl ?_
    refine aN rfl rfl (by constructor) ?_
    refine gT rfl ?_
    refine aC (next_nil) fun v230 H73 ⟨hv, st1⟩ => ?_
    subst hv
    replace st := st.call st1 rfl
    clear st1
    refine gT rfl ?_
    refine aBinV (.bool true) rfl rfl rfl ?_
    iterate 2 refine aN rfl rfl (by constructor) ?_
    refine sE ?_
    refine ⟨_, out1 (r_tmp rfl (by constructor)), ?_⟩
    rfl
  ·refine gF rfl (by decide) ?_
   refine gF rfl (by decide) ?_
   refine aN rfl rfl (by constructor) ?_
   refine sE ?_
   show AW _ (.cond _ _ _) _ _ _
   refine cF' rfl ?_
   show AWl _ _ _ _ _
   refine aN rfl rfl (by constructor) ?_
   refine sE ?_
   show AWl _ _ _ _ _
   refine aN rfl rfl (by constructor) ?_
   refine aBld rfl (by repeat constructor) ?_
   refine aC (in_nil (us := [.int .u8 0, .int .u8 0, .int .u8 0, .int .u8 0, .int .u8 0, .int .u32 0, .int .u32 0, .int .u32 0, .int .u32 0, .int .u32 0, .int .u32 0, .int .u32 0, .int .u32 0, .slice none 0 0]) rfl) fun v189 H74 ⟨hv, st1⟩ => ?_
   subst hv
   replace st := st.call st1 rfl
   clear st1
   iterate 5 refine aN rfl rfl (by constructor) ?_
   refine sE ?_
   show AWl _ _ _ _ _
   refine aN rfl rfl (by constructor) ?_
   refine aN (v := .int .i64 0) rfl rfl (by constructor) ?_
   refine aBinV (.bool true) rfl rfl rfl ?_
   refine aN rfl rfl (by constructor) ?_
   refine gT rfl ?_
   refine aN rfl rfl (by constructor) ?_
   refine gT rfl ?_
   refine aN (v := .int .i64 0) rfl rfl (by constructor) ?_
   refine gT rfl ?_
   refine aBinV (.bool true) rfl rfl rfl ?_
   iterate 2 refine aN rfl rfl (by constructor) ?_
   refine gT rfl ?_
   refine aN rfl rfl (by constructor) ?_
   refine gT rfl ?_
   refine aBld rfl (by repeat constructor) ?_
   refine gT rfl ?_
   refine aC (end_nil (us := [.int .u8 0, .int .u8 0, .int .u16 0, .int .u64 0, .bool false, .int .i64 0, .int .i64 0, .bool false, .bool false, .slice none 0 0]) rfl) fun v203 H75 ⟨hv, st1⟩ => ?_
   subst hv
   replace st := st.call st1 rfl
   clear st1
   refine gT rfl ?_
   refine aN (v := .int .i64 0) rfl rfl (by constructor) ?_
   refine gT rfl ?_
   refine aBinV (.bool true) rfl rfl rfl ?_
   iterate 2 refine aN rfl rfl (by constructor) ?_
   refine gT rfl ?_
   refine aN rfl rfl (by constructor) ?_
   refine gT rfl ?_
   refine aC (told_nil) fun v209 H76 ⟨hv, st1⟩ => ?_
   subst hv
   replace st := st.call st1 rfl
   clear st1
   refine gT rfl ?_
   refine aN (v := .int .i64 0) rfl rfl (by constructor) ?_
   refine gT rfl ?_
   refine aBinV (.bool true) rfl rfl rfl ?_
   iterate 2 refine aN rfl rfl (by constructor) ?_
   refine gT rfl ?_
   refine aN rfl rfl (by constructor) ?_
   refine gT rfl ?_
   refine aC (forget_nil) fun v215 H77 ⟨hv, st1⟩ => ?_
   subst hv
   replace st := st.call st1 rfl
   clear st1
   refine gT rfl ?_
   iterate 3 refine aN rfl rfl (by constructor) ?_
   refine gT rfl ?_
   refine aN rfl rfl (by constructor) ?_
   refine gT rfl ?_
   refine aC (over_nil) fun v220 H78 ⟨hv, st1⟩ => ?_
   subst hv
   replace st := st.call st1 rfl
   clear st1
   refine gT rfl ?_
   iterate 3 refine aN rfl rfl (by constructor) ?_
   refine gT rfl ?_
   refine aN rfl rfl (by constructor) ?_
   refine gT rfl ?_
   refine aC (waits_nil) fun v225 H79 ⟨hv, st1⟩ => ?_
   subst hv
   replace st := st.call st1 rfl
   clear st1
   refine gT rfl ?_
   refine aBinV (.bool true) rfl rfl rfl ?_
   iterate 2 refine aN rfl rfl (by constructor) ?_
   refine gT rfl ?_
   refine aN rfl rfl (by constructor) ?_
   refine gT rfl ?_
   refine aC (next_nil) fun v230 H80 ⟨hv, st1⟩ => ?_
   subst hv
   replace st := st.call st1 rfl
   clear st1
   refine gT rfl ?_
   refine aBinV (.bool true) rfl rfl rfl ?_
   iterate 2 refine aN rfl rfl (by constructor) ?_
   refine sE ?_
   refine ⟨_, out1 (r_tmp rfl (by constructor)), ?_⟩
   rfl
theorem args2 {P : Program} {H : Hp} {B D : Nat} {a b : TypeId} {xs : List Value} (h : datArgs P H B D [a, b] xs) : ∃ x0 x1, xs = [x0, x1] ∧ datV P H B D a x0 ∧ datV P H B D b x1 := by
  match xs, h with
  | [x0, x1], ⟨d0, d1, _⟩ => exact ⟨x0, x1, rfl, d0, d1⟩
theorem sessNumbers_law {H : Hp} {B : Nat} {xs : List Value} (hro : Ro H) (hd : datArgs Try.prog H B 8 [23, 31] xs) : ACalls Try.prog 9 xs H fun v _ => v = .bool true := by
  obtain ⟨x0, x1, rfl, d0, d1⟩ := args2 hd
  obtain ⟨k, hx, wk, lk, _⟩ := arg_ints (e := 5) (k := .u8) (by kernel_rfl) (by kernel_rfl) (by kernel_rfl) d0
  obtain ⟨n, cs0, hs, hb, _, hdd⟩ := arg_slice (e := 37) (c := 14) (by kernel_rfl) (by kernel_rfl) d1
  exact numbers_call hx (wf_bytes wk) hs

end Go.Proofs.Ytloeadlmcdddnaa.Abs
