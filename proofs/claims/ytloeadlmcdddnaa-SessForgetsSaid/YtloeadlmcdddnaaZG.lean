/- SessForgets. -/
import Derived.Test.YtloeadlmcdddnaaZD
import Derived.Test.YtloeadlmcdddnaaZE
import Derived.Test.YtloeadlmcdddnaaZF
import Derived.Test.YtloeadlmcdddnaaZ7
set_option linter.unusedVariables false
set_option linter.unusedSimpArgs false
set_option maxRecDepth 100000
namespace Go.Proofs.Ytloeadlmcdddnaa.Abs
open Go Go.RowKit
variable {tg sg bu : Int}
theorem mkz (n : Nat) : mkCells [Value.int .u8 0] n = (List.replicate n (0 : Int)).map (Value.int .u8) := by
  apply List.ext_getElem
  · simp [mkCells]
  · intro i h1 h2
    simp [mkCells, Nat.mod_one]
theorem byteL_zeros (n : Nat) : ByteL (List.replicate n (0 : Int)) := zeros_bytes n
theorem wf_fg {n : Int} {m : Nat} (hn : 0 ≤ n ∧ n < 256) (hm : m ≤ 300) {rdy : Int} (hr : B32 rdy) : ({ op := 5, fl := 128, res := 0, st := 0, lun := 0, tag := 7, w0 := rdy, w1 := 0, w2 := 0, w3 := 0, w4 := 0, w5 := 0, w6 := 0, data := List.replicate m 0 } : Pd).wf := by
  refine ⟨⟨(show (0 : Int) ≤ 5 ∧ (5 : Int) < 256 by decide), (show (0 : Int) ≤ 128 ∧ (128 : Int) < 256 by decide), (show (0 : Int) ≤ 0 ∧ (0 : Int) < 256 by decide), (show (0 : Int) ≤ 0 ∧ (0 : Int) < 256 by decide), (show (0 : Int) ≤ 0 ∧ (0 : Int) < 256 by decide)⟩, (show (0 : Int) ≤ 7 ∧ (7 : Int) < 4294967296 by decide), ?_, byteL_zeros m, by simp; omega⟩
  intro w hw
  simp only [Pd.ws, List.mem_cons, List.not_mem_nil, or_false] at hw
  rcases hw with rfl | rfl | rfl | rfl | rfl | rfl | rfl
  · exact hr
  all_goals exact (show (0 : Int) ≤ 0 ∧ (0 : Int) < 4294967296 by decide)
theorem forgets_f {H : Hp} {n : Int} (hn0 : 0 ≤ n ∧ n < 256) :
  ACalls Try.prog 8 [.int .u8 n, .bool false] H (fun v _ => v = .bool true) := by
 refine acallsW Try.func8 f8_ok (Nat.le_of_ble_eq_true rfl) fun hw => ?_
 have st : Stt [] H H [] := Stt.start hw
 unfold f8c
 show AWl _ _ _ _ _
 refine aN rfl rfl (by constructor) ?_
 refine sE ?_
 show AWl _ _ _ _ _
 refine aC (awake_call) fun v14 H1 ⟨hv, st1⟩ => ?_
 subst hv
 replace st := st.call st1 rfl
 clear st1
 refine aN rfl rfl (by constructor) ?_
 refine sE ?_
 show AW _ (.cond _ _ _) _ _ _
 refine cF' rfl ?_
 show AWl _ _ _ _ _
 refine aC (plain_call) fun v16 H2 ⟨hv, st1⟩ => ?_
 subst hv
 replace st := st.call st1 rfl
 clear st1
 refine aC (new_call) fun v17 H3 ⟨b17, hv, st1⟩ => ?_
 subst hv
 replace st := st.call st1 rfl
 clear st1
 refine aN rfl rfl (by constructor) ?_
 refine sE ?_
 show AWl _ _ _ _ _
 refine aN rfl rfl (by constructor) ?_
 refine aConvV (n' := n) rfl (by rw [w32, Int.emod_eq_of_lt (by omega) (by omega)]) ?_
 refine aC (read_call) fun v20 H4 ⟨hv, st1⟩ => ?_
 subst hv
 replace st := st.call st1 rfl
 clear st1
 refine aNewP st rfl rfl (by repeat constructor) fun b6 H5 st => ?_
 refine aSt st 0 rfl rfl rfl rfl (by first | rfl | simp [cellsOf, *]) (by first | decide | (simp [*]; done) | (simp [k8]; done)) (by repeat constructor) fun H6 st => ?_
 refine sE ?_
 show AWl _ _ _ _ _
 refine aN rfl rfl (by constructor) ?_
 refine sE ?_
 show AW _ (.cond _ _ _) _ _ _
 refine cF' rfl ?_
 show AWl _ _ _ _ _
 refine aN rfl rfl (by constructor) ?_
 refine aLdA st 0 rfl rfl (by first | decide | simp [*]) (by repeat constructor) ?_
 refine aC (in_read (st.get (j := 1) rfl)) fun v31 H7 ⟨c31, oc31, rb31, hv, st1⟩ => ?_
 subst hv
 replace st := st.callX 1 rfl st1 rfl
 clear st1
 obtain ⟨rx31, rfl⟩ := st.isSome 3 rfl (fun h => by cases h)
 iterate 5 refine aN rfl rfl (by constructor) ?_
 refine sE ?_
 show AWl _ _ _ _ _
 refine aN rfl rfl (by constructor) ?_
 refine aN (v := .int .i64 1) rfl rfl (by constructor) ?_
 refine aBinV (.bool true) rfl rfl rfl ?_
 refine aN rfl rfl (by constructor) ?_
 refine aBinV (.bool false) rfl rfl (rfl) ?_
 refine aN rfl rfl (by constructor) ?_
 refine gT rfl ?_
 refine aN rfl rfl (by constructor) ?_
 refine gT rfl ?_
 refine aC (waits_n (st.get (j := 0) rfl)) fun v41 H8 ⟨hv, st1⟩ => ?_
 subst hv
 replace st := st.call st1 rfl
 clear st1
 refine gT rfl ?_
 refine aBinV (.bool false) rfl rfl rfl ?_
 iterate 2 refine aN rfl rfl (by constructor) ?_
 refine gT rfl ?_
 refine aN rfl rfl (by constructor) ?_
 refine gT rfl ?_
 refine aC (forget_r (st.get (j := 0) rfl) (st.get (j := 3) rfl) (by have := st.ne 3 0 rfl rfl (by decide); simpa using this)) fun v46 H9 ⟨hv, st1⟩ => ?_
 subst hv
 replace st := st.callX 0 rfl st1 rfl
 clear st1
 refine gT rfl ?_
 iterate 3 refine aN rfl rfl (by constructor) ?_
 refine gT rfl ?_
 refine aN rfl rfl (by constructor) ?_
 refine gT rfl ?_
 refine aC (forget_n (st.get (j := 0) rfl)) fun v51 H10 ⟨hv, st1⟩ => ?_
 subst hv
 replace st := st.callX 0 rfl st1 rfl
 clear st1
 iterate 2 refine aN rfl rfl (by constructor) ?_
 refine gT rfl ?_
 refine aN rfl rfl (by constructor) ?_
 refine gT rfl ?_
 refine aC (waits_n (st.get (j := 0) rfl)) fun v55 H11 ⟨hv, st1⟩ => ?_
 subst hv
 replace st := st.call st1 rfl
 clear st1
 refine gT rfl ?_
 refine aBinV (.bool false) rfl rfl rfl ?_
 iterate 2 refine aN rfl rfl (by constructor) ?_
 refine gT rfl ?_
 refine aN rfl rfl (by constructor) ?_
 refine gT rfl ?_
 refine aBld rfl (by repeat constructor) ?_
 refine gT rfl ?_
 refine aC (end_n (st.get (j := 0) rfl)) fun v61 H12 ⟨hv, st1⟩ => ?_
 subst hv
 replace st := st.callX 0 rfl st1 rfl
 clear st1
 refine gT rfl ?_
 refine aN (v := .int .i64 0) rfl rfl (by constructor) ?_
 refine gT rfl ?_
 refine aBinV (.bool false) rfl rfl rfl ?_
 refine aN rfl rfl (by constructor) ?_
 refine sE ?_
 show AW _ (.cond _ _ _) _ _ _
 refine cF' rfl ?_
 show AWl _ _ _ _ _
 refine aN rfl rfl (by constructor) ?_
 refine sE ?_
 show AW _ (.cond _ _ _) _ _ _
 refine cF' rfl ?_
 show AWl _ _ _ _ _
 refine aN rfl rfl (by constructor) ?_
 refine aC (read_call) fun v107 H13 ⟨hv, st1⟩ => ?_
 subst hv
 replace st := st.call st1 rfl
 clear st1
 refine aC (in_read (cmd := 2) (st.get (j := 0) rfl)) fun v108 H14 ⟨c108, oc108, rb108, hv, st1⟩ => ?_
 subst hv
 replace st := st.callX 0 rfl st1 rfl
 clear st1
 obtain ⟨rx108, rfl⟩ := st.isSome 3 rfl (fun h => by cases h)
 iterate 5 refine aN rfl rfl (by constructor) ?_
 refine sE ?_
 show AWl _ _ _ _ _
 refine aN rfl rfl (by constructor) ?_
 refine aN (v := .int .i64 1) rfl rfl (by constructor) ?_
 refine aBinV (.bool true) rfl rfl rfl ?_
 refine aN rfl rfl (by constructor) ?_
 refine sE ?_
 refine ⟨_, out1 (r_tmp rfl (by constructor)), ?_⟩
 rfl
theorem forgets_t {H : Hp} {n : Int} (hn0 : 0 ≤ n ∧ n < 256) :
  ACalls Try.prog 8 [.int .u8 n, .bool true] H (fun v _ => v = .bool true) := by
 refine acallsW Try.func8 f8_ok (Nat.le_of_ble_eq_true rfl) fun hw => ?_
 have st : Stt [] H H [] := Stt.start hw
 unfold f8c
 show AWl _ _ _ _ _
 refine aN rfl rfl (by constructor) ?_
 refine sE ?_
 show AWl _ _ _ _ _
 refine aC (awake_call) fun v14 H1 ⟨hv, st1⟩ => ?_
 subst hv
 replace st := st.call st1 rfl
 clear st1
 refine aN rfl rfl (by constructor) ?_
 refine sE ?_
 show AW _ (.cond _ _ _) _ _ _
 refine cF' rfl ?_
 show AWl _ _ _ _ _
 refine aC (plain_call) fun v16 H2 ⟨hv, st1⟩ => ?_
 subst hv
 replace st := st.call st1 rfl
 clear st1
 refine aC (new_call) fun v17 H3 ⟨b17, hv, st1⟩ => ?_
 subst hv
 replace st := st.call st1 rfl
 clear st1
 refine aN rfl rfl (by constructor) ?_
 refine sE ?_
 show AWl _ _ _ _ _
 refine aN rfl rfl (by constructor) ?_
 refine aConvV (n' := n) rfl (by rw [w32, Int.emod_eq_of_lt (by omega) (by omega)]) ?_
 refine aC (read_call) fun v20 H4 ⟨hv, st1⟩ => ?_
 subst hv
 replace st := st.call st1 rfl
 clear st1
 refine aNewP st rfl rfl (by repeat constructor) fun b6 H5 st => ?_
 refine aSt st 0 rfl rfl rfl rfl (by first | rfl | simp [cellsOf, *]) (by first | decide | (simp [*]; done) | (simp [k8]; done)) (by repeat constructor) fun H6 st => ?_
 refine sE ?_
 show AWl _ _ _ _ _
 refine aN rfl rfl (by constructor) ?_
 refine sE ?_
 show AW _ (.cond _ _ _) _ _ _
 refine cT rfl ?_
 show AWl _ _ _ _ _
 refine aN rfl rfl (by constructor) ?_
 refine aSt st 0 rfl rfl rfl rfl (by first | rfl | simp [cellsOf, *]) (by first | decide | (simp [*]; done) | (simp [k8]; done)) (by repeat constructor) fun H7 st => ?_
 refine sE ?_
 show AWl _ _ _ _ _
 refine aN rfl rfl (by constructor) ?_
 refine aConvV (n' := n) rfl (by rw [w32, Int.emod_eq_of_lt (by omega) (by omega)]) ?_
 refine aBinV (.int .u32 (32 + n)) rfl rfl (by show some (Value.int .u32 (IntKind.u32.wrap (32 + n))) = _; rw [w32, Int.emod_eq_of_lt (by omega) (by omega)]) ?_
 iterate 2 refine aN rfl rfl (by constructor) ?_
 refine aSt st 0 rfl rfl rfl rfl (by first | rfl | simp [cellsOf, *]) (by first | decide | (simp [*]; done) | (simp [k8]; done)) (by repeat constructor) fun H8 st => ?_
 refine sE ?_
 show AWl _ _ _ _ _
 refine aN rfl rfl (by constructor) ?_
 refine aLdA st 0 rfl rfl (by first | decide | simp [*]) (by repeat constructor) ?_
 refine aC (in_w (kn := 0) (n := 32 + n) (st.get (j := 1) rfl) (by omega)) fun v31 H9 ⟨c31, wb, rb, cdb, hv, st1⟩ => ?_
 subst hv
 replace st := st.callX 1 rfl st1 rfl
 clear st1
 iterate 5 refine aN rfl rfl (by constructor) ?_
 refine sE ?_
 show AWl _ _ _ _ _
 refine aN rfl rfl (by constructor) ?_
 refine aN (v := .int .i64 0) rfl rfl (by constructor) ?_
 refine aBinV (.bool false) rfl rfl rfl ?_
 refine aN rfl rfl (by constructor) ?_
 refine aBinV (.bool false) rfl rfl (rfl) ?_
 refine aN rfl rfl (by constructor) ?_
 refine gT rfl ?_
 refine aN rfl rfl (by constructor) ?_
 refine gT rfl ?_
 refine aC (waits_n (st.get (j := 0) rfl)) fun v41 H10 ⟨hv, st1⟩ => ?_
 subst hv
 replace st := st.call st1 rfl
 clear st1
 refine gT rfl ?_
 refine aBinV (.bool false) rfl rfl rfl ?_
 iterate 2 refine aN rfl rfl (by constructor) ?_
 refine gT rfl ?_
 refine aN rfl rfl (by constructor) ?_
 refine gT rfl ?_
 refine aC (forget_w (st.get (j := 0) rfl) (st.get (j := 3) rfl) (by have := st.ne 3 0 rfl rfl (by decide); simpa using this) (st.get (j := 2) rfl) (by have := st.ne 2 0 rfl rfl (by decide); simpa using this) (by have := st.ne 2 3 rfl rfl (by decide); simpa using this)) fun v46 H11 ⟨hv, st1⟩ => ?_
 subst hv
 replace st := st.callX 0 rfl st1 rfl
 clear st1
 refine gT rfl ?_
 iterate 3 refine aN rfl rfl (by constructor) ?_
 refine gT rfl ?_
 refine aN rfl rfl (by constructor) ?_
 refine gT rfl ?_
 refine aC (forget_n (st.get (j := 0) rfl)) fun v51 H12 ⟨hv, st1⟩ => ?_
 subst hv
 replace st := st.callX 0 rfl st1 rfl
 clear st1
 iterate 2 refine aN rfl rfl (by constructor) ?_
 refine gT rfl ?_
 refine aN rfl rfl (by constructor) ?_
 refine gT rfl ?_
 refine aC (waits_n (st.get (j := 0) rfl)) fun v55 H13 ⟨hv, st1⟩ => ?_
 subst hv
 replace st := st.call st1 rfl
 clear st1
 refine gT rfl ?_
 refine aBinV (.bool false) rfl rfl rfl ?_
 iterate 2 refine aN rfl rfl (by constructor) ?_
 refine gT rfl ?_
 refine aN rfl rfl (by constructor) ?_
 refine gT rfl ?_
 refine aBld rfl (by repeat constructor) ?_
 refine gT rfl ?_
 refine aC (end_n (st.get (j := 0) rfl)) fun v61 H14 ⟨hv, st1⟩ => ?_
 subst hv
 replace st := st.callX 0 rfl st1 rfl
 clear st1
 refine gT rfl ?_
 refine aN (v := .int .i64 0) rfl rfl (by constructor) ?_
 refine gT rfl ?_
 refine aBinV (.bool false) rfl rfl rfl ?_
 refine aN rfl rfl (by constructor) ?_
 refine sE ?_
 show AW _ (.cond _ _ _) _ _ _
 refine cF' rfl ?_
 show AWl _ _ _ _ _
 refine aN rfl rfl (by constructor) ?_
 refine sE ?_
 show AW _ (.cond _ _ _) _ _ _
 refine cT rfl ?_
 show AWp _ _ _ _ _
 iterate 4 refine aN rfl rfl (by constructor) ?_
 refine aLd st 1 rfl rfl rfl (by constructor) ?_
 refine aBld rfl (by repeat constructor) ?_
 refine aN rfl rfl (by constructor) ?_
 refine aConvV (n' := n) rfl (wi _ (by omega)) ?_
 refine aBinV (.int .i64 (32 + n)) rfl rfl (by show some (Value.int .i64 (IntKind.i64.wrap (32 + n))) = _; rw [wi _ (by omega)]) ?_
 refine ⟨?_, ?_⟩
 ·refine aMake (m := (32 + n).toNat) st rfl rfl (by omega) (by omega) (by omega) (by omega) fun b75 H15 st => ?_
  rw [mkz] at st
  refine ⟨⟨(h_Ld st 2 rfl rfl rfl (by constructor)), trivial⟩, ?_⟩
  refine aBld rfl (by repeat constructor) ?_
  refine ⟨?_, trivial⟩
  refine aNewP st rfl rfl (by repeat constructor) fun b9 H16 st => ?_
  refine ⟨⟨(h_Ld st 3 rfl rfl rfl (by constructor)), trivial⟩, ?_⟩
  refine ⟨?_, trivial⟩
  refine aSt st 0 rfl rfl rfl rfl (by first | rfl | simp [cellsOf, *]) (by first | decide | (simp [*]; done) | (simp [k8]; done)) (by repeat constructor) fun H17 st => ?_
  refine ⟨trivial, ?_⟩
  refine pE ?_
  show AWl _ _ _ _ _
  have hx0 : Sl _ 1 (32 + n).toNat ((List.replicate (32 + n).toNat (0 : Int)).map (Value.int .u8)) (accV (some b75) (32 + n).toNat 1) := st.rowAcc (ob := some b75) 1 rfl (by decide) (by rw [List.length_map, List.length_replicate, Nat.mul_one])
  have hx1 : Sl H17 1 (List.replicate (32 + n).toNat (0 : Int)).length ((List.replicate (32 + n).toNat (0 : Int)).map (Value.int .u8)) (.slice (some ⟨b75, 0, none⟩) (32 + n).toNat 1) := by rw [List.length_replicate]; exact hx0
  have hap1 : Apart b17 (.slice (some ⟨b75, 0, none⟩) (32 + n).toNat 1) := acc_apart (ob := some b75) (st.ne 1 2 rfl rfl (by decide))
  refine aN rfl rfl (by constructor) ?_
  refine aLdA st 0 rfl rfl (by first | decide | simp [*]) (by repeat constructor) ?_
  refine aC (in_data0 (p := { op := 5, fl := 128, res := 0, st := 0, lun := 0, tag := 7, w0 := IntKind.u32.wrap (0 + 1), w1 := 0, w2 := 0, w3 := 0, w4 := 0, w5 := 0, w6 := 0, data := List.replicate (32 + n).toNat 0 }) (st.get (j := 2) rfl) (wf_fg hn0 (by omega) (show (0 : Int) ≤ IntKind.u32.wrap (0 + 1) ∧ IntKind.u32.wrap (0 + 1) < 4294967296 by decide)) hx1 hap1 (by simp; omega)) fun v80 H18 ⟨c80, bp80, zs, hv, hz, st1⟩ => ?_
  subst hv
  replace st := st.callX 2 rfl st1 rfl
  clear st1
  iterate 5 refine aN rfl rfl (by constructor) ?_
  refine sE ?_
  show AWl _ _ _ _ _
  refine aN rfl rfl (by constructor) ?_
  refine aN (v := .int .i64 0) rfl rfl (by constructor) ?_
  refine aBinV (.bool false) rfl rfl rfl ?_
  refine aN rfl rfl (by constructor) ?_
  refine gT rfl ?_
  refine aN rfl rfl (by constructor) ?_
  refine gT rfl ?_
  refine aN (v := .int .i64 1) rfl rfl (by constructor) ?_
  refine gT rfl ?_
  refine aBinV (.bool false) rfl rfl rfl ?_
  iterate 2 refine aN rfl rfl (by constructor) ?_
  refine gT rfl ?_
  refine aN rfl rfl (by constructor) ?_
  refine gT rfl ?_
  refine aN rfl rfl (by constructor) ?_
  refine gT rfl ?_
  refine aN rfl rfl (by constructor) ?_
  refine gT rfl ?_
  refine aLd st 1 rfl rfl rfl (by constructor) ?_
  refine gT rfl ?_
  refine aBinV (.bool false) rfl rfl rfl ?_
  iterate 2 refine aN rfl rfl (by constructor) ?_
  refine gT rfl ?_
  refine aN rfl rfl (by constructor) ?_
  refine gT rfl ?_
  refine aN rfl rfl (by constructor) ?_
  refine gT rfl ?_
  refine aN rfl rfl (by constructor) ?_
  refine gT rfl ?_
  refine aLd st 1 rfl rfl rfl (by constructor) ?_
  refine gT rfl ?_
  refine aBinV (.bool false) rfl rfl rfl ?_
  refine aN rfl rfl (by constructor) ?_
  refine sE ?_
  show AW _ (.cond _ _ _) _ _ _
  refine cF' rfl ?_
  show AWl _ _ _ _ _
  refine aN rfl rfl (by constructor) ?_
  refine aC (read_call) fun v107 H19 ⟨hv, st1⟩ => ?_
  subst hv
  replace st := st.call st1 rfl
  clear st1
  refine aC (in_read (cmd := 2) (st.get (j := 0) rfl)) fun v108 H20 ⟨c108, oc108, rb108, hv, st1⟩ => ?_
  subst hv
  replace st := st.callX 0 rfl st1 rfl
  clear st1
  obtain ⟨rx108, rfl⟩ := st.isSome 3 rfl (fun h => by cases h)
  iterate 5 refine aN rfl rfl (by constructor) ?_
  refine sE ?_
  show AWl _ _ _ _ _
  refine aN rfl rfl (by constructor) ?_
  refine aN (v := .int .i64 1) rfl rfl (by constructor) ?_
  refine aBinV (.bool true) rfl rfl rfl ?_
  refine aN rfl rfl (by constructor) ?_
  refine sE ?_
  refine ⟨_, out1 (r_tmp rfl (by constructor)), ?_⟩
  rfl
 ·refine ⟨?_, trivial⟩
  refine aNewP st rfl rfl (by repeat constructor) fun b9 H21 st => ?_
  refine ⟨⟨(h_Ld st 2 rfl rfl rfl (by constructor)), trivial⟩, ?_⟩
  refine ⟨?_, trivial⟩
  refine aMake (m := (32 + n).toNat) st rfl rfl (by omega) (by omega) (by omega) (by omega) fun b75 H22 st => ?_
  rw [mkz] at st
  refine ⟨⟨(h_Ld st 3 rfl rfl rfl (by constructor)), trivial⟩, ?_⟩
  refine aBld rfl (by repeat constructor) ?_
  refine ⟨?_, trivial⟩
  refine aSt st 1 rfl rfl rfl rfl (by first | rfl | simp [cellsOf, *]) (by first | decide | (simp [*]; done) | (simp [k8]; done)) (by repeat constructor) fun H23 st => ?_
  refine ⟨trivial, ?_⟩
  refine pE ?_
  show AWl _ _ _ _ _
  have hx0 : Sl _ 1 (32 + n).toNat ((List.replicate (32 + n).toNat (0 : Int)).map (Value.int .u8)) (accV (some b75) (32 + n).toNat 1) := st.rowAcc (ob := some b75) 0 rfl (by decide) (by rw [List.length_map, List.length_replicate, Nat.mul_one])
  have hx1 : Sl H23 1 (List.replicate (32 + n).toNat (0 : Int)).length ((List.replicate (32 + n).toNat (0 : Int)).map (Value.int .u8)) (.slice (some ⟨b75, 0, none⟩) (32 + n).toNat 1) := by rw [List.length_replicate]; exact hx0
  have hap1 : Apart b17 (.slice (some ⟨b75, 0, none⟩) (32 + n).toNat 1) := acc_apart (ob := some b75) (st.ne 0 2 rfl rfl (by decide))
  refine aN rfl rfl (by constructor) ?_
  refine aLdA st 1 rfl rfl (by first | decide | simp [*]) (by repeat constructor) ?_
  refine aC (in_data0 (p := { op := 5, fl := 128, res := 0, st := 0, lun := 0, tag := 7, w0 := IntKind.u32.wrap (0 + 1), w1 := 0, w2 := 0, w3 := 0, w4 := 0, w5 := 0, w6 := 0, data := List.replicate (32 + n).toNat 0 }) (st.get (j := 2) rfl) (wf_fg hn0 (by omega) (show (0 : Int) ≤ IntKind.u32.wrap (0 + 1) ∧ IntKind.u32.wrap (0 + 1) < 4294967296 by decide)) hx1 hap1 (by simp; omega)) fun v80 H24 ⟨c80, bp80, zs, hv, hz, st1⟩ => ?_
  subst hv
  replace st := st.callX 2 rfl st1 rfl
  clear st1
  iterate 5 refine aN rfl rfl (by constructor) ?_
  refine sE ?_
  show AWl _ _ _ _ _
  refine aN rfl rfl (by constructor) ?_
  refine aN (v := .int .i64 0) rfl rfl (by constructor) ?_
  refine aBinV (.bool false) rfl rfl rfl ?_
  refine aN rfl rfl (by constructor) ?_
  refine gT rfl ?_
  refine aN rfl rfl (by constructor) ?_
  refine gT rfl ?_
  refine aN (v := .int .i64 1) rfl rfl (by constructor) ?_
  refine gT rfl ?_
  refine aBinV (.bool false) rfl rfl rfl ?_
  iterate 2 refine aN rfl rfl (by constructor) ?_
  refine gT rfl ?_
  refine aN rfl rfl (by constructor) ?_
  refine gT rfl ?_
  refine aN rfl rfl (by constructor) ?_
  refine gT rfl ?_
  refine aN rfl rfl (by constructor) ?_
  refine gT rfl ?_
  refine aLd st 1 rfl rfl rfl (by constructor) ?_
  refine gT rfl ?_
  refine aBinV (.bool false) rfl rfl rfl ?_
  iterate 2 refine aN rfl rfl (by constructor) ?_
  refine gT rfl ?_
  refine aN rfl rfl (by constructor) ?_
  refine gT rfl ?_
  refine aN rfl rfl (by constructor) ?_
  refine gT rfl ?_
  refine aN rfl rfl (by constructor) ?_
  refine gT rfl ?_
  refine aLd st 1 rfl rfl rfl (by constructor) ?_
  refine gT rfl ?_
  refine aBinV (.bool false) rfl rfl rfl ?_
  refine aN rfl rfl (by constructor) ?_
  refine sE ?_
  show AW _ (.cond _ _ _) _ _ _
  refine cF' rfl ?_
  show AWl _ _ _ _ _
  refine aN rfl rfl (by constructor) ?_
  refine aC (read_call) fun v107 H25 ⟨hv, st1⟩ => ?_
  subst hv
  replace st := st.call st1 rfl
  clear st1
  refine aC (in_read (cmd := 2) (st.get (j := 0) rfl)) fun v108 H26 ⟨c108, oc108, rb108, hv, st1⟩ => ?_
  subst hv
  replace st := st.callX 0 rfl st1 rfl
  clear st1
  obtain ⟨rx108, rfl⟩ := st.isSome 3 rfl (fun h => by cases h)
  iterate 5 refine aN rfl rfl (by constructor) ?_
  refine sE ?_
  show AWl _ _ _ _ _
  refine aN rfl rfl (by constructor) ?_
  refine aN (v := .int .i64 1) rfl rfl (by constructor) ?_
  refine aBinV (.bool true) rfl rfl rfl ?_
  refine aN rfl rfl (by constructor) ?_
  refine sE ?_
  refine ⟨_, out1 (r_tmp rfl (by constructor)), ?_⟩
  rfl
theorem args2 {P : Program} {H : Hp} {B D : Nat} {a b : TypeId} {xs : List Value} (h : datArgs P H B D [a, b] xs) : ∃ x0 x1, xs = [x0, x1] ∧ datV P H B D a x0 ∧ datV P H B D b x1 := by
  match xs, h with
  | [x0, x1], ⟨d0, d1, _⟩ => exact ⟨x0, x1, rfl, d0, d1⟩
theorem r8' {n : Int} (h : (Lit.int .u8 n).wf = true) : 0 ≤ n ∧ n < 256 := by
  simp [Lit.wf, IntKind.min, IntKind.max, IntKind.signed, IntKind.bits] at h
  omega
theorem sessForgets_law {H : Hp} {B : Nat} {xs : List Value} (hro : Ro H) (hd : datArgs Try.prog H B 8 [5, 4] xs) : ACalls Try.prog 8 xs H fun v _ => v = .bool true := by
  obtain ⟨x0, x1, rfl, d0, d1⟩ := args2 hd
  obtain ⟨n, rfl, wn⟩ := arg_int (k := .u8) (by kernel_rfl) d0
  obtain ⟨w, rfl⟩ := arg_bool (by kernel_rfl) d1
  cases w
  · exact forgets_f (r8' wn)
  · exact forgets_t (r8' wn)

end Go.Proofs.Ytloeadlmcdddnaa.Abs
