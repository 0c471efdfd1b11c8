/- Sessions: a command as bytes. -/
import Derived.Test.YtloeadlmcdddnaaZ1
set_option linter.unusedVariables false
set_option linter.unusedSimpArgs false
set_option maxRecDepth 100000
namespace Go.Proofs.Ytloeadlmcdddnaa.Abs
open Go Go.RowKit
variable {tg sg bu : Int}
theorem attr_call {H : Hp}  :
  ACalls Try.prog 42 [.int .u8 193] H (fun v H' => v = .int .u8 0 ∧ Stt [] H H' []) := by
 refine acallsW Try.func42 f42_ok (Nat.le_of_ble_eq_true rfl) fun hw => ?_
 have st : Stt [] H H [] := Stt.start hw
 unfold f42c
 show AWl _ _ _ _ _
 refine aN rfl rfl (by constructor) ?_
 refine sE ?_
 show AWl _ _ _ _ _
 refine aN rfl rfl (by constructor) ?_
 refine aBinV (.int .u8 1) rfl rfl rfl ?_
 refine sE ?_
 show AWl _ _ _ _ _
 refine aBinV (.bool false) rfl rfl rfl ?_
 refine aN rfl rfl (by constructor) ?_
 refine sE ?_
 show AW _ (.cond _ _ _) _ _ _
 refine cF' rfl ?_
 show AWl _ _ _ _ _
 refine aBinV (.bool false) rfl rfl rfl ?_
 refine aN rfl rfl (by constructor) ?_
 refine sE ?_
 show AW _ (.cond _ _ _) _ _ _
 refine cF' rfl ?_
 show AWl _ _ _ _ _
 refine aBinV (.bool false) rfl rfl rfl ?_
 refine aN rfl rfl (by constructor) ?_
 refine sE ?_
 show AW _ (.cond _ _ _) _ _ _
 refine cF' rfl ?_
 show AWl _ _ _ _ _
 refine aN rfl rfl (by constructor) ?_
 refine sE ?_
 refine ⟨_, out1 (r_tmp rfl (by constructor)), ?_⟩
 exact ⟨rfl, st.drop⟩
def w4 (x : Int) : List Int := [IntKind.u8.wrap (x.fdiv (2 ^ min (24 : Int).toNat IntKind.u32.bits)), IntKind.u8.wrap (x.fdiv (2 ^ min (16 : Int).toNat IntKind.u32.bits)), IntKind.u8.wrap (x.fdiv (2 ^ min (8 : Int).toNat IntKind.u32.bits)), IntKind.u8.wrap x]
def w4s (xs : List Int) (j : Nat) : List Int := (List.range j).flatMap fun i => w4 (xs.getD i 0)
theorem w4s_step (xs : List Int) (j : Nat) : w4s xs (j + 1) = w4s xs j ++ w4 (xs.getD j 0) := by unfold w4s; rw [List.range_succ, List.flatMap_append]; simp
theorem w4s_len (xs : List Int) (j : Nat) : (w4s xs j).length = 4 * j := by
  induction j with
  | zero => rfl
  | succ j ih => rw [w4s_step, List.length_append, ih]; simp [w4]; omega
theorem word_at {xs : List Int} {j : Nat} (h : j < xs.length) : (List.drop ((((j : Nat) : Int)).toNat * 1) (xs.map (Value.int .u32))).take 1 = [.int .u32 (xs.getD j 0)] := by
  refine drop_take_one ?_
  simp [List.getD, List.getElem?_eq_getElem h]
theorem wbytes_call {H : Hp} {xs : List Int} {x : Value} (hx : Sl H 1 xs.length (xs.map (Value.int .u32)) x) (hl : xs.length ≤ 1000) :
  ACalls Try.prog 43 [x] H (fun v H' => ∃ oc, v = accV oc (w4s xs xs.length).length 1 ∧ Stt [] H H' [⟨oc, true, ⟨true, 5, (w4s xs xs.length).map (Value.int .u8)⟩⟩]) := by
 refine acallsW Try.func43 f43_ok (Nat.le_of_ble_eq_true rfl) fun hw => ?_
 have st : Stt [] H H [] := Stt.start hw
 unfold f43c
 show AWl _ _ _ _ _
 refine aN rfl rfl (by constructor) ?_
 refine sE ?_
 show AWl _ _ _ _ _
 refine aN rfl rfl (by constructor) ?_
 refine sE ?_
 show AWl _ _ _ _ _
 refine aMovV x rfl ?_
 refine aLen (st.slc hx) rfl ?_
 refine aN rfl rfl (by constructor) ?_
 refine sE ?_
 show AW _ (.loop _) _ _ _
 have st := st.nil 5
 refine AW_loopN (fun m t1 H1 => ∃ (j : Nat) (oc : Option Nat), m = xs.length - j ∧ (j ≤ xs.length) ∧ t1 8 = .int .i64 (j : Int) ∧ t1 3 = accV oc (w4s xs j).length 1 ∧ Stt [] H H1 [⟨oc, true, ⟨true, 5, (w4s xs j).map (Value.int .u8)⟩⟩]) (xs.length - 0) ⟨0, none, rfl, by omega, rfl, rfl, (st.sel [0] (by decide))⟩ [3, 5, 8, 9, 10, 11, 12, 13, 14, 15, 16, 17, 18, 19, 20, 21, 22, 23, 24, 25, 26] (by decide) ?_
 rintro m t1 H1 hk hI
 obtain ⟨j, oc, rfl, hj, ht8, ht3, st⟩ := hI
 obtain ⟨u, rfl⟩ : ∃ u, t1 = (upd (upd (mix [3, 5, 8, 9, 10, 11, 12, 13, 14, 15, 16, 17, 18, 19, 20, 21, 22, 23, 24, 25, 26] _ u) (some 8) _) (some 3) _) := ⟨t1, by rw [← hk, upd_self ht8, upd_self ht3]⟩
 clear hk ht8 ht3
 show AWl _ _ _ _ _
 refine aN rfl rfl (by constructor) ?_
 refine sE ?_
 show AW _ (.cond _ _ _) _ _ _
 refine cC' rfl (fun h1 => ?_) (fun h1 => ?_)
 ·have hlt : j < xs.length := by have := of_decide_eq_true h1; omega
  show AWl _ _ _ _ _
  refine aIx (st.slc hx) rfl rfl (by omega) fun b10 o10 g10 => ?_
  rw [show (List.drop ((((j : Nat) : Int)).toNat * 1) (xs.map (Value.int .u32))).take 1 = [.int .u32 (xs.getD j 0)] from word_at hlt] at g10
  refine aLdG rfl g10 ?_
  refine aN rfl rfl (by constructor) ?_
  refine sE ?_
  show AWl _ _ _ _ _
  refine aMovA rfl ?_
  iterate 11 refine aN rfl rfl (by constructor) ?_
  refine aLit st rfl (by repeat constructor) fun b24 H2 st => ?_
  refine aApp st 1 (ob := oc) rfl rfl rfl (by decide) (by simp) (st.rowAll 0 rfl (by first | rfl | (simp [beB_len, *]; done) | (simp [beB_len, *]; omega))).src (rfl) (by simp [w4s_len]; omega) (by simp [w4s_len]; omega) fun b25 H3 hp25 st => ?_
  have st := st.recell 1 rfl (cs' := (w4s xs (j + 1)).map (Value.int .u8)) (by rw [w4s_step]; simp [w4])
  refine aMovA rfl ?_
  refine sE ?_
  show AWl _ _ _ _ _
  iterate 2 refine aN rfl rfl (by constructor) ?_
  refine sE ?_
  exact ⟨_, by omega, j + 1, b25, rfl, by omega, congrArg (Value.int .i64) (wi _ (by omega)), congrArg (fun n => accV _ n 1) (by rw [w4s_step]; simp [w4]), (st.sel [1] (by decide))⟩
 ·have hge : j = xs.length := by have := of_decide_eq_false h1; omega
  subst hge
  show AWl _ _ _ _ _
  refine aMovA rfl ?_
  refine aMovA rfl ?_
  refine sE ?_
  refine ⟨_, out1 (r_acc rfl), ?_⟩
  exact ⟨oc, rfl, st.pick 0 rfl⟩
end Go.Proofs.Ytloeadlmcdddnaa.Abs
