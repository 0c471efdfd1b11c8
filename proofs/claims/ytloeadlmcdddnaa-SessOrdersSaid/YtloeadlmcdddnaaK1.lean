/- Sums of 32 bits. -/
import Derived.Test.YtloeadlmcdddnaaK0
import Derived.Test.YtloeadlmcdddnaaS4
set_option linter.unusedVariables false
set_option linter.unusedSimpArgs false
set_option maxRecDepth 100000
namespace Go.Proofs.Ytloeadlmcdddnaa.Abs
open Go Go.RowKit
theorem add32_call {H : Hp} {xs : List Int} {x : Value} (hx : Sl H 1 xs.length (xs.map (Value.int .u8)) x) (hb : ByteL xs) (hl : xs.length ≤ 140737488351232) :
  ACalls Try.prog 49 [.int .u32 0, x] H (fun v H' => v = .int .u32 (c32 xs) ∧ Stt [] H H' []) := by
 refine acallsW Try.func49 f49_ok (Nat.le_of_ble_eq_true rfl) fun hw => ?_
 have st : Stt [] H H [] := Stt.start hw
 unfold f49c
 show AWl _ _ _ _ _
 refine aN rfl rfl (by constructor) ?_
 refine sE ?_
 show AWl _ _ _ _ _
 iterate 3 refine aN rfl rfl (by constructor) ?_
 refine sE ?_
 show AWl _ _ _ _ _
 refine aMovV x rfl ?_
 refine aLen (st.slc hx) rfl ?_
 refine aN rfl rfl (by constructor) ?_
 refine sE ?_
 show AW _ (.loop _) _ _ _
 refine AW_loopN (fun m t1 H1 => ∃ (j : Nat), m = xs.length - j ∧ (j ≤ xs.length) ∧ t1 0 = .int .u32 ((fold32 (xs.take j)).toNat : Int) ∧ t1 12 = .int .i64 (j : Int) ∧ Stt [] H H1 []) (xs.length - 0) ⟨0, rfl, by omega, congrArg (Value.int .u32) (by rw [List.take_zero]; decide), rfl, (st.sel [] (by decide))⟩ [0, 6, 7, 12, 13, 14, 15, 16, 17, 18, 19, 20, 21, 22, 23, 24, 25, 26, 27, 28, 29, 30, 31] (by decide) ?_
 rintro m t1 H1 hk hI
 obtain ⟨j, rfl, hj, ht0, ht12, st⟩ := hI
 obtain ⟨u, rfl⟩ : ∃ u, t1 = (upd (upd (mix [0, 6, 7, 12, 13, 14, 15, 16, 17, 18, 19, 20, 21, 22, 23, 24, 25, 26, 27, 28, 29, 30, 31] _ u) (some 0) _) (some 12) _) := ⟨t1, by rw [← hk, upd_self ht0, upd_self ht12]⟩
 clear hk ht0 ht12
 show AWl _ _ _ _ _
 refine aN rfl rfl (by constructor) ?_
 refine sE ?_
 show AW _ (.cond _ _ _) _ _ _
 refine cC' rfl (fun h1 => ?_) (fun h1 => ?_)
 ·have hlt : j < xs.length := by have := of_decide_eq_true h1; omega
  have hbj := hb.getD j
  show AWl _ _ _ _ _
  refine aIxB (st.slc hx) rfl rfl (by omega) fun b14 o14 g14 => ?_
  refine aLdG rfl g14 ?_
  refine aN rfl rfl (by constructor) ?_
  refine sE ?_
  show AWl _ _ _ _ _
  iterate 5 refine aN rfl rfl (by constructor) ?_
  refine sE ?_
  show AWl _ _ _ _ _
  refine aN rfl rfl (by constructor) ?_
  refine sE ?_
  show AW _ (.loop _) _ _ _
  refine AW_loopN (fun m t1 H1 => ∃ (i : Nat), m = 8 - i ∧ (i ≤ 8) ∧ t1 0 = .int .u32 ((it32 i ((fold32 (xs.take j)) ^^^ BitVec.ofNat 32 (xs.getD j 0).toNat)).toNat : Int) ∧ t1 20 = .int .i64 (i : Int) ∧ Stt [] H H1 []) (8 - 0) ⟨0, rfl, by omega, congrArg (Value.int .u32) (xorB _ hbj), rfl, (st.sel [] (by decide))⟩ [0, 7, 20, 21, 22, 23, 24, 25, 26, 27, 28, 29, 30] (by decide) ?_
  rintro m t1 H1 hk hI
  obtain ⟨i, rfl, hi8, ht0, ht20, st⟩ := hI
  obtain ⟨u, rfl⟩ : ∃ u, t1 = (upd (upd (mix [0, 7, 20, 21, 22, 23, 24, 25, 26, 27, 28, 29, 30] _ u) (some 0) _) (some 20) _) := ⟨t1, by rw [← hk, upd_self ht0, upd_self ht20]⟩
  clear hk ht0 ht20
  show AWl _ _ _ _ _
  refine aN rfl rfl (by constructor) ?_
  refine sE ?_
  show AW _ (.cond _ _ _) _ _ _
  refine cC' rfl (fun h2 => ?_) (fun h2 => ?_)
  ·have hi : i < 8 := by have := of_decide_eq_true h2; omega
   show AWl _ _ _ _ _
   iterate 3 refine aN rfl rfl (by constructor) ?_
   refine sE ?_
   show AWl _ _ _ _ _
   iterate 3 refine aN rfl rfl (by constructor) ?_
   refine sE ?_
   show AWl _ _ _ _ _
   iterate 2 refine aN rfl rfl (by constructor) ?_
   refine sE ?_
   show AW _ (.cond _ _ _) _ _ _
   refine cC' rfl (fun h3 => ?_) (fun h3 => ?_)
   ·show AWl _ _ _ _ _
    iterate 3 refine aN rfl rfl (by constructor) ?_
    refine sE ?_
    show AWl _ _ _ _ _
    iterate 2 refine aN rfl rfl (by constructor) ?_
    refine sE ?_
    exact ⟨_, by omega, i + 1, rfl, by omega, congrArg (Value.int .u32) (st32_t h3), congrArg (Value.int .i64) (wi _ (by omega)), (st.sel [] (by decide))⟩
   ·show AWl _ _ _ _ _
    iterate 2 refine aN rfl rfl (by constructor) ?_
    refine sE ?_
    exact ⟨_, by omega, i + 1, rfl, by omega, congrArg (Value.int .u32) (st32_f h3), congrArg (Value.int .i64) (wi _ (by omega)), (st.sel [] (by decide))⟩
  ·have hge8 : i = 8 := by have := of_decide_eq_false h2; omega
   subst hge8
   show AWl _ _ _ _ _
   iterate 2 refine aN rfl rfl (by constructor) ?_
   refine sE ?_
   exact ⟨_, by omega, j + 1, rfl, by omega, congrArg (fun r : BitVec 32 => Value.int .u32 (r.toNat : Int)) (fold_step hlt).symm, congrArg (Value.int .i64) (wi _ (by omega)), (st.sel [] (by decide))⟩
 ·have hge : j = xs.length := by have := of_decide_eq_false h1; omega
  subst hge
  show AWl _ _ _ _ _
  iterate 3 refine aN rfl rfl (by constructor) ?_
  refine sE ?_
  refine ⟨_, out1 (r_tmp rfl (by constructor)), ?_⟩
  exact ⟨congrArg (Value.int .u32) (by rw [List.take_length]; exact not32 _), st.drop⟩
end Go.Proofs.Ytloeadlmcdddnaa.Abs
