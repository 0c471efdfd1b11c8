/- Reservations: scripts. -/
import Derived.Test.YtihkghfmihdicaaT6
import Derived.Test.YtihkghfmihdicaaT7
import Derived.Test.YtihkghfmihdicaaTP
set_option linter.unusedVariables false
set_option linter.unusedSimpArgs false
set_option maxRecDepth 100000
namespace Go.Proofs.Ytihkghfmihdicaa.Abs
open Go Go.RowKit
theorem new_call {H : Hp}  :
  ACalls Try.prog 21 [] H (fun v H' => ∃ b, v = .pointer (some ⟨b, 0, none⟩) ∧ Stt [] H H' [⟨some b, true, ⟨true, 79, [accV none PT0.regs.length 2, .int .u32 PT0.gen, .int .u8 PT0.kind, .int .i64 PT0.holder, .bool PT0.aptpl]⟩⟩]) := by
 refine acallsW Try.func21 f21_ok (Nat.le_of_ble_eq_true rfl) fun hw => ?_
 have st : Stt [] H H [] := Stt.start hw
 unfold f21c
 show AWl _ _ _ _ _
 refine aN rfl rfl (by constructor) ?_
 refine sE ?_
 show AWl _ _ _ _ _
 refine aBld rfl (by repeat constructor) ?_
 refine aBoxN st rfl rfl (by repeat constructor) rfl fun b2 H1 st => ?_
 refine aN rfl rfl (by constructor) ?_
 refine sE ?_
 refine ⟨_, out1 (r_tmp rfl (by constructor)), ?_⟩
 exact ⟨b2, rfl, st.pick 0 rfl⟩
theorem awake_call {H : Hp}  :
  ACalls Try.prog 11 [] H (fun v H' => v = .bool true ∧ Stt [] H H' []) := by
 refine acallsW Try.func11 f11_ok (Nat.le_of_ble_eq_true rfl) fun hw => ?_
 have st : Stt [] H H [] := Stt.start hw
 unfold f11c
 show AWl _ _ _ _ _
 refine aN rfl rfl (by constructor) ?_
 refine sE ?_
 show AWl _ _ _ _ _
 refine aC (new_call) fun v6 H1 ⟨b6, hv, st1⟩ => ?_
 subst hv
 replace st := st.call st1 rfl
 clear st1
 have st := st.nil 30
 refine aN rfl rfl (by constructor) ?_
 refine sE ?_
 show AWl _ _ _ _ _
 refine aN rfl rfl (by constructor) ?_
 refine aBld rfl (by repeat constructor) ?_
 replace st := st.sel [1, 0] (by decide)
 refine aC (do_call (P := PT0) (n := 1) (o := ⟨6, 0, 0, 7, false⟩) (st.get (j := 0) rfl) (st.got 1 rfl).1 (st.got 1 rfl).2 (by decide) (st.ne 1 0 rfl rfl (by decide))) fun v10 H2 ⟨o10, e10, hv, hc⟩ => ?_
 subst hv
 rw [show doM PT0 1 ⟨6, 0, 0, 7, false⟩ = ⟨0, 0, [], (⟨[(1, 7)], 1, 0, -1, false⟩ : PT)⟩ from rfl] at hc ⊢
 replace st := st.tabCall (kr' := ⟨true, 30, (((⟨[(1, 7)], 1, 0, -1, false⟩ : PT)).regs).flatMap regE⟩) rfl (hc.imp (fun ⟨a, b, c⟩ => ⟨a, congrArg (fun l : List (Int × Int) => (⟨true, 30, l.flatMap regE⟩ : Blk)) b, c⟩) id)
 clear hc
 iterate 3 refine aN rfl rfl (by constructor) ?_
 refine aExtA rfl rfl ?_
 iterate 2 refine aN rfl rfl (by constructor) ?_
 refine aMovA rfl ?_
 refine sE ?_
 show AWl _ _ _ _ _
 refine aN rfl rfl (by constructor) ?_
 refine aC (regs_call (P := (⟨[(1, 7)], 1, 0, -1, false⟩ : PT)) (st.get (j := 0) rfl) (st.rowAcc 1 rfl (by decide) (flat_len' regE_len _)) (by decide)) fun v15 H3 ⟨oc15, hv, st1⟩ => ?_
 subst hv
 replace st := st.call st1 rfl
 clear st1
 refine aMovA rfl ?_
 refine sE ?_
 show AWl _ _ _ _ _
 refine aN rfl rfl (by constructor) ?_
 refine aBinV (.bool true) rfl rfl rfl ?_
 refine aN rfl rfl (by constructor) ?_
 refine gT rfl ?_
 refine aMovA rfl ?_
 refine gT rfl ?_
 refine aLen (st.rowAcc 0 rfl (by decide) (by exact flat_len' regE_len _)) rfl ?_
 refine gT rfl ?_
 refine aBinV (.bool true) rfl rfl rfl ?_
 iterate 2 refine aN rfl rfl (by constructor) ?_
 refine gT rfl ?_
 refine aMovA rfl ?_
 refine gT rfl ?_
 refine aIxE regE_len (0, 0) (l := (⟨[(1, 7)], 1, 0, -1, false⟩ : PT).regs) (st.rowAcc 0 rfl (by decide) (by exact flat_len' regE_len _)) rfl rfl (by decide) fun b25 o25 g25 => ?_
 refine gT rfl ?_
 refine aLdAG rfl g25 ?_
 refine gT rfl ?_
 refine aBld rfl (by repeat constructor) ?_
 refine gT rfl ?_
 refine aEqAV true rfl rfl rfl ?_
 iterate 2 refine aN rfl rfl (by constructor) ?_
 refine sE ?_
 refine ⟨_, out1 (r_tmp rfl (by constructor)), ?_⟩
 exact ⟨rfl, st.drop⟩
structure PAct where
  n : Int
  o : POut
  ag : Bool
def act0 : PAct := ⟨0, ⟨0, 0, 0, 0, false⟩, false⟩
def actE (a : PAct) : List Value := [.int .i64 a.n, .int .u8 a.o.sv, .int .u8 a.o.ty, .int .u64 a.o.key, .int .u64 a.o.act, .bool a.o.ap, .bool a.ag]
theorem actE_len (a : PAct) : (actE a).length = 7 := rfl
theorem play_call {H : Hp} {xs : List PAct} {x : Value} (hs : Sl H 7 xs.length (xs.flatMap actE) x) (hsw : ∀ a ∈ xs, 0 ≤ a.o.act ∧ a.o.act < 18446744073709551616) (hl : xs.length ≤ 140737488351232) :
  ACalls Try.prog 12 [x] H (fun v H' => ∃ b ob P, v = .pointer (some ⟨b, 0, none⟩) ∧ Stt [] H H' [⟨some b, true, ⟨true, 79, [accV ob P.regs.length 2, .int .u32 P.gen, .int .u8 P.kind, .int .i64 P.holder, .bool P.aptpl]⟩⟩, ⟨ob, true, ⟨true, 30, (P.regs).flatMap regE⟩⟩] ∧ WFT P) := by
 refine acallsW Try.func12 f12_ok (Nat.le_of_ble_eq_true rfl) fun hw => ?_
 have st : Stt [] H H [] := Stt.start hw
 unfold f12c
 show AWl _ _ _ _ _
 refine aN rfl rfl (by constructor) ?_
 refine sE ?_
 show AWl _ _ _ _ _
 refine aC (new_call) fun v6 H1 ⟨b6, hv, st1⟩ => ?_
 subst hv
 replace st := st.call st1 rfl
 clear st1
 have st := st.nil 30
 refine aN rfl rfl (by constructor) ?_
 refine sE ?_
 show AWl _ _ _ _ _
 refine aN rfl rfl (by constructor) ?_
 refine sE ?_
 show AW _ (.loop _) _ _ _
 refine AW_loopN (fun m t1 H1 => ∃ (j : Nat) (P : PT) (ob : Option Nat), m = xs.length - j ∧ (j ≤ xs.length) ∧ (WFT P) ∧ t1 4 = .int .i64 (j : Int) ∧ Stt [] H H1 [⟨some b6, true, ⟨true, 79, [accV ob P.regs.length 2, .int .u32 P.gen, .int .u8 P.kind, .int .i64 P.holder, .bool P.aptpl]⟩⟩, ⟨ob, true, ⟨true, 30, (P.regs).flatMap regE⟩⟩]) (xs.length - 0) ⟨0, PT0, none, rfl, by omega, PT0_wf, rfl, (st.sel [1, 0] (by decide))⟩ [4, 5, 7, 8, 9, 10, 11, 12, 13, 14, 15, 16, 17, 18, 19, 20, 21, 22, 23, 24, 25, 26, 27, 28, 29, 30, 31, 32, 33, 34, 35, 36, 37, 38, 39, 40, 41, 42, 43, 44] (by decide) ?_
 rintro m t1 H1 hk hI
 obtain ⟨j, P, ob, rfl, hj, hP, ht4, st⟩ := hI
 obtain ⟨u, rfl⟩ : ∃ u, t1 = (upd (mix [4, 5, 7, 8, 9, 10, 11, 12, 13, 14, 15, 16, 17, 18, 19, 20, 21, 22, 23, 24, 25, 26, 27, 28, 29, 30, 31, 32, 33, 34, 35, 36, 37, 38, 39, 40, 41, 42, 43, 44] _ u) (some 4) _) := ⟨t1, by rw [← hk, upd_self ht4]⟩
 clear hk ht4
 show AWl _ _ _ _ _
 refine aN rfl rfl (by constructor) ?_
 refine aMovV x rfl ?_
 refine aLen (st.slc hs) rfl ?_
 iterate 2 refine aN rfl rfl (by constructor) ?_
 refine gCase 11 rfl (fun h2 => ?_) (fun h2 => ?_)
 ·refine gT rfl ?_
  refine aN rfl rfl (by constructor) ?_
  refine gT rfl ?_
  iterate 2 refine aN rfl rfl (by constructor) ?_
  refine sE ?_
  show AW _ (.cond _ _ _) _ _ _
  refine cC' rfl (fun h3 => ?_) (fun h3 => ?_)
  ·show AWl _ _ _ _ _
   have hlt : j < xs.length := by have := of_decide_eq_true h2; omega
   have hwj := hsw _ (getD_mem' (d := act0) hlt)
   have hP8 := hP.len
   refine aMovV x rfl ?_
   refine aN rfl rfl (by constructor) ?_
   refine aIxEK actE_len act0 (l := xs) (st.slc hs) rfl rfl (by omega) fun b19 o19 g19 => ?_
   refine aN rfl rfl (by constructor) ?_
   refine aLdPA (g19 _ (st.slc hs)) 1 rfl (by decide) (by repeat constructor) ?_
   refine aNewP st rfl rfl (by repeat constructor) fun b5 H4 st => ?_
   refine aSt st 0 rfl rfl rfl rfl (by first | rfl | simp [cellsOf, *]) (by first | decide | (simp [*]; done) | (simp [k8]; done)) (by repeat constructor) fun H5 st => ?_
   refine sE ?_
   show AWl _ _ _ _ _
   refine aN rfl rfl (by constructor) ?_
   refine aLd st 0 rfl rfl rfl (by constructor) ?_
   iterate 2 refine aN rfl rfl (by constructor) ?_
   refine aSt st 0 rfl rfl rfl rfl (by first | rfl | simp [cellsOf, *]) (by first | decide | (simp [*]; done) | (simp [k8]; done)) (by repeat constructor) fun H6 st => ?_
   refine sE ?_
   show AWl _ _ _ _ _
   refine aN rfl rfl (by constructor) ?_
   refine aLd st 0 rfl rfl rfl (by constructor) ?_
   iterate 2 refine aN rfl rfl (by constructor) ?_
   refine aSt st 0 rfl rfl rfl rfl (by first | rfl | simp [cellsOf, *]) (by first | decide | (simp [*]; done) | (simp [k8]; done)) (by repeat constructor) fun H7 st => ?_
   refine sE ?_
   show AWl _ _ _ _ _
   refine aN rfl rfl (by constructor) ?_
   refine aLd st 0 rfl rfl rfl (by constructor) ?_
   iterate 2 refine aN rfl rfl (by constructor) ?_
   refine aSt st 0 rfl rfl rfl rfl (by first | rfl | simp [cellsOf, *]) (by first | decide | (simp [*]; done) | (simp [k8]; done)) (by repeat constructor) fun H8 st => ?_
   refine sE ?_
   show AWp _ _ _ _ _
   refine aN rfl rfl (by constructor) ?_
   refine aMovV x rfl ?_
   refine aN rfl rfl (by constructor) ?_
   refine aIxEK actE_len act0 (l := xs) (st.slc hs) rfl rfl (by omega) fun b37 o37 g37 => ?_
   refine aN rfl rfl (by constructor) ?_
   refine aLdP (g37 _ (st.slc hs)) 0 rfl rfl (by constructor) (by decide) ?_
   iterate 3 refine aN rfl rfl (by constructor) ?_
   refine aLdA st 0 rfl rfl (by first | decide | simp [*]) (by repeat constructor) ?_
   refine ⟨?_, trivial⟩
   replace st := st.sel [1, 2, 0] (by decide)
   refine aC (do_call (P := P) (n := (IntKind.i64.wrap ((IntKind.u64.wrap (xs.getD j act0).n).tmod 3))) (o := ⟨(xs.getD j act0).o.sv.tmod 7, (xs.getD j act0).o.ty, (xs.getD j act0).o.key.tmod 4, (xs.getD j act0).o.act.tmod 4, (xs.getD j act0).o.ap⟩) (st.get (j := 0) rfl) (st.got 1 rfl).1 (st.got 1 rfl).2 (by omega) (st.ne 1 0 rfl rfl (by decide))) fun v44 H9 ⟨o44, e44, hv, hc⟩ => ?_
   subst hv
   replace st := st.tabCall (kr' := ⟨true, 30, (((doM P (IntKind.i64.wrap ((IntKind.u64.wrap (xs.getD j act0).n).tmod 3)) ⟨(xs.getD j act0).o.sv.tmod 7, (xs.getD j act0).o.ty, (xs.getD j act0).o.key.tmod 4, (xs.getD j act0).o.act.tmod 4, (xs.getD j act0).o.ap⟩).tab).regs).flatMap regE⟩) rfl (hc.imp (fun ⟨a, b, c⟩ => ⟨a, congrArg (fun l : List (Int × Int) => (⟨true, 30, l.flatMap regE⟩ : Blk)) b, c⟩) id)
   clear hc
   have hP2 : WFT ((doM P (IntKind.i64.wrap ((IntKind.u64.wrap (xs.getD j act0).n).tmod 3)) ⟨(xs.getD j act0).o.sv.tmod 7, (xs.getD j act0).o.ty, (xs.getD j act0).o.key.tmod 4, (xs.getD j act0).o.act.tmod 4, (xs.getD j act0).o.ap⟩).tab) := doM_wf hP (by show 0 ≤ (xs.getD j act0).o.act.tmod 4 ∧ (xs.getD j act0).o.act.tmod 4 < 18446744073709551616; rw [Int.tmod_eq_emod_of_nonneg hwj.1]; omega)
   refine ⟨⟨(h_LdP (g37 _ (st.slc hs)) 0 rfl rfl (by constructor) (by decide)), trivial⟩, ?_⟩
   refine pE ?_
   show AWl _ _ _ _ _
   iterate 3 refine aN rfl rfl (by constructor) ?_
   refine sE ?_
   exact ⟨_, by omega, j + 1, (doM P (IntKind.i64.wrap ((IntKind.u64.wrap (xs.getD j act0).n).tmod 3)) ⟨(xs.getD j act0).o.sv.tmod 7, (xs.getD j act0).o.ty, (xs.getD j act0).o.key.tmod 4, (xs.getD j act0).o.act.tmod 4, (xs.getD j act0).o.ap⟩).tab, o44, rfl, by omega, hP2, congrArg (Value.int .i64) (wi _ (by omega)), (st.sel [0, 1] (by decide))⟩
  ·show AWl _ _ _ _ _
   iterate 2 refine aN rfl rfl (by constructor) ?_
   refine sE ?_
   refine ⟨_, out1 (r_tmp rfl (by constructor)), ?_⟩
   exact ⟨b6, ob, P, rfl, st.sel [0, 1] (by decide), hP⟩
 ·refine gF rfl (by decide) ?_
  refine gF rfl (by decide) ?_
  refine aN rfl rfl (by constructor) ?_
  refine sE ?_
  show AW _ (.cond _ _ _) _ _ _
  refine cF' rfl ?_
  show AWl _ _ _ _ _
  iterate 2 refine aN rfl rfl (by constructor) ?_
  refine sE ?_
  refine ⟨_, out1 (r_tmp rfl (by constructor)), ?_⟩
  exact ⟨b6, ob, P, rfl, st.sel [0, 1] (by decide), hP⟩
end Go.Proofs.Ytihkghfmihdicaa.Abs
