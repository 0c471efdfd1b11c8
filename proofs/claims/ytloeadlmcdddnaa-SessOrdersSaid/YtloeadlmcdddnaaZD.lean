/- Sessions: what is forgotten; how many wait. -/
import Derived.Test.YtloeadlmcdddnaaZC
set_option linter.unusedVariables false
set_option linter.unusedSimpArgs false
set_option maxRecDepth 100000
namespace Go.Proofs.Ytloeadlmcdddnaa.Abs
open Go Go.RowKit
variable {tg sg bu : Int}
theorem forget_n {H : Hp} {b : Nat} {cmd stat tag : Int} {hd : Value} (hk : H.m b = some ⟨true, 64, [.string ⟨#[]⟩, .string ⟨#[116]⟩, .bool false, .bool false, .bool false, .int .i64 sg, .int .i64 bu, .int .i64 65536, .bool true, .bool true, .slice none 0 0, .int .u32 cmd, .int .u32 stat, .int .u32 tg, hd, .slice none 0 0, .bool false, .slice none 0 0]⟩) :
  ACalls Try.prog 18 [.pointer (some ⟨b, 0, none⟩), .int .u32 tag] H (fun v H' => v = .bool false ∧ Stt [b] H H' [⟨some b, true, ⟨true, 64, [.string ⟨#[]⟩, .string ⟨#[116]⟩, .bool false, .bool false, .bool false, .int .i64 sg, .int .i64 bu, .int .i64 65536, .bool true, .bool true, .slice none 0 0, .int .u32 cmd, .int .u32 stat, .int .u32 tg, hd, .slice none 0 0, .bool false, .slice none 0 0]⟩⟩]) := by
 refine acallsW Try.func18 f18_ok (Nat.le_of_ble_eq_true rfl) fun hw => ?_
 have st : Stt [b] H H [] := Stt.start hw
 replace st := st.mine hk rfl (by simp) (by simp)
 unfold f18c
 show AWl _ _ _ _ _
 refine aN rfl rfl (by constructor) ?_
 refine sE ?_
 show AWl _ _ _ _ _
 refine aN rfl rfl (by constructor) ?_
 refine aBinV (.bool false) rfl rfl rfl ?_
 refine sE ?_
 show AW _ (.cond _ _ _) _ _ _
 refine cF' rfl ?_
 show AWl _ _ _ _ _
 iterate 2 refine aN rfl rfl (by constructor) ?_
 refine aC (begun_n (st.get (j := 0) rfl)) fun v12 H1 ⟨hv, st1⟩ => ?_
 subst hv
 replace st := st.callX 0 rfl st1 rfl
 clear st1
 iterate 3 refine aN rfl rfl (by constructor) ?_
 refine aNewP st rfl rfl (by repeat constructor) fun b5 H2 st => ?_
 refine aSt st 0 rfl rfl rfl rfl (by first | rfl | simp [cellsOf, *]) (by first | decide | (simp [*]; done) | (simp [k8]; done)) (by repeat constructor) fun H3 st => ?_
 refine aN rfl rfl (by constructor) ?_
 refine sE ?_
 show AWl _ _ _ _ _
 iterate 2 refine aN rfl rfl (by constructor) ?_
 refine sE ?_
 refine ⟨_, out1 (r_tmp rfl (by constructor)), ?_⟩
 exact ⟨rfl, st.sel [1] (by decide)⟩
theorem forget_r {H : Hp} {b rb : Nat} {cmd stat tag wt fu : Int} {hd : Value} (hk : H.m b = some ⟨true, 64, [.string ⟨#[]⟩, .string ⟨#[116]⟩, .bool false, .bool false, .bool false, .int .i64 sg, .int .i64 bu, .int .i64 65536, .bool true, .bool true, .slice none 0 0, .int .u32 cmd, .int .u32 stat, .int .u32 tg, hd, .slice none 0 0, .bool false, .slice (some ⟨rb, 0, none⟩) 1 8]⟩) (hkr : H.m rb = some ⟨true, 41, [.int .u32 tag, .int .u8 0, .int .u8 0, .slice none 0 0, .slice none 0 0, .int .i64 wt, .int .u8 fu, .int .u32 0]⟩) (hr : rb ≠ b) :
  ACalls Try.prog 18 [.pointer (some ⟨b, 0, none⟩), .int .u32 tag] H (fun v H' => v = .bool true ∧ Stt [b] H H' [⟨some b, true, ⟨true, 64, [.string ⟨#[]⟩, .string ⟨#[116]⟩, .bool false, .bool false, .bool false, .int .i64 sg, .int .i64 bu, .int .i64 65536, .bool true, .bool true, .slice none 0 0, .int .u32 cmd, .int .u32 stat, .int .u32 tg, hd, .slice none 0 0, .bool false, .slice none 0 0]⟩⟩]) := by
 refine acallsW Try.func18 f18_ok (Nat.le_of_ble_eq_true rfl) fun hw => ?_
 have st : Stt [b] H H [] := Stt.start hw
 replace st := st.ro hkr (by simp)
 replace st := st.mine hk rfl (by simp) (by simp [hr])
 unfold f18c
 show AWl _ _ _ _ _
 refine aN rfl rfl (by constructor) ?_
 refine sE ?_
 show AWl _ _ _ _ _
 refine aN rfl rfl (by constructor) ?_
 refine aBinV (.bool false) rfl rfl rfl ?_
 refine sE ?_
 show AW _ (.cond _ _ _) _ _ _
 refine cF' rfl ?_
 show AWl _ _ _ _ _
 iterate 2 refine aN rfl rfl (by constructor) ?_
 refine aC (begun_r (st.get (j := 0) rfl) (st.get (j := 1) rfl) (by have := st.ne 1 0 rfl rfl (by decide); simpa using this)) fun v12 H1 ⟨hv, st1⟩ => ?_
 subst hv
 replace st := st.callX 0 rfl st1 rfl
 clear st1
 iterate 3 refine aN rfl rfl (by constructor) ?_
 refine aNewP st rfl rfl (by repeat constructor) fun b5 H2 st => ?_
 refine aSt st 0 rfl rfl rfl rfl (by first | rfl | simp [cellsOf, *]) (by first | decide | (simp [*]; done) | (simp [k8]; done)) (by repeat constructor) fun H3 st => ?_
 refine aN rfl rfl (by constructor) ?_
 refine sE ?_
 show AWl _ _ _ _ _
 iterate 2 refine aN rfl rfl (by constructor) ?_
 refine sE ?_
 refine ⟨_, out1 (r_tmp rfl (by constructor)), ?_⟩
 exact ⟨rfl, st.sel [1] (by decide)⟩
theorem forget_w {H : Hp} {b rb wb : Nat} {cmd stat tag wt fu rdy fr mo ak : Int} {hd cdb ow : Value} (hk : H.m b = some ⟨true, 64, [.string ⟨#[]⟩, .string ⟨#[116]⟩, .bool false, .bool false, .bool false, .int .i64 sg, .int .i64 bu, .int .i64 65536, .bool true, .bool true, .slice none 0 0, .int .u32 cmd, .int .u32 stat, .int .u32 tg, hd, .slice (some ⟨wb, 0, none⟩) 1 12, .bool false, .slice (some ⟨rb, 0, none⟩) 1 8]⟩) (hkr : H.m rb = some ⟨true, 41, [.int .u32 tag, .int .u8 0, .int .u8 0, .slice none 0 0, .slice none 0 0, .int .i64 wt, .int .u8 fu, .int .u32 0]⟩) (hr : rb ≠ b) (hkw : H.m wb = some ⟨true, 76, [.int .u32 tag, .int .u8 0, .int .u8 0, cdb, ow, .int .i64 wt, .int .u8 0, .int .u32 0, .int .u32 rdy, .int .i64 fr, .int .i64 mo, .int .u32 ak]⟩) (hwb : wb ≠ b) (hwr : wb ≠ rb) :
  ACalls Try.prog 18 [.pointer (some ⟨b, 0, none⟩), .int .u32 tag] H (fun v H' => v = .bool true ∧ Stt [b] H H' [⟨some b, true, ⟨true, 64, [.string ⟨#[]⟩, .string ⟨#[116]⟩, .bool false, .bool false, .bool false, .int .i64 sg, .int .i64 bu, .int .i64 65536, .bool true, .bool true, .slice none 0 0, .int .u32 cmd, .int .u32 stat, .int .u32 tg, hd, .slice none 0 0, .bool false, .slice none 0 0]⟩⟩]) := by
 refine acallsW Try.func18 f18_ok (Nat.le_of_ble_eq_true rfl) fun hw => ?_
 have st : Stt [b] H H [] := Stt.start hw
 replace st := st.ro hkr (by simp)
 replace st := st.ro hkw (by simpa using hwr.symm)
 replace st := st.mine hk rfl (by simp) (by simp [hr, hwb])
 unfold f18c
 show AWl _ _ _ _ _
 refine aN rfl rfl (by constructor) ?_
 refine sE ?_
 show AWl _ _ _ _ _
 refine aN rfl rfl (by constructor) ?_
 refine aBinV (.bool false) rfl rfl rfl ?_
 refine sE ?_
 show AW _ (.cond _ _ _) _ _ _
 refine cF' rfl ?_
 show AWl _ _ _ _ _
 iterate 2 refine aN rfl rfl (by constructor) ?_
 refine aC (begun_w (st.get (j := 0) rfl) (st.get (j := 2) rfl) (by have := st.ne 2 0 rfl rfl (by decide); simpa using this) (st.get (j := 1) rfl) (by have := st.ne 1 0 rfl rfl (by decide); simpa using this) (by have := st.ne 1 2 rfl rfl (by decide); simpa using this)) fun v12 H1 ⟨hv, st1⟩ => ?_
 subst hv
 replace st := st.callX 0 rfl st1 rfl
 clear st1
 iterate 3 refine aN rfl rfl (by constructor) ?_
 refine aNewP st rfl rfl (by repeat constructor) fun b5 H2 st => ?_
 refine aSt st 0 rfl rfl rfl rfl (by first | rfl | simp [cellsOf, *]) (by first | decide | (simp [*]; done) | (simp [k8]; done)) (by repeat constructor) fun H3 st => ?_
 refine aN rfl rfl (by constructor) ?_
 refine sE ?_
 show AWl _ _ _ _ _
 iterate 2 refine aN rfl rfl (by constructor) ?_
 refine sE ?_
 refine ⟨_, out1 (r_tmp rfl (by constructor)), ?_⟩
 exact ⟨rfl, st.sel [1] (by decide)⟩
theorem end_n {H : Hp} {b : Nat} {cmd stat tag : Int} {hd : Value} (hk : H.m b = some ⟨true, 64, [.string ⟨#[]⟩, .string ⟨#[116]⟩, .bool false, .bool false, .bool false, .int .i64 sg, .int .i64 bu, .int .i64 65536, .bool true, .bool true, .slice none 0 0, .int .u32 cmd, .int .u32 stat, .int .u32 tg, hd, .slice none 0 0, .bool false, .slice none 0 0]⟩) :
  ACalls Try.prog 17 [.pointer (some ⟨b, 0, none⟩), .int .u32 tag, .agg #[.int .u8 0, .int .u8 0, .int .u16 0, .int .u64 0, .bool false, .int .i64 0, .int .i64 0, .bool false, .bool false, .slice none 0 0], .bool false] H (fun v H' => v = .slice none 0 0 ∧ Stt [b] H H' [⟨some b, true, ⟨true, 64, [.string ⟨#[]⟩, .string ⟨#[116]⟩, .bool false, .bool false, .bool false, .int .i64 sg, .int .i64 bu, .int .i64 65536, .bool true, .bool true, .slice none 0 0, .int .u32 cmd, .int .u32 stat, .int .u32 tg, hd, .slice none 0 0, .bool false, .slice none 0 0]⟩⟩]) := by
 refine acallsW Try.func17 f17_ok (Nat.le_of_ble_eq_true rfl) fun hw => ?_
 have st : Stt [b] H H [] := Stt.start hw
 replace st := st.mine hk rfl (by simp) (by simp)
 unfold f17c
 show AWl _ _ _ _ _
 refine aBoxN st rfl rfl (by repeat constructor) rfl fun b6 H1 st => ?_
 refine aN rfl rfl (by constructor) ?_
 refine sE ?_
 show AWl _ _ _ _ _
 refine aN rfl rfl (by constructor) ?_
 refine aBinV (.bool false) rfl rfl rfl ?_
 refine aN rfl rfl (by constructor) ?_
 refine gT rfl ?_
 refine aN rfl rfl (by constructor) ?_
 refine gT rfl ?_
 refine aN rfl rfl (by constructor) ?_
 refine gT rfl ?_
 refine aN rfl rfl (by constructor) ?_
 refine gT rfl ?_
 refine aLd st 1 rfl rfl rfl (by constructor) ?_
 refine aN rfl rfl (by constructor) ?_
 refine sE ?_
 show AW _ (.cond _ _ _) _ _ _
 refine cF' rfl ?_
 show AWl _ _ _ _ _
 iterate 2 refine aN rfl rfl (by constructor) ?_
 refine aC (begun_n (st.get (j := 1) rfl)) fun v32 H2 ⟨hv, st1⟩ => ?_
 subst hv
 replace st := st.callX 1 rfl st1 rfl
 clear st1
 iterate 3 refine aN rfl rfl (by constructor) ?_
 refine aNewP st rfl rfl (by repeat constructor) fun b9 H3 st => ?_
 refine aSt st 0 rfl rfl rfl rfl (by first | rfl | simp [cellsOf, *]) (by first | decide | (simp [*]; done) | (simp [k8]; done)) (by repeat constructor) fun H4 st => ?_
 refine aN rfl rfl (by constructor) ?_
 refine sE ?_
 show AWl _ _ _ _ _
 iterate 2 refine aN rfl rfl (by constructor) ?_
 refine sE ?_
 show AW _ (.cond _ _ _) _ _ _
 refine cT rfl ?_
 show AWl _ _ _ _ _
 refine aN rfl rfl (by constructor) ?_
 refine sE ?_
 refine ⟨_, out1 (r_tmp rfl (by constructor)), ?_⟩
 exact ⟨rfl, st.sel [1] (by decide)⟩
theorem waits_n {H : Hp} {b kn kc : Nat} {cmd stat : Int} {hd wr : Value} {rp : Option Addr} {ov : Bool} (hk : H.m b = some ⟨true, 64, [.string ⟨#[]⟩, .string ⟨#[116]⟩, .bool false, .bool false, .bool false, .int .i64 sg, .int .i64 bu, .int .i64 65536, .bool true, .bool true, .slice none 0 0, .int .u32 cmd, .int .u32 stat, .int .u32 tg, hd, wr, .bool ov, .slice rp kn kc]⟩) :
  ACalls Try.prog 16 [.pointer (some ⟨b, 0, none⟩)] H (fun v H' => v = .int .i64 (kn : Int) ∧ Stt [] H H' []) := by
 refine acallsW Try.func16 f16_ok (Nat.le_of_ble_eq_true rfl) fun hw => ?_
 have st : Stt [] H H [] := Stt.start hw
 replace st := st.ro hk (by simp)
 unfold f16c
 show AWl _ _ _ _ _
 refine aN rfl rfl (by constructor) ?_
 refine sE ?_
 show AWl _ _ _ _ _
 refine aN rfl rfl (by constructor) ?_
 refine aBinV (.bool false) rfl rfl rfl ?_
 refine sE ?_
 show AW _ (.cond _ _ _) _ _ _
 refine cF' rfl ?_
 show AWl _ _ _ _ _
 iterate 3 refine aN rfl rfl (by constructor) ?_
 refine aLd st 0 rfl rfl rfl (by constructor) ?_
 refine aN (v := .int .i64 (kn : Int)) rfl rfl (by constructor) ?_
 refine aN rfl rfl (by constructor) ?_
 refine sE ?_
 refine ⟨_, out1 (r_tmp rfl (by constructor)), ?_⟩
 exact ⟨rfl, st.drop⟩
end Go.Proofs.Ytloeadlmcdddnaa.Abs
