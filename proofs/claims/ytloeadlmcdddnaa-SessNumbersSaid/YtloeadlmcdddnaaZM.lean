/- Sessions: texts, the end, what is none. -/
import Derived.Test.YtloeadlmcdddnaaZL
set_option linter.unusedVariables false
set_option linter.unusedSimpArgs false
set_option maxRecDepth 100000
namespace Go.Proofs.Ytloeadlmcdddnaa.Abs
open Go Go.RowKit
variable {tg sg bu : Int}
theorem do_text {H : Hp} {b : Nat} {cmd stat tag : Int} {x : Value} (hk : H.m b = some ⟨true, 64, [.string ⟨#[]⟩, .string ⟨#[116]⟩, .bool false, .bool false, .bool false, .int .i64 sg, .int .i64 bu, .int .i64 65536, .bool true, .bool true, .slice none 0 0, .int .u32 cmd, .int .u32 stat, .int .u32 tg, .slice none 0 0, .slice none 0 0, .bool false, .slice none 0 0]⟩) (hx : Sl H 1 4 (([97, 61, 98, 0] : List Int).map (Value.int .u8)) x) (hap : Apart b x) :
  ACalls Try.prog 23 [.pointer (some ⟨b, 0, none⟩), .agg #[.int .u8 68, .int .u8 0, .int .u8 0, .int .u8 0, .int .u8 0, .int .u32 tag, .int .u32 0, .int .u32 0, .int .u32 0, .int .u32 0, .int .u32 0, .int .u32 0, .int .u32 0, x]] H (fun v H' => ∃ (c bo : Nat), v = .tuple #[.slice (some ⟨c, 0, none⟩) 1 14, .slice none 0 0] ∧ Stt [b] H H' [⟨some b, true, ⟨true, 64, [.string ⟨#[]⟩, .string ⟨#[116]⟩, .bool false, .bool false, .bool false, .int .i64 sg, .int .i64 bu, .int .i64 65536, .bool true, .bool true, .slice none 0 0, .int .u32 cmd, .int .u32 (IntKind.u32.wrap (stat + 1)), .int .u32 tg, .slice none 0 0, .slice none 0 0, .bool false, .slice none 0 0]⟩⟩, ⟨some c, true, ⟨true, 37, [.int .u8 36, .int .u8 128, .int .u8 0, .int .u8 0, .int .u8 0, .int .u32 tag, .int .u32 0, .int .u32 stat, .int .u32 cmd, .int .u32 (IntKind.u32.wrap (IntKind.u32.wrap (cmd + 16) - 1)), .int .u32 0, .int .u32 0, .int .u32 0, .slice (some ⟨bo, 0, none⟩) 16 1]⟩⟩]) := by
 refine acallsW Try.func23 f23_ok (Nat.le_of_ble_eq_true rfl) fun hw => ?_
 have st : Stt [b] H H [] := Stt.start hw
 replace st := st.mine hk rfl (by simp) (by simp)
 obtain ⟨px, cx, rfl⟩ := hx.shape
 unfold f23c
 show AWl _ _ _ _ _
 refine aBoxN st rfl rfl (by repeat constructor) rfl fun b3 H1 st => ?_
 iterate 2 refine aN rfl rfl (by constructor) ?_
 refine sE ?_
 show AWl _ _ _ _ _
 refine aN rfl rfl (by constructor) ?_
 refine aLd st 0 rfl rfl rfl (by constructor) ?_
 refine aBinV (.int .u8 4) rfl rfl (rfl) ?_
 refine sE ?_
 show AWl _ _ _ _ _
 refine aBinV (.bool false) rfl rfl rfl ?_
 refine aN rfl rfl (by constructor) ?_
 refine sE ?_
 show AW _ (.cond _ _ _) _ _ _
 refine cF' rfl ?_
 show AWl _ _ _ _ _
 refine aBinV (.bool true) rfl rfl rfl ?_
 refine aN rfl rfl (by constructor) ?_
 refine sE ?_
 show AW _ (.cond _ _ _) _ _ _
 refine cT rfl ?_
 show AWp _ _ _ _ _
 iterate 2 refine aN rfl rfl (by constructor) ?_
 refine aLd st 0 rfl rfl rfl (by constructor) ?_
 iterate 2 refine aN rfl rfl (by constructor) ?_
 refine aLdQ st 0 rfl rfl rfl (rfl : (Value.slice px 4 cx) = _) ?_
 refine ⟨?_, trivial⟩
 refine aC (sends_call (st.slcX hx hap)) fun v36 H2 ⟨bo36, hv, st1⟩ => ?_
 subst hv
 replace st := st.call st1 rfl
 clear st1
 refine ⟨⟨(h_Ld st 0 rfl rfl rfl (by constructor)), trivial⟩, ?_⟩
 refine aBld rfl (by repeat constructor) ?_
 refine ⟨?_, trivial⟩
 refine aC (num3t_call (st.get (j := 1) rfl)) fun v38 H3 ⟨hv, st1⟩ => ?_
 subst hv
 replace st := st.callX 1 rfl st1 rfl
 clear st1
 refine ⟨⟨(h_Ld st 1 rfl rfl rfl (by constructor)), (h_Ld st 1 rfl rfl rfl (by constructor)), trivial⟩, ?_⟩
 refine ⟨?_, trivial⟩
 refine aLit st rfl (by repeat constructor) fun b39 H4 st => ?_
 refine ⟨⟨(h_Ld st 2 rfl rfl rfl (by constructor)), (h_Ld st 2 rfl rfl rfl (by constructor)), trivial⟩, ?_⟩
 iterate 2 refine aN rfl rfl (by constructor) ?_
 refine pE ?_
 refine ⟨_, out2 (r_tmp rfl (by constructor)) (r_tmp rfl (by constructor)) ⟨rfl, rfl⟩, ?_⟩
 exact ⟨b39, bo36, rfl, st.sel [1, 0] (by decide)⟩
theorem in_text {H : Hp} {b : Nat} {cmd stat tag : Int} {x : Value} (hk : H.m b = some ⟨true, 64, [.string ⟨#[]⟩, .string ⟨#[116]⟩, .bool false, .bool false, .bool false, .int .i64 sg, .int .i64 bu, .int .i64 65536, .bool true, .bool true, .slice none 0 0, .int .u32 cmd, .int .u32 stat, .int .u32 tg, .slice none 0 0, .slice none 0 0, .bool false, .slice none 0 0]⟩) (hx : Sl H 1 4 (([97, 61, 98, 0] : List Int).map (Value.int .u8)) x) (hap : Apart b x) :
  ACalls Try.prog 13 [.pointer (some ⟨b, 0, none⟩), .agg #[.int .u8 68, .int .u8 0, .int .u8 0, .int .u8 0, .int .u8 0, .int .u32 tag, .int .u32 0, .int .u32 0, .int .u32 0, .int .u32 0, .int .u32 0, .int .u32 0, .int .u32 0, x]] H (fun v H' => ∃ (c bo : Nat), v = .tuple #[.slice (some ⟨c, 0, none⟩) 1 14, .slice none 0 0] ∧ Stt [b] H H' [⟨some b, true, ⟨true, 64, [.string ⟨#[]⟩, .string ⟨#[116]⟩, .bool false, .bool false, .bool false, .int .i64 sg, .int .i64 bu, .int .i64 65536, .bool true, .bool true, .slice none 0 0, .int .u32 cmd, .int .u32 (IntKind.u32.wrap (stat + 1)), .int .u32 tg, .slice none 0 0, .slice none 0 0, .bool false, .slice none 0 0]⟩⟩, ⟨some c, true, ⟨true, 37, [.int .u8 36, .int .u8 128, .int .u8 0, .int .u8 0, .int .u8 0, .int .u32 tag, .int .u32 0, .int .u32 stat, .int .u32 cmd, .int .u32 (IntKind.u32.wrap (IntKind.u32.wrap (cmd + 16) - 1)), .int .u32 0, .int .u32 0, .int .u32 0, .slice (some ⟨bo, 0, none⟩) 16 1]⟩⟩]) := by
 refine acallsW Try.func13 f13_ok (Nat.le_of_ble_eq_true rfl) fun hw => ?_
 have st : Stt [b] H H [] := Stt.start hw
 replace st := st.mine hk rfl (by simp) (by simp)
 obtain ⟨px, cx, rfl⟩ := hx.shape
 unfold f13c
 show AWl _ _ _ _ _
 refine aBoxN st rfl rfl (by repeat constructor) rfl fun b3 H1 st => ?_
 iterate 2 refine aN rfl rfl (by constructor) ?_
 refine sE ?_
 show AWl _ _ _ _ _
 refine aN rfl rfl (by constructor) ?_
 refine aBinV (.bool false) rfl rfl rfl ?_
 refine aN rfl rfl (by constructor) ?_
 refine gT rfl ?_
 refine aN rfl rfl (by constructor) ?_
 refine gT rfl ?_
 refine aN rfl rfl (by constructor) ?_
 refine gT rfl ?_
 refine aN rfl rfl (by constructor) ?_
 refine gT rfl ?_
 refine aLd st 1 rfl rfl rfl (by constructor) ?_
 refine aN rfl rfl (by constructor) ?_
 refine sE ?_
 show AW _ (.cond _ _ _) _ _ _
 refine cF' rfl ?_
 show AWp _ _ _ _ _
 refine aN rfl rfl (by constructor) ?_
 refine aLd st 0 rfl rfl rfl (by constructor) ?_
 refine aBinV (.int .u8 4) rfl rfl (rfl) ?_
 refine aN rfl rfl (by constructor) ?_
 refine aLd st 0 rfl rfl rfl (by constructor) ?_
 refine aBinV (.int .u8 64) rfl rfl (rfl) ?_
 refine aBinV (.bool true) rfl rfl rfl ?_
 iterate 2 refine aN rfl rfl (by constructor) ?_
 refine pE ?_
 show AWl _ _ _ _ _
 refine aN rfl rfl (by constructor) ?_
 refine aBinV (.bool false) rfl rfl rfl ?_
 refine aN rfl rfl (by constructor) ?_
 refine sE ?_
 show AW _ (.cond _ _ _) _ _ _
 refine cF' rfl ?_
 show AWl _ _ _ _ _
 refine aN rfl rfl (by constructor) ?_
 refine aBinV (.bool true) rfl rfl rfl ?_
 refine aN rfl rfl (by constructor) ?_
 refine gT rfl ?_
 refine aN rfl rfl (by constructor) ?_
 refine gT rfl ?_
 refine aBinV (.bool true) rfl rfl rfl ?_
 iterate 2 refine aN rfl rfl (by constructor) ?_
 refine gT rfl ?_
 refine aN rfl rfl (by constructor) ?_
 refine gT rfl ?_
 refine aBinV (.bool true) rfl rfl rfl ?_
 iterate 2 refine aN rfl rfl (by constructor) ?_
 refine gT rfl ?_
 refine aN rfl rfl (by constructor) ?_
 refine gT rfl ?_
 refine aBinV (.bool false) rfl rfl rfl ?_
 iterate 2 refine aN rfl rfl (by constructor) ?_
 refine gF rfl (by decide) ?_
 refine gF rfl (by decide) ?_
 iterate 2 refine aN rfl rfl (by constructor) ?_
 refine gT rfl ?_
 refine aN rfl rfl (by constructor) ?_
 refine gT rfl ?_
 refine aLd st 0 rfl rfl rfl (by constructor) ?_
 refine gT rfl ?_
 refine aBinV (.int .u8 0) rfl rfl (rfl) ?_
 refine gT rfl ?_
 refine aBinV (.bool false) rfl rfl rfl ?_
 iterate 2 refine aN rfl rfl (by constructor) ?_
 refine sE ?_
 show AW _ (.cond _ _ _) _ _ _
 refine cF' rfl ?_
 show AWl _ _ _ _ _
 iterate 2 refine aN rfl rfl (by constructor) ?_
 refine sE ?_
 show AW _ (.cond _ _ _) _ _ _
 refine cT rfl ?_
 show AWl _ _ _ _ _
 refine aN rfl rfl (by constructor) ?_
 refine aLdA st 0 rfl rfl (by first | decide | simp [*]) (by repeat constructor) ?_
 refine aC (do_text (st.get (j := 1) rfl) (st.slcX hx hap) hap) fun v71 H2 ⟨c, bo, hv, st1⟩ => ?_
 subst hv
 replace st := st.callX 1 rfl st1 rfl
 clear st1
 iterate 4 refine aN rfl rfl (by constructor) ?_
 refine sE ?_
 refine ⟨_, out2 (r_tmp rfl (by constructor)) (r_tmp rfl (by constructor)) ⟨rfl, rfl⟩, ?_⟩
 exact ⟨c, bo, rfl, st.sel [0, 1] (by decide)⟩
theorem do_logout {H : Hp} {b : Nat} {cmd stat tag : Int} (hk : H.m b = some ⟨true, 64, [.string ⟨#[]⟩, .string ⟨#[116]⟩, .bool false, .bool false, .bool false, .int .i64 sg, .int .i64 bu, .int .i64 65536, .bool true, .bool true, .slice none 0 0, .int .u32 cmd, .int .u32 stat, .int .u32 tg, .slice none 0 0, .slice none 0 0, .bool false, .slice none 0 0]⟩) :
  ACalls Try.prog 23 [.pointer (some ⟨b, 0, none⟩), .agg #[.int .u8 70, .int .u8 0, .int .u8 0, .int .u8 0, .int .u8 0, .int .u32 tag, .int .u32 0, .int .u32 0, .int .u32 0, .int .u32 0, .int .u32 0, .int .u32 0, .int .u32 0, .slice none 0 0]] H (fun v H' => ∃ (c : Nat), v = .tuple #[.slice (some ⟨c, 0, none⟩) 1 14, .slice none 0 0] ∧ Stt [b] H H' [⟨some b, true, ⟨true, 64, [.string ⟨#[]⟩, .string ⟨#[116]⟩, .bool false, .bool false, .bool false, .int .i64 sg, .int .i64 bu, .int .i64 65536, .bool true, .bool true, .slice none 0 0, .int .u32 cmd, .int .u32 (IntKind.u32.wrap (stat + 1)), .int .u32 tg, .slice none 0 0, .slice none 0 0, .bool true, .slice none 0 0]⟩⟩, ⟨some c, true, ⟨true, 37, [.int .u8 38, .int .u8 128, .int .u8 0, .int .u8 0, .int .u8 0, .int .u32 tag, .int .u32 0, .int .u32 stat, .int .u32 cmd, .int .u32 (IntKind.u32.wrap (IntKind.u32.wrap (cmd + 16) - 1)), .int .u32 0, .int .u32 0, .int .u32 0, .slice none 0 0]⟩⟩]) := by
 refine acallsW Try.func23 f23_ok (Nat.le_of_ble_eq_true rfl) fun hw => ?_
 have st : Stt [b] H H [] := Stt.start hw
 replace st := st.mine hk rfl (by simp) (by simp)
 unfold f23c
 show AWl _ _ _ _ _
 refine aBoxN st rfl rfl (by repeat constructor) rfl fun b3 H1 st => ?_
 iterate 2 refine aN rfl rfl (by constructor) ?_
 refine sE ?_
 show AWl _ _ _ _ _
 refine aN rfl rfl (by constructor) ?_
 refine aLd st 0 rfl rfl rfl (by constructor) ?_
 refine aBinV (.int .u8 6) rfl rfl (rfl) ?_
 refine sE ?_
 show AWl _ _ _ _ _
 refine aBinV (.bool false) rfl rfl rfl ?_
 refine aN rfl rfl (by constructor) ?_
 refine sE ?_
 show AW _ (.cond _ _ _) _ _ _
 refine cF' rfl ?_
 show AWl _ _ _ _ _
 refine aBinV (.bool false) rfl rfl rfl ?_
 refine aN rfl rfl (by constructor) ?_
 refine sE ?_
 show AW _ (.cond _ _ _) _ _ _
 refine cF' rfl ?_
 show AWl _ _ _ _ _
 refine aBinV (.bool true) rfl rfl rfl ?_
 refine aN rfl rfl (by constructor) ?_
 refine sE ?_
 show AW _ (.cond _ _ _) _ _ _
 refine cT rfl ?_
 show AWl _ _ _ _ _
 iterate 3 refine aN rfl rfl (by constructor) ?_
 refine aSt st 1 rfl rfl rfl rfl (by first | rfl | simp [cellsOf, *]) (by first | decide | (simp [*]; done) | (simp [k8]; done)) (by repeat constructor) fun H2 st => ?_
 refine sE ?_
 show AWl _ _ _ _ _
 iterate 2 refine aN rfl rfl (by constructor) ?_
 refine aLd st 0 rfl rfl rfl (by constructor) ?_
 refine aBld rfl (by repeat constructor) ?_
 refine aC (num3t_call (st.get (j := 1) rfl)) fun v49 H3 ⟨hv, st1⟩ => ?_
 subst hv
 replace st := st.callX 1 rfl st1 rfl
 clear st1
 refine aLit st rfl (by repeat constructor) fun b50 H4 st => ?_
 iterate 2 refine aN rfl rfl (by constructor) ?_
 refine sE ?_
 refine ⟨_, out2 (r_tmp rfl (by constructor)) (r_tmp rfl (by constructor)) ⟨rfl, rfl⟩, ?_⟩
 exact ⟨b50, rfl, st.sel [1, 0] (by decide)⟩
theorem in_logout {H : Hp} {b : Nat} {cmd stat tag : Int} (hk : H.m b = some ⟨true, 64, [.string ⟨#[]⟩, .string ⟨#[116]⟩, .bool false, .bool false, .bool false, .int .i64 sg, .int .i64 bu, .int .i64 65536, .bool true, .bool true, .slice none 0 0, .int .u32 cmd, .int .u32 stat, .int .u32 tg, .slice none 0 0, .slice none 0 0, .bool false, .slice none 0 0]⟩) :
  ACalls Try.prog 13 [.pointer (some ⟨b, 0, none⟩), .agg #[.int .u8 70, .int .u8 0, .int .u8 0, .int .u8 0, .int .u8 0, .int .u32 tag, .int .u32 0, .int .u32 0, .int .u32 0, .int .u32 0, .int .u32 0, .int .u32 0, .int .u32 0, .slice none 0 0]] H (fun v H' => ∃ (c : Nat), v = .tuple #[.slice (some ⟨c, 0, none⟩) 1 14, .slice none 0 0] ∧ Stt [b] H H' [⟨some b, true, ⟨true, 64, [.string ⟨#[]⟩, .string ⟨#[116]⟩, .bool false, .bool false, .bool false, .int .i64 sg, .int .i64 bu, .int .i64 65536, .bool true, .bool true, .slice none 0 0, .int .u32 cmd, .int .u32 (IntKind.u32.wrap (stat + 1)), .int .u32 tg, .slice none 0 0, .slice none 0 0, .bool true, .slice none 0 0]⟩⟩, ⟨some c, true, ⟨true, 37, [.int .u8 38, .int .u8 128, .int .u8 0, .int .u8 0, .int .u8 0, .int .u32 tag, .int .u32 0, .int .u32 stat, .int .u32 cmd, .int .u32 (IntKind.u32.wrap (IntKind.u32.wrap (cmd + 16) - 1)), .int .u32 0, .int .u32 0, .int .u32 0, .slice none 0 0]⟩⟩]) := by
 refine acallsW Try.func13 f13_ok (Nat.le_of_ble_eq_true rfl) fun hw => ?_
 have st : Stt [b] H H [] := Stt.start hw
 replace st := st.mine hk rfl (by simp) (by simp)
 unfold f13c
 show AWl _ _ _ _ _
 refine aBoxN st rfl rfl (by repeat constructor) rfl fun b3 H1 st => ?_
 iterate 2 refine aN rfl rfl (by constructor) ?_
 refine sE ?_
 show AWl _ _ _ _ _
 refine aN rfl rfl (by constructor) ?_
 refine aBinV (.bool false) rfl rfl rfl ?_
 refine aN rfl rfl (by constructor) ?_
 refine gT rfl ?_
 refine aN rfl rfl (by constructor) ?_
 refine gT rfl ?_
 refine aN rfl rfl (by constructor) ?_
 refine gT rfl ?_
 refine aN rfl rfl (by constructor) ?_
 refine gT rfl ?_
 refine aLd st 1 rfl rfl rfl (by constructor) ?_
 refine aN rfl rfl (by constructor) ?_
 refine sE ?_
 show AW _ (.cond _ _ _) _ _ _
 refine cF' rfl ?_
 show AWp _ _ _ _ _
 refine aN rfl rfl (by constructor) ?_
 refine aLd st 0 rfl rfl rfl (by constructor) ?_
 refine aBinV (.int .u8 6) rfl rfl (rfl) ?_
 refine aN rfl rfl (by constructor) ?_
 refine aLd st 0 rfl rfl rfl (by constructor) ?_
 refine aBinV (.int .u8 64) rfl rfl (rfl) ?_
 refine aBinV (.bool true) rfl rfl rfl ?_
 iterate 2 refine aN rfl rfl (by constructor) ?_
 refine pE ?_
 show AWl _ _ _ _ _
 refine aN rfl rfl (by constructor) ?_
 refine aBinV (.bool false) rfl rfl rfl ?_
 refine aN rfl rfl (by constructor) ?_
 refine sE ?_
 show AW _ (.cond _ _ _) _ _ _
 refine cF' rfl ?_
 show AWl _ _ _ _ _
 refine aN rfl rfl (by constructor) ?_
 refine aBinV (.bool true) rfl rfl rfl ?_
 refine aN rfl rfl (by constructor) ?_
 refine gT rfl ?_
 refine aN rfl rfl (by constructor) ?_
 refine gT rfl ?_
 refine aBinV (.bool true) rfl rfl rfl ?_
 iterate 2 refine aN rfl rfl (by constructor) ?_
 refine gT rfl ?_
 refine aN rfl rfl (by constructor) ?_
 refine gT rfl ?_
 refine aBinV (.bool true) rfl rfl rfl ?_
 iterate 2 refine aN rfl rfl (by constructor) ?_
 refine gT rfl ?_
 refine aN rfl rfl (by constructor) ?_
 refine gT rfl ?_
 refine aBinV (.bool true) rfl rfl rfl ?_
 iterate 2 refine aN rfl rfl (by constructor) ?_
 refine gT rfl ?_
 refine aN rfl rfl (by constructor) ?_
 refine gT rfl ?_
 refine aBinV (.bool false) rfl rfl rfl ?_
 iterate 2 refine aN rfl rfl (by constructor) ?_
 refine gT rfl ?_
 refine aN rfl rfl (by constructor) ?_
 refine gT rfl ?_
 refine aLd st 0 rfl rfl rfl (by constructor) ?_
 refine gT rfl ?_
 refine aBinV (.int .u8 0) rfl rfl (rfl) ?_
 refine gT rfl ?_
 refine aBinV (.bool false) rfl rfl rfl ?_
 iterate 2 refine aN rfl rfl (by constructor) ?_
 refine sE ?_
 show AW _ (.cond _ _ _) _ _ _
 refine cF' rfl ?_
 show AWl _ _ _ _ _
 iterate 2 refine aN rfl rfl (by constructor) ?_
 refine sE ?_
 show AW _ (.cond _ _ _) _ _ _
 refine cT rfl ?_
 show AWl _ _ _ _ _
 refine aN rfl rfl (by constructor) ?_
 refine aLdA st 0 rfl rfl (by first | decide | simp [*]) (by repeat constructor) ?_
 refine aC (do_logout (st.get (j := 1) rfl)) fun v71 H2 ⟨c, hv, st1⟩ => ?_
 subst hv
 replace st := st.callX 1 rfl st1 rfl
 clear st1
 iterate 4 refine aN rfl rfl (by constructor) ?_
 refine sE ?_
 refine ⟨_, out2 (r_tmp rfl (by constructor)) (r_tmp rfl (by constructor)) ⟨rfl, rfl⟩, ?_⟩
 exact ⟨c, rfl, st.sel [0, 1] (by decide)⟩
theorem in_reject62 {H : Hp} {b : Nat} {cmd stat : Int} {p : Pd} {x : Value} (hk : H.m b = some ⟨true, 64, [.string ⟨#[]⟩, .string ⟨#[116]⟩, .bool false, .bool false, .bool false, .int .i64 sg, .int .i64 bu, .int .i64 65536, .bool true, .bool true, .slice none 0 0, .int .u32 cmd, .int .u32 stat, .int .u32 tg, .slice none 0 0, .slice none 0 0, .bool false, .slice none 0 0]⟩) (hp : ({ p with op := 62 } : Pd).wf) (hx : Sl H 1 p.data.length (p.data.map (Value.int .u8)) x) (hap : Apart b x) (h8 : p.data.length ≤ 8192) :
  ACalls Try.prog 13 [.pointer (some ⟨b, 0, none⟩), .agg #[.int .u8 62, .int .u8 p.fl, .int .u8 p.res, .int .u8 p.st, .int .u8 p.lun, .int .u32 p.tag, .int .u32 p.w0, .int .u32 p.w1, .int .u32 p.w2, .int .u32 p.w3, .int .u32 p.w4, .int .u32 p.w5, .int .u32 p.w6, x]] H (fun v H' => ∃ (c bp : Nat) (zs : List Int), v = .tuple #[.slice (some ⟨c, 0, none⟩) 1 14, .slice none 0 0] ∧ (zs.length = 48 ∧ zs.getD 0 0 = 62 ∧ zs.getD 1 0 = p.fl) ∧ Stt [b] H H' [⟨some b, true, ⟨true, 64, [.string ⟨#[]⟩, .string ⟨#[116]⟩, .bool false, .bool false, .bool false, .int .i64 sg, .int .i64 bu, .int .i64 65536, .bool true, .bool true, .slice none 0 0, .int .u32 cmd, .int .u32 (IntKind.u32.wrap (stat + 1)), .int .u32 tg, .slice none 0 0, .slice none 0 0, .bool false, .slice none 0 0]⟩⟩, ⟨some c, true, ⟨true, 37, [.int .u8 63, .int .u8 128, .int .u8 5, .int .u8 0, .int .u8 0, .int .u32 4294967295, .int .u32 0, .int .u32 stat, .int .u32 cmd, .int .u32 (IntKind.u32.wrap (IntKind.u32.wrap (cmd + 16) - 1)), .int .u32 0, .int .u32 0, .int .u32 0, .slice (some ⟨bp, 0, none⟩) 48 1]⟩⟩, ⟨some bp, true, ⟨true, 5, zs.map (Value.int .u8)⟩⟩]) := by
 refine acallsW Try.func13 f13_ok (Nat.le_of_ble_eq_true rfl) fun hw => ?_
 have st : Stt [b] H H [] := Stt.start hw
 replace st := st.mine hk rfl (by simp) (by simp)
 obtain ⟨px, cx, rfl⟩ := hx.shape
 unfold f13c
 show AWl _ _ _ _ _
 refine aBoxN st rfl rfl (by repeat constructor) rfl fun b3 H1 st => ?_
 iterate 2 refine aN rfl rfl (by constructor) ?_
 refine sE ?_
 show AWl _ _ _ _ _
 refine aN rfl rfl (by constructor) ?_
 refine aBinV (.bool false) rfl rfl rfl ?_
 refine aN rfl rfl (by constructor) ?_
 refine gT rfl ?_
 refine aN rfl rfl (by constructor) ?_
 refine gT rfl ?_
 refine aN rfl rfl (by constructor) ?_
 refine gT rfl ?_
 refine aN rfl rfl (by constructor) ?_
 refine gT rfl ?_
 refine aLd st 1 rfl rfl rfl (by constructor) ?_
 refine aN rfl rfl (by constructor) ?_
 refine sE ?_
 show AW _ (.cond _ _ _) _ _ _
 refine cF' rfl ?_
 show AWp _ _ _ _ _
 refine aN rfl rfl (by constructor) ?_
 refine aLd st 0 rfl rfl rfl (by constructor) ?_
 refine aBinV (.int .u8 62) rfl rfl rfl ?_
 refine aN rfl rfl (by constructor) ?_
 refine aLd st 0 rfl rfl rfl (by constructor) ?_
 refine aBinV (.int .u8 0) rfl rfl rfl ?_
 refine aBinV (.bool false) rfl rfl rfl ?_
 iterate 2 refine aN rfl rfl (by constructor) ?_
 refine pE ?_
 show AWl _ _ _ _ _
 refine aN rfl rfl (by constructor) ?_
 refine aBinV (.bool false) rfl rfl rfl ?_
 refine aN rfl rfl (by constructor) ?_
 refine sE ?_
 show AW _ (.cond _ _ _) _ _ _
 refine cF' rfl ?_
 show AWl _ _ _ _ _
 refine aN rfl rfl (by constructor) ?_
 refine aBinV (.bool true) rfl rfl rfl ?_
 refine aN rfl rfl (by constructor) ?_
 refine gT rfl ?_
 refine aN rfl rfl (by constructor) ?_
 refine gT rfl ?_
 refine aBinV (.bool true) rfl rfl rfl ?_
 iterate 2 refine aN rfl rfl (by constructor) ?_
 refine gT rfl ?_
 refine aN rfl rfl (by constructor) ?_
 refine gT rfl ?_
 refine aBinV (.bool true) rfl rfl rfl ?_
 iterate 2 refine aN rfl rfl (by constructor) ?_
 refine gT rfl ?_
 refine aN rfl rfl (by constructor) ?_
 refine gT rfl ?_
 refine aBinV (.bool true) rfl rfl rfl ?_
 iterate 2 refine aN rfl rfl (by constructor) ?_
 refine gT rfl ?_
 refine aN rfl rfl (by constructor) ?_
 refine gT rfl ?_
 refine aBinV (.bool true) rfl rfl rfl ?_
 iterate 2 refine aN rfl rfl (by constructor) ?_
 refine gF rfl (by decide) ?_
 refine gF rfl (by decide) ?_
 refine gF rfl (by decide) ?_
 refine gF rfl (by decide) ?_
 iterate 2 refine aN rfl rfl (by constructor) ?_
 refine sE ?_
 show AW _ (.cond _ _ _) _ _ _
 refine cT rfl ?_
 show AWl _ _ _ _ _
 refine aN rfl rfl (by constructor) ?_
 refine aLdA st 0 rfl rfl (by first | decide | simp [*]) (by repeat constructor) ?_
 refine aC (reject_call (p := { p with op := 62 }) (st.get (j := 1) rfl) hp (st.slcX hx hap) hap h8) fun v66 H2 ⟨c66, bp66, zs, hv, hz, st1⟩ => ?_
 subst hv
 replace st := st.callX 1 rfl st1 rfl
 clear st1
 iterate 2 refine aN rfl rfl (by constructor) ?_
 refine sE ?_
 refine ⟨_, out2 (r_tmp rfl (by constructor)) (r_tmp rfl (by constructor)) ⟨rfl, rfl⟩, ?_⟩
 exact ⟨c66, bp66, zs, rfl, hz, st.sel [0, 1, 2] (by decide)⟩
theorem in_over {H : Hp} {b : Nat} {cmd stat : Int} {us : List Value} (hk : H.m b = some ⟨true, 64, [.string ⟨#[]⟩, .string ⟨#[116]⟩, .bool false, .bool false, .bool false, .int .i64 sg, .int .i64 bu, .int .i64 65536, .bool true, .bool true, .slice none 0 0, .int .u32 cmd, .int .u32 stat, .int .u32 tg, .slice none 0 0, .slice none 0 0, .bool true, .slice none 0 0]⟩) (hu : us.length = 14) :
  ACalls Try.prog 13 [.pointer (some ⟨b, 0, none⟩), .agg us.toArray] H (fun v H' => v = .tuple #[.slice none 0 0, .slice none 0 0] ∧ Stt [] H H' []) := by
 refine acallsW Try.func13 f13_ok (Nat.le_of_ble_eq_true rfl) fun hw => ?_
 have st : Stt [] H H [] := Stt.start hw
 replace st := st.ro hk (by simp)
 unfold f13c
 show AWl _ _ _ _ _
 refine aBox st rfl rfl hu fun b3 H1 st => ?_
 iterate 2 refine aN rfl rfl (by constructor) ?_
 refine sE ?_
 show AWl _ _ _ _ _
 refine aN rfl rfl (by constructor) ?_
 refine aBinV (.bool false) rfl rfl rfl ?_
 refine aN rfl rfl (by constructor) ?_
 refine gT rfl ?_
 refine aN rfl rfl (by constructor) ?_
 refine gT rfl ?_
 refine aN rfl rfl (by constructor) ?_
 refine gT rfl ?_
 refine aN rfl rfl (by constructor) ?_
 refine gT rfl ?_
 refine aLd st 1 rfl rfl rfl (by constructor) ?_
 refine aN rfl rfl (by constructor) ?_
 refine sE ?_
 show AW _ (.cond _ _ _) _ _ _
 refine cT rfl ?_
 show AWl _ _ _ _ _
 iterate 2 refine aN rfl rfl (by constructor) ?_
 refine sE ?_
 refine ⟨_, out2 (r_tmp rfl (by constructor)) (r_tmp rfl (by constructor)) ⟨rfl, rfl⟩, ?_⟩
 exact ⟨rfl, st.drop⟩
theorem told_over {H : Hp} {b : Nat} {cmd stat : Int} {tag cd : Int} (hk : H.m b = some ⟨true, 64, [.string ⟨#[]⟩, .string ⟨#[116]⟩, .bool false, .bool false, .bool false, .int .i64 sg, .int .i64 bu, .int .i64 65536, .bool true, .bool true, .slice none 0 0, .int .u32 cmd, .int .u32 stat, .int .u32 tg, .slice none 0 0, .slice none 0 0, .bool true, .slice none 0 0]⟩) :
  ACalls Try.prog 20 [.pointer (some ⟨b, 0, none⟩), .int .u32 tag, .int .u8 cd] H (fun v H' => v = .slice none 0 0 ∧ Stt [] H H' []) := by
 refine acallsW Try.func20 f20_ok (Nat.le_of_ble_eq_true rfl) fun hw => ?_
 have st : Stt [] H H [] := Stt.start hw
 replace st := st.ro hk (by simp)
 unfold f20c
 show AWl _ _ _ _ _
 refine aN rfl rfl (by constructor) ?_
 refine sE ?_
 show AWl _ _ _ _ _
 refine aN rfl rfl (by constructor) ?_
 refine aBinV (.bool false) rfl rfl rfl ?_
 refine aN rfl rfl (by constructor) ?_
 refine gT rfl ?_
 refine aN rfl rfl (by constructor) ?_
 refine gT rfl ?_
 refine aN rfl rfl (by constructor) ?_
 refine gT rfl ?_
 refine aN rfl rfl (by constructor) ?_
 refine gT rfl ?_
 refine aLd st 0 rfl rfl rfl (by constructor) ?_
 refine aN rfl rfl (by constructor) ?_
 refine sE ?_
 show AW _ (.cond _ _ _) _ _ _
 refine cT rfl ?_
 show AWl _ _ _ _ _
 refine aN rfl rfl (by constructor) ?_
 refine sE ?_
 refine ⟨_, out1 (r_tmp rfl (by constructor)), ?_⟩
 exact ⟨rfl, st.drop⟩
theorem in_nil {H : Hp} {us : List Value}  (hu : us.length = 14) :
  ACalls Try.prog 13 [.pointer none, .agg us.toArray] H (fun v H' => v = .tuple #[.slice none 0 0, .slice none 0 0] ∧ Stt [] H H' []) := by
 refine acallsW Try.func13 f13_ok (Nat.le_of_ble_eq_true rfl) fun hw => ?_
 have st : Stt [] H H [] := Stt.start hw
 unfold f13c
 show AWl _ _ _ _ _
 refine aBox st rfl rfl hu fun b3 H1 st => ?_
 iterate 2 refine aN rfl rfl (by constructor) ?_
 refine sE ?_
 show AWl _ _ _ _ _
 refine aN rfl rfl (by constructor) ?_
 refine aBinV (.bool true) rfl rfl (rfl) ?_
 refine aN rfl rfl (by constructor) ?_
 refine gF rfl (by decide) ?_
 refine gF rfl (by decide) ?_
 refine gF rfl (by decide) ?_
 refine gF rfl (by decide) ?_
 refine aN rfl rfl (by constructor) ?_
 refine sE ?_
 show AW _ (.cond _ _ _) _ _ _
 refine cT rfl ?_
 show AWl _ _ _ _ _
 iterate 2 refine aN rfl rfl (by constructor) ?_
 refine sE ?_
 refine ⟨_, out2 (r_tmp rfl (by constructor)) (r_tmp rfl (by constructor)) ⟨rfl, rfl⟩, ?_⟩
 exact ⟨rfl, st.drop⟩
theorem told_nil {H : Hp} {tag cd : Int}  :
  ACalls Try.prog 20 [.pointer none, .int .u32 tag, .int .u8 cd] H (fun v H' => v = .slice none 0 0 ∧ Stt [] H H' []) := by
 refine acallsW Try.func20 f20_ok (Nat.le_of_ble_eq_true rfl) fun hw => ?_
 have st : Stt [] H H [] := Stt.start hw
 unfold f20c
 show AWl _ _ _ _ _
 refine aN rfl rfl (by constructor) ?_
 refine sE ?_
 show AWl _ _ _ _ _
 refine aN rfl rfl (by constructor) ?_
 refine aBinV (.bool true) rfl rfl (rfl) ?_
 refine aN rfl rfl (by constructor) ?_
 refine gF rfl (by decide) ?_
 refine gF rfl (by decide) ?_
 refine gF rfl (by decide) ?_
 refine gF rfl (by decide) ?_
 refine aN rfl rfl (by constructor) ?_
 refine sE ?_
 show AW _ (.cond _ _ _) _ _ _
 refine cT rfl ?_
 show AWl _ _ _ _ _
 refine aN rfl rfl (by constructor) ?_
 refine sE ?_
 refine ⟨_, out1 (r_tmp rfl (by constructor)), ?_⟩
 exact ⟨rfl, st.drop⟩
theorem end_nil {H : Hp} {tag : Int} {ds : Bool} {us : List Value}  (hu : us.length = 10) :
  ACalls Try.prog 17 [.pointer none, .int .u32 tag, .agg us.toArray, .bool ds] H (fun v H' => v = .slice none 0 0 ∧ Stt [] H H' []) := by
 refine acallsW Try.func17 f17_ok (Nat.le_of_ble_eq_true rfl) fun hw => ?_
 have st : Stt [] H H [] := Stt.start hw
 unfold f17c
 show AWl _ _ _ _ _
 refine aBox st rfl rfl hu fun b6 H1 st => ?_
 refine aN rfl rfl (by constructor) ?_
 refine sE ?_
 show AWl _ _ _ _ _
 refine aN rfl rfl (by constructor) ?_
 refine aBinV (.bool true) rfl rfl (rfl) ?_
 refine aN rfl rfl (by constructor) ?_
 refine gF rfl (by decide) ?_
 refine gF rfl (by decide) ?_
 refine gF rfl (by decide) ?_
 refine gF rfl (by decide) ?_
 refine aN rfl rfl (by constructor) ?_
 refine sE ?_
 show AW _ (.cond _ _ _) _ _ _
 refine cT rfl ?_
 show AWl _ _ _ _ _
 refine aN rfl rfl (by constructor) ?_
 refine sE ?_
 refine ⟨_, out1 (r_tmp rfl (by constructor)), ?_⟩
 exact ⟨rfl, st.drop⟩
theorem forget_nil {H : Hp} {tag : Int}  :
  ACalls Try.prog 18 [.pointer none, .int .u32 tag] H (fun v H' => v = .bool false ∧ Stt [] H H' []) := by
 refine acallsW Try.func18 f18_ok (Nat.le_of_ble_eq_true rfl) fun hw => ?_
 have st : Stt [] H H [] := Stt.start hw
 unfold f18c
 show AWl _ _ _ _ _
 refine aN rfl rfl (by constructor) ?_
 refine sE ?_
 show AWl _ _ _ _ _
 refine aN rfl rfl (by constructor) ?_
 refine aBinV (.bool true) rfl rfl (rfl) ?_
 refine sE ?_
 show AW _ (.cond _ _ _) _ _ _
 refine cT rfl ?_
 show AWl _ _ _ _ _
 refine aN rfl rfl (by constructor) ?_
 refine sE ?_
 refine ⟨_, out1 (r_tmp rfl (by constructor)), ?_⟩
 exact ⟨rfl, st.drop⟩
theorem over_nil {H : Hp}  :
  ACalls Try.prog 19 [.pointer none] H (fun v H' => v = .bool false ∧ Stt [] H H' []) := by
 refine acallsW Try.func19 f19_ok (Nat.le_of_ble_eq_true rfl) fun hw => ?_
 have st : Stt [] H H [] := Stt.start hw
 unfold f19c
 show AWl _ _ _ _ _
 refine aN rfl rfl (by constructor) ?_
 refine sE ?_
 show AWl _ _ _ _ _
 refine aN rfl rfl (by constructor) ?_
 refine aBinV (.bool false) rfl rfl (rfl) ?_
 refine aN rfl rfl (by constructor) ?_
 refine gF rfl (by decide) ?_
 refine gF rfl (by decide) ?_
 refine gF rfl (by decide) ?_
 refine gF rfl (by decide) ?_
 iterate 2 refine aN rfl rfl (by constructor) ?_
 refine sE ?_
 refine ⟨_, out1 (r_tmp rfl (by constructor)), ?_⟩
 exact ⟨rfl, st.drop⟩
theorem over_over {H : Hp} {b : Nat} {cmd stat : Int} (hk : H.m b = some ⟨true, 64, [.string ⟨#[]⟩, .string ⟨#[116]⟩, .bool false, .bool false, .bool false, .int .i64 sg, .int .i64 bu, .int .i64 65536, .bool true, .bool true, .slice none 0 0, .int .u32 cmd, .int .u32 stat, .int .u32 tg, .slice none 0 0, .slice none 0 0, .bool true, .slice none 0 0]⟩) :
  ACalls Try.prog 19 [.pointer (some ⟨b, 0, none⟩)] H (fun v H' => v = .bool true ∧ Stt [] H H' []) := by
 refine acallsW Try.func19 f19_ok (Nat.le_of_ble_eq_true rfl) fun hw => ?_
 have st : Stt [] H H [] := Stt.start hw
 replace st := st.ro hk (by simp)
 unfold f19c
 show AWl _ _ _ _ _
 refine aN rfl rfl (by constructor) ?_
 refine sE ?_
 show AWl _ _ _ _ _
 refine aN rfl rfl (by constructor) ?_
 refine aBinV (.bool true) rfl rfl rfl ?_
 refine aN rfl rfl (by constructor) ?_
 refine gT rfl ?_
 refine aN rfl rfl (by constructor) ?_
 refine gT rfl ?_
 refine aN rfl rfl (by constructor) ?_
 refine gT rfl ?_
 refine aN rfl rfl (by constructor) ?_
 refine gT rfl ?_
 refine aLd st 0 rfl rfl rfl (by constructor) ?_
 iterate 2 refine aN rfl rfl (by constructor) ?_
 refine sE ?_
 refine ⟨_, out1 (r_tmp rfl (by constructor)), ?_⟩
 exact ⟨rfl, st.drop⟩
theorem waits_nil {H : Hp}  :
  ACalls Try.prog 16 [.pointer none] H (fun v H' => v = .int .i64 0 ∧ Stt [] H H' []) := by
 refine acallsW Try.func16 f16_ok (Nat.le_of_ble_eq_true rfl) fun hw => ?_
 have st : Stt [] H H [] := Stt.start hw
 unfold f16c
 show AWl _ _ _ _ _
 refine aN rfl rfl (by constructor) ?_
 refine sE ?_
 show AWl _ _ _ _ _
 refine aN rfl rfl (by constructor) ?_
 refine aBinV (.bool true) rfl rfl (rfl) ?_
 refine sE ?_
 show AW _ (.cond _ _ _) _ _ _
 refine cT rfl ?_
 show AWl _ _ _ _ _
 refine aN rfl rfl (by constructor) ?_
 refine sE ?_
 refine ⟨_, out1 (r_tmp rfl (by constructor)), ?_⟩
 exact ⟨rfl, st.drop⟩
theorem next_nil {H : Hp}  :
  ACalls Try.prog 15 [.pointer none] H (fun v H' => v = .int .u32 0 ∧ Stt [] H H' []) := by
 refine acallsW Try.func15 f15_ok (Nat.le_of_ble_eq_true rfl) fun hw => ?_
 have st : Stt [] H H [] := Stt.start hw
 unfold f15c
 show AWl _ _ _ _ _
 refine aN rfl rfl (by constructor) ?_
 refine sE ?_
 show AWl _ _ _ _ _
 refine aN rfl rfl (by constructor) ?_
 refine aBinV (.bool true) rfl rfl (rfl) ?_
 refine sE ?_
 show AW _ (.cond _ _ _) _ _ _
 refine cT rfl ?_
 show AWl _ _ _ _ _
 refine aN rfl rfl (by constructor) ?_
 refine sE ?_
 refine ⟨_, out1 (r_tmp rfl (by constructor)), ?_⟩
 exact ⟨rfl, st.drop⟩
theorem apart_nil {b : Nat} : Apart b (.slice none 0 0) := fun c o n m e hn => by cases e
theorem end0 {H : Hp} {b rb : Nat} {cmd stat tag g : Int} {g0 : Nat} (hg0 : g = (g0 : Int)) (hk : H.m b = some ⟨true, 64, [.string ⟨#[]⟩, .string ⟨#[116]⟩, .bool false, .bool false, .bool false, .int .i64 g, .int .i64 bu, .int .i64 65536, .bool true, .bool true, .slice none 0 0, .int .u32 cmd, .int .u32 stat, .int .u32 tg, .slice none 0 0, .slice none 0 0, .bool false, .slice (some ⟨rb, 0, none⟩) 1 8]⟩) (hkr : H.m rb = some ⟨true, 41, [.int .u32 tag, .int .u8 0, .int .u8 0, .slice none 0 0, .slice none 0 0, .int .i64 0, .int .u8 64, .int .u32 0]⟩) (hr : rb ≠ b) (hg : 1 ≤ g0 ∧ g0 ≤ 65536) : ACalls Try.prog 17 [.pointer (some ⟨b, 0, none⟩), .int .u32 tag, .agg #[.int .u8 0, .int .u8 0, .int .u16 0, .int .u64 0, .bool false, .int .i64 0, .int .i64 0, .bool false, .bool false, .slice none 0 0], .bool false] H fun v H' => ∃ c, v = .slice (some ⟨c, 0, none⟩) 1 14 ∧ Stt [b] H H' [⟨some b, true, ⟨true, 64, [.string ⟨#[]⟩, .string ⟨#[116]⟩, .bool false, .bool false, .bool false, .int .i64 g, .int .i64 bu, .int .i64 65536, .bool true, .bool true, .slice none 0 0, .int .u32 cmd, .int .u32 (IntKind.u32.wrap (stat + 1)), .int .u32 tg, .slice none 0 0, .slice none 0 0, .bool false, .slice none 0 0]⟩⟩, ⟨some c, true, ⟨true, 37, [.int .u8 33, .int .u8 128, .int .u8 0, .int .u8 0, .int .u8 0, .int .u32 tag, .int .u32 0, .int .u32 stat, .int .u32 cmd, .int .u32 (IntKind.u32.wrap (IntKind.u32.wrap (cmd + 16) - 1)), .int .u32 ((0 : Nat) : Int), .int .u32 0, .int .u32 0, .slice none 0 0]⟩⟩] := by
  subst hg0
  refine (end_r (g := g0) (W := 0) (xs := []) hk hkr hr sl_nil' apart_nil (by simp) (by omega) hg).mono ?_
  rintro v H' ⟨c, zs, ls, fl, rs, hls, hv, hzs, hlt, hle, hfr, st⟩
  have hz : zs = [] := by
    cases zs with
    | nil => rfl
    | cons z zs => exact absurd (hlt 0 (by simp)) (by rw [hls]; simp)
  subst hz
  simp only [List.length_nil] at hfr
  obtain ⟨rfl, rfl⟩ : fl = 128 ∧ rs = 0 := by omega
  exact ⟨c, hv, st⟩

end Go.Proofs.Ytloeadlmcdddnaa.Abs
