/- Sessions: outside the window. -/
import Derived.Test.YtloeadlmcdddnaaZ5
set_option linter.unusedVariables false
set_option linter.unusedSimpArgs false
set_option maxRecDepth 100000
namespace Go.Proofs.Ytloeadlmcdddnaa.Abs
open Go Go.RowKit
variable {tg sg bu : Int}
theorem waits0 {H : Hp} {b : Nat} {cmd stat : Int} (hk : H.m b = some ⟨true, 64, [.string ⟨#[]⟩, .string ⟨#[116]⟩, .bool false, .bool false, .bool false, .int .i64 sg, .int .i64 bu, .int .i64 65536, .bool true, .bool true, .slice none 0 0, .int .u32 cmd, .int .u32 stat, .int .u32 tg, .slice none 0 0, .slice none 0 0, .bool false, .slice none 0 0]⟩) :
  ACalls Try.prog 16 [.pointer (some ⟨b, 0, none⟩)] H (fun v H' => v = .int .i64 0 ∧ Stt [] H H' []) := by
 refine acallsW Try.func16 f16_ok (Nat.le_of_ble_eq_true rfl) fun hw => ?_
 have st : Stt [] H H [] := Stt.start hw
 replace st := st.ro hk (by simp)
 unfold f16c
 show AWl _ _ _ _ _
 refine aN rfl rfl (by constructor) ?_
 refine sE ?_
 show AWl _ _ _ _ _
 refine aN rfl rfl (by constructor) ?_
 refine aBinV (.bool false) rfl rfl rfl ?_
 refine sE ?_
 show AW _ (.cond _ _ _) _ _ _
 refine cF' rfl ?_
 show AWl _ _ _ _ _
 iterate 3 refine aN rfl rfl (by constructor) ?_
 refine aLd st 0 rfl rfl rfl (by constructor) ?_
 refine aN (v := .int .i64 0) rfl rfl (by constructor) ?_
 refine aN rfl rfl (by constructor) ?_
 refine sE ?_
 refine ⟨_, out1 (r_tmp rfl (by constructor)), ?_⟩
 exact ⟨rfl, st.drop⟩
theorem in_out {H : Hp} {b : Nat} {cmd tag n w1 : Int} (hk : H.m b = some ⟨true, 64, [.string ⟨#[]⟩, .string ⟨#[116]⟩, .bool false, .bool false, .bool false, .int .i64 sg, .int .i64 bu, .int .i64 65536, .bool true, .bool true, .slice none 0 0, .int .u32 cmd, .int .u32 1, .int .u32 tg, .slice none 0 0, .slice none 0 0, .bool false, .slice none 0 0]⟩) (hw16 : IntKind.u32.wrap (w1 - cmd) ≥ 16) :
  ACalls Try.prog 13 [.pointer (some ⟨b, 0, none⟩), .agg #[.int .u8 1, .int .u8 193, .int .u8 0, .int .u8 0, .int .u8 0, .int .u32 tag, .int .u32 n, .int .u32 w1, .int .u32 0, .int .u32 671088640, .int .u32 0, .int .u32 0, .int .u32 0, .slice none 0 0]] H (fun v H' => v = .tuple #[.slice none 0 0, .slice none 0 0] ∧ Stt [] H H' []) := by
 refine acallsW Try.func13 f13_ok (Nat.le_of_ble_eq_true rfl) fun hw => ?_
 have st : Stt [] H H [] := Stt.start hw
 replace st := st.ro hk (by simp)
 unfold f13c
 show AWl _ _ _ _ _
 refine aBoxN st rfl rfl (by repeat constructor) rfl fun b3 H1 st => ?_
 iterate 2 refine aN rfl rfl (by constructor) ?_
 refine sE ?_
 show AWl _ _ _ _ _
 refine aN rfl rfl (by constructor) ?_
 refine aBinV (.bool false) rfl rfl rfl ?_
 refine aN rfl rfl (by constructor) ?_
 refine gT rfl ?_
 refine aN rfl rfl (by constructor) ?_
 refine gT rfl ?_
 refine aN rfl rfl (by constructor) ?_
 refine gT rfl ?_
 refine aN rfl rfl (by constructor) ?_
 refine gT rfl ?_
 refine aLd st 1 rfl rfl rfl (by constructor) ?_
 refine aN rfl rfl (by constructor) ?_
 refine sE ?_
 show AW _ (.cond _ _ _) _ _ _
 refine cF' rfl ?_
 show AWp _ _ _ _ _
 refine aN rfl rfl (by constructor) ?_
 refine aLd st 0 rfl rfl rfl (by constructor) ?_
 refine aBinV (.int .u8 1) rfl rfl rfl ?_
 refine aN rfl rfl (by constructor) ?_
 refine aLd st 0 rfl rfl rfl (by constructor) ?_
 refine aBinV (.int .u8 0) rfl rfl rfl ?_
 refine aBinV (.bool false) rfl rfl rfl ?_
 iterate 2 refine aN rfl rfl (by constructor) ?_
 refine pE ?_
 show AWl _ _ _ _ _
 refine aN rfl rfl (by constructor) ?_
 refine aBinV (.bool false) rfl rfl rfl ?_
 refine aN rfl rfl (by constructor) ?_
 refine sE ?_
 show AW _ (.cond _ _ _) _ _ _
 refine cF' rfl ?_
 show AWl _ _ _ _ _
 refine aN rfl rfl (by constructor) ?_
 refine aBinV (.bool true) rfl rfl rfl ?_
 refine aN rfl rfl (by constructor) ?_
 refine gT rfl ?_
 refine aN rfl rfl (by constructor) ?_
 refine gT rfl ?_
 refine aBinV (.bool false) rfl rfl rfl ?_
 iterate 2 refine aN rfl rfl (by constructor) ?_
 refine gF rfl (by decide) ?_
 refine gF rfl (by decide) ?_
 iterate 2 refine aN rfl rfl (by constructor) ?_
 refine gF rfl (by decide) ?_
 refine gF rfl (by decide) ?_
 iterate 2 refine aN rfl rfl (by constructor) ?_
 refine gF rfl (by decide) ?_
 refine gF rfl (by decide) ?_
 iterate 2 refine aN rfl rfl (by constructor) ?_
 refine gT rfl ?_
 refine aN rfl rfl (by constructor) ?_
 refine gT rfl ?_
 refine aLd st 0 rfl rfl rfl (by constructor) ?_
 refine gT rfl ?_
 refine aBinV (.int .u8 0) rfl rfl rfl ?_
 refine gT rfl ?_
 refine aBinV (.bool false) rfl rfl rfl ?_
 iterate 2 refine aN rfl rfl (by constructor) ?_
 refine sE ?_
 show AW _ (.cond _ _ _) _ _ _
 refine cF' rfl ?_
 show AWl _ _ _ _ _
 iterate 2 refine aN rfl rfl (by constructor) ?_
 refine sE ?_
 show AW _ (.cond _ _ _) _ _ _
 refine cF' rfl ?_
 show AWp _ _ _ _ _
 iterate 2 refine aN rfl rfl (by constructor) ?_
 refine aLd st 0 rfl rfl rfl (by constructor) ?_
 iterate 3 refine aN rfl rfl (by constructor) ?_
 refine aLd st 1 rfl rfl rfl (by constructor) ?_
 refine aN rfl rfl (by constructor) ?_
 refine aBinV (.bool true) rfl rfl (by exact congrArg (fun q => some (Value.bool q)) (decide_eq_true hw16)) ?_
 refine aN rfl rfl (by constructor) ?_
 refine pE ?_
 show AW _ (.cond _ _ _) _ _ _
 refine cT rfl ?_
 show AWl _ _ _ _ _
 iterate 2 refine aN rfl rfl (by constructor) ?_
 refine sE ?_
 refine ⟨_, out2 (r_tmp rfl (by constructor)) (r_tmp rfl (by constructor)) ⟨rfl, rfl⟩, ?_⟩
 exact ⟨rfl, st.drop⟩
end Go.Proofs.Ytloeadlmcdddnaa.Abs
