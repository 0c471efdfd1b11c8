/- Sessions: data for nothing. -/
import Derived.Test.YtloeadlmcdddnaaZA
import Derived.Test.YtloeadlmcdddnaaZC
set_option linter.unusedVariables false
set_option linter.unusedSimpArgs false
set_option maxRecDepth 100000
namespace Go.Proofs.Ytloeadlmcdddnaa.Abs
open Go Go.RowKit
variable {tg sg bu : Int}
theorem data0_call {H : Hp} {b : Nat} {cmd stat : Int} {hd rd : Value} {p : Pd} {x : Value} (hk : H.m b = some ⟨true, 64, [.string ⟨#[]⟩, .string ⟨#[116]⟩, .bool false, .bool false, .bool false, .int .i64 sg, .int .i64 bu, .int .i64 65536, .bool true, .bool true, .slice none 0 0, .int .u32 cmd, .int .u32 stat, .int .u32 tg, hd, .slice none 0 0, .bool false, rd]⟩) (hp : ({ p with op := 5 } : Pd).wf) (hx : Sl H 1 p.data.length (p.data.map (Value.int .u8)) x) (hap : Apart b x) (h8 : p.data.length ≤ 8192) :
  ACalls Try.prog 21 [.pointer (some ⟨b, 0, none⟩), .agg #[.int .u8 5, .int .u8 p.fl, .int .u8 p.res, .int .u8 p.st, .int .u8 p.lun, .int .u32 p.tag, .int .u32 p.w0, .int .u32 p.w1, .int .u32 p.w2, .int .u32 p.w3, .int .u32 p.w4, .int .u32 p.w5, .int .u32 p.w6, x]] H (fun v H' => ∃ (c bp : Nat) (zs : List Int), v = .tuple #[.slice (some ⟨c, 0, none⟩) 1 14, .slice none 0 0] ∧ (zs.length = 48 ∧ zs.getD 0 0 = 5 ∧ zs.getD 1 0 = p.fl) ∧ Stt [b] H H' [⟨some b, true, ⟨true, 64, [.string ⟨#[]⟩, .string ⟨#[116]⟩, .bool false, .bool false, .bool false, .int .i64 sg, .int .i64 bu, .int .i64 65536, .bool true, .bool true, .slice none 0 0, .int .u32 cmd, .int .u32 (IntKind.u32.wrap (stat + 1)), .int .u32 tg, hd, .slice none 0 0, .bool false, rd]⟩⟩, ⟨some c, true, ⟨true, 37, [.int .u8 63, .int .u8 128, .int .u8 9, .int .u8 0, .int .u8 0, .int .u32 4294967295, .int .u32 0, .int .u32 stat, .int .u32 cmd, .int .u32 (IntKind.u32.wrap (IntKind.u32.wrap (cmd + 16) - 1)), .int .u32 0, .int .u32 0, .int .u32 0, .slice (some ⟨bp, 0, none⟩) 48 1]⟩⟩, ⟨some bp, true, ⟨true, 5, zs.map (Value.int .u8)⟩⟩]) := by
 refine acallsW Try.func21 f21_ok (Nat.le_of_ble_eq_true rfl) fun hw => ?_
 have st : Stt [b] H H [] := Stt.start hw
 replace st := st.mine hk rfl (by simp) (by simp)
 obtain ⟨px, cx, rfl⟩ := hx.shape
 unfold f21c
 show AWl _ _ _ _ _
 refine aBoxN st rfl rfl (by repeat constructor) rfl fun b3 H1 st => ?_
 iterate 2 refine aN rfl rfl (by constructor) ?_
 refine sE ?_
 show AWl _ _ _ _ _
 iterate 3 refine aN rfl rfl (by constructor) ?_
 refine aLd st 1 rfl rfl rfl (by constructor) ?_
 refine aN (v := .int .i64 0) rfl rfl (by constructor) ?_
 refine aN rfl rfl (by constructor) ?_
 refine sE ?_
 show AW _ (.loop _) _ _ _
 refine AW_loopN (fun m t1 H1 => m = 0 ∧ t1 15 = .int .i64 0 ∧ Stt [b] H H1 [⟨some b3, true, ⟨true, 37, [.int .u8 5, .int .u8 p.fl, .int .u8 p.res, .int .u8 p.st, .int .u8 p.lun, .int .u32 p.tag, .int .u32 p.w0, .int .u32 p.w1, .int .u32 p.w2, .int .u32 p.w3, .int .u32 p.w4, .int .u32 p.w5, .int .u32 p.w6, (Value.slice px p.data.length cx)]⟩⟩, ⟨some b, true, ⟨true, 64, [.string ⟨#[]⟩, .string ⟨#[116]⟩, .bool false, .bool false, .bool false, .int .i64 sg, .int .i64 bu, .int .i64 65536, .bool true, .bool true, .slice none 0 0, .int .u32 cmd, .int .u32 stat, .int .u32 tg, hd, .slice none 0 0, .bool false, rd]⟩⟩]) 0 ⟨rfl, rfl, (st.sel [0, 1] (by decide))⟩ [4, 5, 6, 7, 8, 9, 15, 16, 17, 18, 19, 20, 21, 22, 23, 24, 25, 26, 27, 28, 29, 30, 31, 32, 33, 34, 35, 36, 37, 38, 39, 40, 41, 42, 43, 44, 45, 46, 47, 48, 49, 50, 51, 52, 53, 54, 55, 56, 57, 58, 59, 60, 61, 62, 63, 64, 65, 66, 67, 68, 69, 70, 71, 72, 73, 74, 75, 76, 77, 78, 79, 80, 81, 82, 83, 84, 85, 86, 87, 88, 89, 90, 91, 92, 93, 94, 95, 96, 97, 98, 99, 100, 101, 102, 103, 104, 105, 106, 107, 108, 109, 110, 111, 112, 113, 114, 115, 116, 117, 118, 119, 120, 121, 122, 123, 124, 125, 126, 127, 128, 129, 130, 131, 132, 133, 134, 135, 136, 137, 138, 139, 140, 141, 142, 143] (by decide) ?_
 rintro m t1 H1 hk hI
 obtain ⟨rfl, ht15, st⟩ := hI
 obtain ⟨u, rfl⟩ : ∃ u, t1 = (upd (mix [4, 5, 6, 7, 8, 9, 15, 16, 17, 18, 19, 20, 21, 22, 23, 24, 25, 26, 27, 28, 29, 30, 31, 32, 33, 34, 35, 36, 37, 38, 39, 40, 41, 42, 43, 44, 45, 46, 47, 48, 49, 50, 51, 52, 53, 54, 55, 56, 57, 58, 59, 60, 61, 62, 63, 64, 65, 66, 67, 68, 69, 70, 71, 72, 73, 74, 75, 76, 77, 78, 79, 80, 81, 82, 83, 84, 85, 86, 87, 88, 89, 90, 91, 92, 93, 94, 95, 96, 97, 98, 99, 100, 101, 102, 103, 104, 105, 106, 107, 108, 109, 110, 111, 112, 113, 114, 115, 116, 117, 118, 119, 120, 121, 122, 123, 124, 125, 126, 127, 128, 129, 130, 131, 132, 133, 134, 135, 136, 137, 138, 139, 140, 141, 142, 143] _ u) (some 15) _) := ⟨t1, by rw [← hk, upd_self ht15]⟩
 clear hk ht15
 show AWl _ _ _ _ _
 refine aBinV (.bool false) rfl rfl rfl ?_
 refine sE ?_
 show AW _ (.cond _ _ _) _ _ _
 refine cF' rfl ?_
 show AWl _ _ _ _ _
 refine aN rfl rfl (by constructor) ?_
 refine aLdA st 0 rfl rfl (by first | decide | simp [*]) (by repeat constructor) ?_
 refine aC (reject_call (p := { p with op := 5 }) (st.get (j := 1) rfl) hp (st.slcX hx hap) hap h8) fun v146 H2 ⟨c146, bp146, zs, hv, hz, st1⟩ => ?_
 subst hv
 replace st := st.callX 1 rfl st1 rfl
 clear st1
 iterate 2 refine aN rfl rfl (by constructor) ?_
 refine sE ?_
 refine ⟨_, out2 (r_tmp rfl (by constructor)) (r_tmp rfl (by constructor)) ⟨rfl, rfl⟩, ?_⟩
 exact ⟨c146, bp146, zs, rfl, hz, st.sel [0, 1, 2] (by decide)⟩
theorem in_data0 {H : Hp} {b : Nat} {cmd stat : Int} {hd rd : Value} {p : Pd} {x : Value} (hk : H.m b = some ⟨true, 64, [.string ⟨#[]⟩, .string ⟨#[116]⟩, .bool false, .bool false, .bool false, .int .i64 sg, .int .i64 bu, .int .i64 65536, .bool true, .bool true, .slice none 0 0, .int .u32 cmd, .int .u32 stat, .int .u32 tg, hd, .slice none 0 0, .bool false, rd]⟩) (hp : ({ p with op := 5 } : Pd).wf) (hx : Sl H 1 p.data.length (p.data.map (Value.int .u8)) x) (hap : Apart b x) (h8 : p.data.length ≤ 8192) :
  ACalls Try.prog 13 [.pointer (some ⟨b, 0, none⟩), .agg #[.int .u8 5, .int .u8 p.fl, .int .u8 p.res, .int .u8 p.st, .int .u8 p.lun, .int .u32 p.tag, .int .u32 p.w0, .int .u32 p.w1, .int .u32 p.w2, .int .u32 p.w3, .int .u32 p.w4, .int .u32 p.w5, .int .u32 p.w6, x]] H (fun v H' => ∃ (c bp : Nat) (zs : List Int), v = .tuple #[.slice (some ⟨c, 0, none⟩) 1 14, .slice none 0 0] ∧ (zs.length = 48 ∧ zs.getD 0 0 = 5 ∧ zs.getD 1 0 = p.fl) ∧ Stt [b] H H' [⟨some b, true, ⟨true, 64, [.string ⟨#[]⟩, .string ⟨#[116]⟩, .bool false, .bool false, .bool false, .int .i64 sg, .int .i64 bu, .int .i64 65536, .bool true, .bool true, .slice none 0 0, .int .u32 cmd, .int .u32 (IntKind.u32.wrap (stat + 1)), .int .u32 tg, hd, .slice none 0 0, .bool false, rd]⟩⟩, ⟨some c, true, ⟨true, 37, [.int .u8 63, .int .u8 128, .int .u8 9, .int .u8 0, .int .u8 0, .int .u32 4294967295, .int .u32 0, .int .u32 stat, .int .u32 cmd, .int .u32 (IntKind.u32.wrap (IntKind.u32.wrap (cmd + 16) - 1)), .int .u32 0, .int .u32 0, .int .u32 0, .slice (some ⟨bp, 0, none⟩) 48 1]⟩⟩, ⟨some bp, true, ⟨true, 5, zs.map (Value.int .u8)⟩⟩]) := by
 refine acallsW Try.func13 f13_ok (Nat.le_of_ble_eq_true rfl) fun hw => ?_
 have st : Stt [b] H H [] := Stt.start hw
 replace st := st.mine hk rfl (by simp) (by simp)
 obtain ⟨px, cx, rfl⟩ := hx.shape
 unfold f13c
 show AWl _ _ _ _ _
 refine aBoxN st rfl rfl (by repeat constructor) rfl fun b3 H1 st => ?_
 iterate 2 refine aN rfl rfl (by constructor) ?_
 refine sE ?_
 show AWl _ _ _ _ _
 refine aN rfl rfl (by constructor) ?_
 refine aBinV (.bool false) rfl rfl rfl ?_
 refine aN rfl rfl (by constructor) ?_
 refine gT rfl ?_
 refine aN rfl rfl (by constructor) ?_
 refine gT rfl ?_
 refine aN rfl rfl (by constructor) ?_
 refine gT rfl ?_
 refine aN rfl rfl (by constructor) ?_
 refine gT rfl ?_
 refine aLd st 1 rfl rfl rfl (by constructor) ?_
 refine aN rfl rfl (by constructor) ?_
 refine sE ?_
 show AW _ (.cond _ _ _) _ _ _
 refine cF' rfl ?_
 show AWp _ _ _ _ _
 refine aN rfl rfl (by constructor) ?_
 refine aLd st 0 rfl rfl rfl (by constructor) ?_
 refine aBinV (.int .u8 5) rfl rfl (rfl) ?_
 refine aN rfl rfl (by constructor) ?_
 refine aLd st 0 rfl rfl rfl (by constructor) ?_
 refine aBinV (.int .u8 0) rfl rfl (rfl) ?_
 refine aBinV (.bool false) rfl rfl rfl ?_
 iterate 2 refine aN rfl rfl (by constructor) ?_
 refine pE ?_
 show AWl _ _ _ _ _
 refine aN rfl rfl (by constructor) ?_
 refine aBinV (.bool true) rfl rfl rfl ?_
 refine aN rfl rfl (by constructor) ?_
 refine sE ?_
 show AW _ (.cond _ _ _) _ _ _
 refine cT rfl ?_
 show AWl _ _ _ _ _
 refine aN rfl rfl (by constructor) ?_
 refine aLdA st 0 rfl rfl (by first | decide | simp [*]) (by repeat constructor) ?_
 refine aC (data0_call (p := p) (st.get (j := 1) rfl) hp (st.slcX hx hap) hap h8) fun v36 H2 ⟨c36, bp36, zs, hv, hz, st1⟩ => ?_
 subst hv
 replace st := st.callX 1 rfl st1 rfl
 clear st1
 iterate 4 refine aN rfl rfl (by constructor) ?_
 refine sE ?_
 refine ⟨_, out2 (r_tmp rfl (by constructor)) (r_tmp rfl (by constructor)) ⟨rfl, rfl⟩, ?_⟩
 exact ⟨c36, bp36, zs, rfl, hz, st.sel [0, 1, 2] (by decide)⟩
end Go.Proofs.Ytloeadlmcdddnaa.Abs
