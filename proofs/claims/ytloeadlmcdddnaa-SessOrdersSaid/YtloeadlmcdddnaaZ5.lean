/- Sessions: a read in its turn. -/
import Derived.Test.YtloeadlmcdddnaaZ4
import Derived.Test.YtloeadlmcdddnaaZ2
set_option linter.unusedVariables false
set_option linter.unusedSimpArgs false
set_option maxRecDepth 100000
namespace Go.Proofs.Ytloeadlmcdddnaa.Abs
open Go Go.RowKit
variable {tg sg bu : Int}
theorem ne_int {tk : Nat} {k : IntKind} {n : Int} : aBin tk .neq (.int k n) (.int k n) = some (.bool false) := by simp [aBin, isShift, aInt]
theorem eq_int {tk : Nat} {k : IntKind} {n : Int} : aBin tk .eql (.int k n) (.int k n) = some (.bool true) := by simp [aBin, isShift, aInt]
theorem do_read {H : Hp} {b : Nat} {cmd stat tag n w1 : Int} {hd : Value} (hk : H.m b = some ⟨true, 64, [.string ⟨#[]⟩, .string ⟨#[116]⟩, .bool false, .bool false, .bool false, .int .i64 sg, .int .i64 bu, .int .i64 65536, .bool true, .bool true, .slice none 0 0, .int .u32 cmd, .int .u32 stat, .int .u32 tg, hd, .slice none 0 0, .bool false, .slice none 0 0]⟩) :
  ACalls Try.prog 23 [.pointer (some ⟨b, 0, none⟩), .agg #[.int .u8 1, .int .u8 193, .int .u8 0, .int .u8 0, .int .u8 0, .int .u32 tag, .int .u32 n, .int .u32 w1, .int .u32 0, .int .u32 671088640, .int .u32 0, .int .u32 0, .int .u32 0, .slice none 0 0]] H (fun v H' => ∃ c oc rb, v = .tuple #[.slice none 0 0, .slice (some ⟨c, 0, none⟩) 1 8] ∧ Stt [b] H H' [⟨some b, true, ⟨true, 64, [.string ⟨#[]⟩, .string ⟨#[116]⟩, .bool false, .bool false, .bool false, .int .i64 sg, .int .i64 bu, .int .i64 65536, .bool true, .bool true, .slice none 0 0, .int .u32 cmd, .int .u32 stat, .int .u32 tg, hd, .slice none 0 0, .bool false, accV rb 1 8]⟩⟩, ⟨some c, true, ⟨true, 41, [.int .u32 tag, .int .u8 0, .int .u8 0, accV oc 16 1, .slice none 0 0, .int .i64 (IntKind.i64.wrap n), .int .u8 0, .int .u32 0]⟩⟩, ⟨oc, true, ⟨true, 5, (w4s [671088640, 0, 0, 0] 4).map (Value.int .u8)⟩⟩, ⟨rb, true, ⟨true, 41, [.int .u32 tag, .int .u8 0, .int .u8 0, .slice none 0 0, .slice none 0 0, .int .i64 (IntKind.i64.wrap n), .int .u8 64, .int .u32 0]⟩⟩]) := by
 refine acallsW Try.func23 f23_ok (Nat.le_of_ble_eq_true rfl) fun hw => ?_
 have st : Stt [b] H H [] := Stt.start hw
 replace st := st.mine hk rfl (by simp) (by simp)
 unfold f23c
 show AWl _ _ _ _ _
 refine aBoxN st rfl rfl (by repeat constructor) rfl fun b3 H1 st => ?_
 iterate 2 refine aN rfl rfl (by constructor) ?_
 refine sE ?_
 show AWl _ _ _ _ _
 refine aN rfl rfl (by constructor) ?_
 refine aLd st 0 rfl rfl rfl (by constructor) ?_
 refine aBinV (.int .u8 1) rfl rfl rfl ?_
 refine sE ?_
 show AWl _ _ _ _ _
 refine aBinV (.bool false) rfl rfl rfl ?_
 refine aN rfl rfl (by constructor) ?_
 refine sE ?_
 show AW _ (.cond _ _ _) _ _ _
 refine cF' rfl ?_
 show AWl _ _ _ _ _
 refine aBinV (.bool false) rfl rfl rfl ?_
 refine aN rfl rfl (by constructor) ?_
 refine sE ?_
 show AW _ (.cond _ _ _) _ _ _
 refine cF' rfl ?_
 show AWl _ _ _ _ _
 refine aBinV (.bool false) rfl rfl rfl ?_
 refine aN rfl rfl (by constructor) ?_
 refine sE ?_
 show AW _ (.cond _ _ _) _ _ _
 refine cF' rfl ?_
 show AWl _ _ _ _ _
 refine aBinV (.bool false) rfl rfl rfl ?_
 refine aN rfl rfl (by constructor) ?_
 refine sE ?_
 show AW _ (.cond _ _ _) _ _ _
 refine cF' rfl ?_
 show AWl _ _ _ _ _
 refine aN rfl rfl (by constructor) ?_
 refine aLdA st 0 rfl rfl (by first | decide | simp [*]) (by repeat constructor) ?_
 refine aC (command_call (st.get (j := 1) rfl)) fun v67 H2 ⟨c67, oc67, rb67, hv, st1⟩ => ?_
 subst hv
 replace st := st.callX 1 rfl st1 rfl
 clear st1
 iterate 4 refine aN rfl rfl (by constructor) ?_
 refine sE ?_
 refine ⟨_, out2 (r_tmp rfl (by constructor)) (r_tmp rfl (by constructor)) ⟨rfl, rfl⟩, ?_⟩
 exact ⟨c67, oc67, rb67, rfl, st.sel [0, 1, 2, 3] (by decide)⟩
theorem without_call {H : Hp} {c : Nat}  :
  ACalls Try.prog 24 [.slice (some ⟨c, 0, none⟩) 1 14, .int .i64 0] H (fun v H' => v = .slice none 0 0 ∧ Stt [] H H' []) := by
 refine acallsW Try.func24 f24_ok (Nat.le_of_ble_eq_true rfl) fun hw => ?_
 have st : Stt [] H H [] := Stt.start hw
 unfold f24c
 show AWl _ _ _ _ _
 refine aN rfl rfl (by constructor) ?_
 refine sE ?_
 show AWp _ _ _ _ _
 iterate 2 refine aN rfl rfl (by constructor) ?_
 refine aN rfl rfl (.any _) ?_
 iterate 3 refine aN rfl rfl (by constructor) ?_
 refine aN rfl rfl (.any _) ?_
 refine ⟨?_, trivial⟩
 refine aN (v := .slice none 0 0) rfl rfl (by constructor) ?_
 refine ⟨trivial, ?_⟩
 refine ⟨?_, trivial⟩
 refine aN (v := .slice none 0 0) rfl rfl (by constructor) ?_
 refine ⟨trivial, ?_⟩
 refine aN rfl rfl (by constructor) ?_
 refine pE ?_
 refine ⟨_, out1 (r_tmp rfl (by constructor)), ?_⟩
 exact ⟨rfl, st.drop⟩
theorem in_read {H : Hp} {b : Nat} {cmd stat tag n : Int} (hk : H.m b = some ⟨true, 64, [.string ⟨#[]⟩, .string ⟨#[116]⟩, .bool false, .bool false, .bool false, .int .i64 sg, .int .i64 bu, .int .i64 65536, .bool true, .bool true, .slice none 0 0, .int .u32 cmd, .int .u32 stat, .int .u32 tg, .slice none 0 0, .slice none 0 0, .bool false, .slice none 0 0]⟩) :
  ACalls Try.prog 13 [.pointer (some ⟨b, 0, none⟩), .agg #[.int .u8 1, .int .u8 193, .int .u8 0, .int .u8 0, .int .u8 0, .int .u32 tag, .int .u32 n, .int .u32 cmd, .int .u32 0, .int .u32 671088640, .int .u32 0, .int .u32 0, .int .u32 0, .slice none 0 0]] H (fun v H' => ∃ c oc rb, v = .tuple #[.slice none 0 0, .slice (some ⟨c, 0, none⟩) 1 8] ∧ Stt [b] H H' [⟨some b, true, ⟨true, 64, [.string ⟨#[]⟩, .string ⟨#[116]⟩, .bool false, .bool false, .bool false, .int .i64 sg, .int .i64 bu, .int .i64 65536, .bool true, .bool true, .slice none 0 0, .int .u32 (IntKind.u32.wrap (cmd + 1)), .int .u32 stat, .int .u32 tg, .slice none 0 0, .slice none 0 0, .bool false, accV rb 1 8]⟩⟩, ⟨some c, true, ⟨true, 41, [.int .u32 tag, .int .u8 0, .int .u8 0, accV oc 16 1, .slice none 0 0, .int .i64 (IntKind.i64.wrap n), .int .u8 0, .int .u32 0]⟩⟩, ⟨oc, true, ⟨true, 5, (w4s [671088640, 0, 0, 0] 4).map (Value.int .u8)⟩⟩, ⟨rb, true, ⟨true, 41, [.int .u32 tag, .int .u8 0, .int .u8 0, .slice none 0 0, .slice none 0 0, .int .i64 (IntKind.i64.wrap n), .int .u8 64, .int .u32 0]⟩⟩]) := by
 refine acallsW Try.func13 f13_ok (Nat.le_of_ble_eq_true rfl) fun hw => ?_
 have st : Stt [b] H H [] := Stt.start hw
 replace st := st.mine hk rfl (by simp) (by simp)
 unfold f13c
 show AWl _ _ _ _ _
 refine aBoxN st rfl rfl (by repeat constructor) rfl fun b3 H1 st => ?_
 iterate 2 refine aN rfl rfl (by constructor) ?_
 refine sE ?_
 show AWl _ _ _ _ _
 refine aN rfl rfl (by constructor) ?_
 refine aBinV (.bool false) rfl rfl rfl ?_
 refine aN rfl rfl (by constructor) ?_
 refine gT rfl ?_
 refine aN rfl rfl (by constructor) ?_
 refine gT rfl ?_
 refine aN rfl rfl (by constructor) ?_
 refine gT rfl ?_
 refine aN rfl rfl (by constructor) ?_
 refine gT rfl ?_
 refine aLd st 1 rfl rfl rfl (by constructor) ?_
 refine aN rfl rfl (by constructor) ?_
 refine sE ?_
 show AW _ (.cond _ _ _) _ _ _
 refine cF' rfl ?_
 show AWp _ _ _ _ _
 refine aN rfl rfl (by constructor) ?_
 refine aLd st 0 rfl rfl rfl (by constructor) ?_
 refine aBinV (.int .u8 1) rfl rfl rfl ?_
 refine aN rfl rfl (by constructor) ?_
 refine aLd st 0 rfl rfl rfl (by constructor) ?_
 refine aBinV (.int .u8 0) rfl rfl rfl ?_
 refine aBinV (.bool false) rfl rfl rfl ?_
 iterate 2 refine aN rfl rfl (by constructor) ?_
 refine pE ?_
 show AWl _ _ _ _ _
 refine aN rfl rfl (by constructor) ?_
 refine aBinV (.bool false) rfl rfl rfl ?_
 refine aN rfl rfl (by constructor) ?_
 refine sE ?_
 show AW _ (.cond _ _ _) _ _ _
 refine cF' rfl ?_
 show AWl _ _ _ _ _
 refine aN rfl rfl (by constructor) ?_
 refine aBinV (.bool true) rfl rfl rfl ?_
 refine aN rfl rfl (by constructor) ?_
 refine gT rfl ?_
 refine aN rfl rfl (by constructor) ?_
 refine gT rfl ?_
 refine aBinV (.bool false) rfl rfl rfl ?_
 iterate 2 refine aN rfl rfl (by constructor) ?_
 refine gF rfl (by decide) ?_
 refine gF rfl (by decide) ?_
 iterate 2 refine aN rfl rfl (by constructor) ?_
 refine gF rfl (by decide) ?_
 refine gF rfl (by decide) ?_
 iterate 2 refine aN rfl rfl (by constructor) ?_
 refine gF rfl (by decide) ?_
 refine gF rfl (by decide) ?_
 iterate 2 refine aN rfl rfl (by constructor) ?_
 refine gT rfl ?_
 refine aN rfl rfl (by constructor) ?_
 refine gT rfl ?_
 refine aLd st 0 rfl rfl rfl (by constructor) ?_
 refine gT rfl ?_
 refine aBinV (.int .u8 0) rfl rfl rfl ?_
 refine gT rfl ?_
 refine aBinV (.bool false) rfl rfl rfl ?_
 iterate 2 refine aN rfl rfl (by constructor) ?_
 refine sE ?_
 show AW _ (.cond _ _ _) _ _ _
 refine cF' rfl ?_
 show AWl _ _ _ _ _
 iterate 2 refine aN rfl rfl (by constructor) ?_
 refine sE ?_
 show AW _ (.cond _ _ _) _ _ _
 refine cF' rfl ?_
 show AWp _ _ _ _ _
 iterate 2 refine aN rfl rfl (by constructor) ?_
 refine aLd st 0 rfl rfl rfl (by constructor) ?_
 iterate 3 refine aN rfl rfl (by constructor) ?_
 refine aLd st 1 rfl rfl rfl (by constructor) ?_
 refine aBinV (.int .u32 0) rfl rfl (by show some (Value.int .u32 (IntKind.u32.wrap (cmd - cmd))) = _; rw [Int.sub_self]; rfl) ?_
 refine aBinV (.bool false) rfl rfl rfl ?_
 refine aN rfl rfl (by constructor) ?_
 refine pE ?_
 show AW _ (.cond _ _ _) _ _ _
 refine cF' rfl ?_
 show AWl _ _ _ _ _
 iterate 3 refine aN rfl rfl (by constructor) ?_
 refine aLd st 1 rfl rfl rfl (by constructor) ?_
 refine aN (v := .int .i64 0) rfl rfl (by constructor) ?_
 refine aN rfl rfl (by constructor) ?_
 refine sE ?_
 show AW _ (.loop _) _ _ _
 refine AW_loopN (fun m t1 H1 => m = 0 ∧ t1 89 = .int .i64 0 ∧ Stt [b] H H1 [⟨some b3, true, ⟨true, 37, [.int .u8 1, .int .u8 193, .int .u8 0, .int .u8 0, .int .u8 0, .int .u32 tag, .int .u32 n, .int .u32 cmd, .int .u32 0, .int .u32 671088640, .int .u32 0, .int .u32 0, .int .u32 0, .slice none 0 0]⟩⟩, ⟨some b, true, ⟨true, 64, [.string ⟨#[]⟩, .string ⟨#[116]⟩, .bool false, .bool false, .bool false, .int .i64 sg, .int .i64 bu, .int .i64 65536, .bool true, .bool true, .slice none 0 0, .int .u32 cmd, .int .u32 stat, .int .u32 tg, .slice none 0 0, .slice none 0 0, .bool false, .slice none 0 0]⟩⟩]) 0 ⟨rfl, rfl, (st.sel [0, 1] (by decide))⟩ [4, 5, 9, 89, 90, 91, 92, 93, 94, 95, 96, 97, 98, 99, 100] (by decide) ?_
 rintro m t1 H1 hk hI
 obtain ⟨rfl, ht89, st⟩ := hI
 obtain ⟨u, rfl⟩ : ∃ u, t1 = (upd (mix [4, 5, 9, 89, 90, 91, 92, 93, 94, 95, 96, 97, 98, 99, 100] _ u) (some 89) _) := ⟨t1, by rw [← hk, upd_self ht89]⟩
 clear hk ht89
 show AWl _ _ _ _ _
 refine aBinV (.bool false) rfl rfl rfl ?_
 refine sE ?_
 show AW _ (.cond _ _ _) _ _ _
 refine cF' rfl ?_
 show AWp _ _ _ _ _
 iterate 4 refine aN rfl rfl (by constructor) ?_
 refine aLd st 1 rfl rfl rfl (by constructor) ?_
 refine aLdA st 0 rfl rfl (by first | decide | simp [*]) (by repeat constructor) ?_
 refine ⟨?_, trivial⟩
 refine aLit st rfl (by repeat constructor) fun b107 H2 st => ?_
 refine ⟨⟨(h_Ld st 2 rfl rfl rfl (by constructor)), trivial⟩, ?_⟩
 refine ⟨?_, trivial⟩
 have st := st.nil 37
 have hnil : (Value.slice none 0 0) = accV none 0 14 := rfl
 refine aApp st 0 (ob := none) (n := 0) rfl rfl rfl (by decide) (rfl) (st.rowAll 1 rfl (by first | rfl | (simp [beB_len, *]; done) | (simp [beB_len, *]; omega))).src (rfl) (by decide) (by decide) fun b108 H3 hp108 st => ?_
 obtain ⟨bh, rfl⟩ := hp108 (by decide)
 refine ⟨⟨(h_LdA st 2 rfl rfl (by first | decide | simp [*]) (by repeat constructor)), trivial⟩, ?_⟩
 iterate 2 refine aN rfl rfl (by constructor) ?_
 refine ⟨?_, trivial⟩
 refine aSt st 3 rfl rfl rfl rfl (by first | rfl | simp [cellsOf, *]) (by first | decide | (simp [*]; done) | (simp [k8]; done)) (by repeat constructor) fun H4 st => ?_
 refine ⟨trivial, ?_⟩
 refine pE ?_
 show AWl _ _ _ _ _
 refine aN rfl rfl (by constructor) ?_
 refine sE ?_
 show AWl _ _ _ _ _
 refine aN rfl rfl (by constructor) ?_
 refine sE ?_
 show AW _ (.loop _) _ _ _
 refine AW_loopN (fun m t1 H1 => (m = 1 ∧ t1 10 = .slice none 0 0 ∧ t1 11 = .slice none 0 0 ∧ Stt [b] H H1 [⟨some b, true, ⟨true, 64, [.string ⟨#[]⟩, .string ⟨#[116]⟩, .bool false, .bool false, .bool false, .int .i64 sg, .int .i64 bu, .int .i64 65536, .bool true, .bool true, .slice none 0 0, .int .u32 cmd, .int .u32 stat, .int .u32 tg, .slice (some ⟨bh, 0, none⟩) 1 14, .slice none 0 0, .bool false, .slice none 0 0]⟩⟩, ⟨some bh, true, ⟨true, 37, [.int .u8 1, .int .u8 193, .int .u8 0, .int .u8 0, .int .u8 0, .int .u32 tag, .int .u32 n, .int .u32 cmd, .int .u32 0, .int .u32 671088640, .int .u32 0, .int .u32 0, .int .u32 0, .slice none 0 0]⟩⟩]) ∨ (m = 0 ∧ ∃ (ct : Nat) (oc rb : Option Nat), t1 10 = .slice none 0 0 ∧ t1 11 = .slice (some ⟨ct, 0, none⟩) 1 8 ∧ Stt [b] H H1 [⟨some b, true, ⟨true, 64, [.string ⟨#[]⟩, .string ⟨#[116]⟩, .bool false, .bool false, .bool false, .int .i64 sg, .int .i64 bu, .int .i64 65536, .bool true, .bool true, .slice none 0 0, .int .u32 (IntKind.u32.wrap (cmd + 1)), .int .u32 stat, .int .u32 tg, .slice none 0 0, .slice none 0 0, .bool false, accV rb 1 8]⟩⟩, ⟨some ct, true, ⟨true, 41, [.int .u32 tag, .int .u8 0, .int .u8 0, accV oc 16 1, .slice none 0 0, .int .i64 (IntKind.i64.wrap n), .int .u8 0, .int .u32 0]⟩⟩, ⟨oc, true, ⟨true, 5, (w4s [671088640, 0, 0, 0] 4).map (Value.int .u8)⟩⟩, ⟨rb, true, ⟨true, 41, [.int .u32 tag, .int .u8 0, .int .u8 0, .slice none 0 0, .slice none 0 0, .int .i64 (IntKind.i64.wrap n), .int .u8 64, .int .u32 0]⟩⟩])) 1 (.inl ⟨rfl, rfl, rfl, (st.sel [3, 0] (by decide))⟩) [4, 5, 10, 11, 12, 13, 14, 15, 111, 112, 113, 114, 115, 116, 117, 118, 119, 120, 121, 122, 123, 124, 125, 126, 127, 128, 129, 130, 131, 132, 133, 134, 135, 136, 137, 138, 139, 140, 141, 142, 143, 144, 145, 146, 147, 148, 149, 150, 151, 152, 153, 154, 155, 156, 157, 158, 159, 160, 161, 162, 163, 164, 165] (by decide) ?_
 rintro m t1 H1 hk hI
 rcases hI with ⟨rfl, hI⟩ | ⟨rfl, hI⟩
 ·obtain ⟨ht10, ht11, st⟩ := hI
  obtain ⟨u, rfl⟩ : ∃ u, t1 = (upd (upd (mix [4, 5, 10, 11, 12, 13, 14, 15, 111, 112, 113, 114, 115, 116, 117, 118, 119, 120, 121, 122, 123, 124, 125, 126, 127, 128, 129, 130, 131, 132, 133, 134, 135, 136, 137, 138, 139, 140, 141, 142, 143, 144, 145, 146, 147, 148, 149, 150, 151, 152, 153, 154, 155, 156, 157, 158, 159, 160, 161, 162, 163, 164, 165] _ u) (some 10) _) (some 11) _) := ⟨t1, by rw [← hk, upd_self ht10, upd_self ht11]⟩
  clear hk ht10 ht11
  show AWl _ _ _ _ _
  iterate 3 refine aN rfl rfl (by constructor) ?_
  refine aLd st 0 rfl rfl rfl (by constructor) ?_
  refine aN (v := .int .i64 1) rfl rfl (by constructor) ?_
  refine aN rfl rfl (by constructor) ?_
  refine sE ?_
  show AW _ (.loop _) _ _ _
  refine AW_loopN (fun m t1 H1 => m = 0 ∧ t1 116 = .int .i64 0 ∧ t1 10 = .slice none 0 0 ∧ t1 11 = .slice none 0 0 ∧ Stt [b] H H1 [⟨some b, true, ⟨true, 64, [.string ⟨#[]⟩, .string ⟨#[116]⟩, .bool false, .bool false, .bool false, .int .i64 sg, .int .i64 bu, .int .i64 65536, .bool true, .bool true, .slice none 0 0, .int .u32 cmd, .int .u32 stat, .int .u32 tg, .slice (some ⟨bh, 0, none⟩) 1 14, .slice none 0 0, .bool false, .slice none 0 0]⟩⟩, ⟨some bh, true, ⟨true, 37, [.int .u8 1, .int .u8 193, .int .u8 0, .int .u8 0, .int .u8 0, .int .u32 tag, .int .u32 n, .int .u32 cmd, .int .u32 0, .int .u32 671088640, .int .u32 0, .int .u32 0, .int .u32 0, .slice none 0 0]⟩⟩]) 0 ⟨rfl, rfl, rfl, rfl, (st.sel [0, 1] (by decide))⟩ [10, 11, 12, 13, 14, 15, 116, 117, 118, 119, 120, 121, 122, 123, 124, 125, 126, 127, 128, 129, 130, 131, 132, 133, 134, 135, 136, 137, 138, 139, 140, 141, 142, 143, 144, 145, 146, 147, 148, 149, 150, 151, 152, 153, 154, 155, 156, 157, 158, 159, 160, 161, 162, 163] (by decide) ?_
  rintro m t1 H1 hk hI
  obtain ⟨rfl, ht116, ht10, ht11, st⟩ := hI
  obtain ⟨u, rfl⟩ : ∃ u, t1 = (upd (upd (upd (mix [10, 11, 12, 13, 14, 15, 116, 117, 118, 119, 120, 121, 122, 123, 124, 125, 126, 127, 128, 129, 130, 131, 132, 133, 134, 135, 136, 137, 138, 139, 140, 141, 142, 143, 144, 145, 146, 147, 148, 149, 150, 151, 152, 153, 154, 155, 156, 157, 158, 159, 160, 161, 162, 163] _ u) (some 116) _) (some 10) _) (some 11) _) := ⟨t1, by rw [← hk, upd_self ht116, upd_self ht10, upd_self ht11]⟩
  clear hk ht116 ht10 ht11
  show AWl _ _ _ _ _
  refine aBinV (.bool true) rfl rfl rfl ?_
  refine sE ?_
  show AW _ (.cond _ _ _) _ _ _
  refine cT rfl ?_
  show AWl _ _ _ _ _
  iterate 2 refine aN rfl rfl (by constructor) ?_
  refine aLdA st 1 rfl rfl (by first | decide | simp [*]) (by repeat constructor) ?_
  refine aNewP st rfl rfl (by repeat constructor) fun b13 H5 st => ?_
  refine aN rfl rfl (by constructor) ?_
  refine aSt st 0 rfl rfl rfl rfl (by first | rfl | simp [cellsOf, *]) (by first | decide | (simp [*]; done) | (simp [k8]; done)) (by repeat constructor) fun H6 st => ?_
  refine sE ?_
  show AWp _ _ _ _ _
  iterate 2 refine aN rfl rfl (by constructor) ?_
  refine aLd st 0 rfl rfl rfl (by constructor) ?_
  iterate 3 refine aN rfl rfl (by constructor) ?_
  refine aLd st 1 rfl rfl rfl (by constructor) ?_
  refine aBinV (.bool false) rfl rfl ne_int ?_
  refine aN rfl rfl (by constructor) ?_
  refine gT rfl ?_
  refine aN rfl rfl (by constructor) ?_
  refine gT rfl ?_
  refine aN rfl rfl (by constructor) ?_
  refine gT rfl ?_
  refine aN rfl rfl (by constructor) ?_
  refine gT rfl ?_
  refine aLd st 1 rfl rfl rfl (by constructor) ?_
  refine aN rfl rfl (by constructor) ?_
  refine pE ?_
  show AW _ (.cond _ _ _) _ _ _
  refine cF' rfl ?_
  show AWl _ _ _ _ _
  iterate 4 refine aN rfl rfl (by constructor) ?_
  refine aLd st 1 rfl rfl rfl (by constructor) ?_
  refine aN rfl rfl (by constructor) ?_
  refine aC (without_call) fun v141 H7 ⟨hv, st1⟩ => ?_
  subst hv
  replace st := st.call st1 rfl
  clear st1
  iterate 2 refine aN rfl rfl (by constructor) ?_
  refine aSt st 1 rfl rfl rfl rfl (by first | rfl | simp [cellsOf, *]) (by first | decide | (simp [*]; done) | (simp [k8]; done)) (by repeat constructor) fun H8 st => ?_
  refine sE ?_
  show AWl _ _ _ _ _
  iterate 3 refine aN rfl rfl (by constructor) ?_
  refine aLd st 1 rfl rfl rfl (by constructor) ?_
  iterate 3 refine aN rfl rfl (by constructor) ?_
  refine aSt st 1 rfl rfl rfl rfl (by first | rfl | simp [cellsOf, *]) (by first | decide | (simp [*]; done) | (simp [k8]; done)) (by repeat constructor) fun H9 st => ?_
  refine sE ?_
  show AWl _ _ _ _ _
  refine aN rfl rfl (by constructor) ?_
  refine aLdA st 0 rfl rfl (by first | decide | simp [*]) (by repeat constructor) ?_
  refine aC (do_read (st.get (j := 1) rfl)) fun v154 H10 ⟨c154, oc154, rb154, hv, st1⟩ => ?_
  subst hv
  replace st := st.callX 1 rfl st1 rfl
  clear st1
  iterate 5 refine aN rfl rfl (by constructor) ?_
  refine sE ?_
  show AWl _ _ _ _ _
  iterate 2 refine aN rfl rfl (by constructor) ?_
  refine aN (v := .slice none 0 0) rfl rfl (by constructor) ?_
  iterate 2 refine aN rfl rfl (by constructor) ?_
  have st := st.nil 41
  have hnil : (Value.slice none 0 0) = accV none 0 8 := rfl
  refine aApp st 0 (ob := none) (n := 0) rfl rfl rfl (by decide) (rfl) (st.rowAll 2 rfl (rfl)).src (rfl) (by decide) (by decide) fun b162 H11 hp162 st => ?_
  obtain ⟨bt, rfl⟩ := hp162 (by decide)
  iterate 2 refine aN rfl rfl (by constructor) ?_
  refine sE ?_
  exact ⟨0, by decide, .inr ⟨rfl, bt, oc154, rb154, rfl, rfl, (st.sel [1, 0, 3, 4] (by decide))⟩⟩
 ·obtain ⟨ct, oc, rb, ht10, ht11, st⟩ := hI
  obtain ⟨u, rfl⟩ : ∃ u, t1 = (upd (upd (mix [4, 5, 10, 11, 12, 13, 14, 15, 111, 112, 113, 114, 115, 116, 117, 118, 119, 120, 121, 122, 123, 124, 125, 126, 127, 128, 129, 130, 131, 132, 133, 134, 135, 136, 137, 138, 139, 140, 141, 142, 143, 144, 145, 146, 147, 148, 149, 150, 151, 152, 153, 154, 155, 156, 157, 158, 159, 160, 161, 162, 163, 164, 165] _ u) (some 10) _) (some 11) _) := ⟨t1, by rw [← hk, upd_self ht10, upd_self ht11]⟩
  clear hk ht10 ht11
  show AWl _ _ _ _ _
  iterate 3 refine aN rfl rfl (by constructor) ?_
  refine aLd st 0 rfl rfl rfl (by constructor) ?_
  refine aN (v := .int .i64 0) rfl rfl (by constructor) ?_
  refine aN rfl rfl (by constructor) ?_
  refine sE ?_
  show AW _ (.loop _) _ _ _
  refine AW_loopN (fun m t1 H1 => m = 0 ∧ t1 116 = .int .i64 0 ∧ t1 10 = .slice none 0 0 ∧ t1 11 = .slice (some ⟨ct, 0, none⟩) 1 8 ∧ Stt [b] H H1 [⟨some b, true, ⟨true, 64, [.string ⟨#[]⟩, .string ⟨#[116]⟩, .bool false, .bool false, .bool false, .int .i64 sg, .int .i64 bu, .int .i64 65536, .bool true, .bool true, .slice none 0 0, .int .u32 (IntKind.u32.wrap (cmd + 1)), .int .u32 stat, .int .u32 tg, .slice none 0 0, .slice none 0 0, .bool false, accV rb 1 8]⟩⟩, ⟨some ct, true, ⟨true, 41, [.int .u32 tag, .int .u8 0, .int .u8 0, accV oc 16 1, .slice none 0 0, .int .i64 (IntKind.i64.wrap n), .int .u8 0, .int .u32 0]⟩⟩, ⟨oc, true, ⟨true, 5, (w4s [671088640, 0, 0, 0] 4).map (Value.int .u8)⟩⟩, ⟨rb, true, ⟨true, 41, [.int .u32 tag, .int .u8 0, .int .u8 0, .slice none 0 0, .slice none 0 0, .int .i64 (IntKind.i64.wrap n), .int .u8 64, .int .u32 0]⟩⟩]) 0 ⟨rfl, rfl, rfl, rfl, (st.sel [0, 1, 2, 3] (by decide))⟩ [10, 11, 12, 13, 14, 15, 116, 117, 118, 119, 120, 121, 122, 123, 124, 125, 126, 127, 128, 129, 130, 131, 132, 133, 134, 135, 136, 137, 138, 139, 140, 141, 142, 143, 144, 145, 146, 147, 148, 149, 150, 151, 152, 153, 154, 155, 156, 157, 158, 159, 160, 161, 162, 163] (by decide) ?_
  rintro m t1 H1 hk hI
  obtain ⟨rfl, ht116, ht10, ht11, st⟩ := hI
  obtain ⟨u, rfl⟩ : ∃ u, t1 = (upd (upd (upd (mix [10, 11, 12, 13, 14, 15, 116, 117, 118, 119, 120, 121, 122, 123, 124, 125, 126, 127, 128, 129, 130, 131, 132, 133, 134, 135, 136, 137, 138, 139, 140, 141, 142, 143, 144, 145, 146, 147, 148, 149, 150, 151, 152, 153, 154, 155, 156, 157, 158, 159, 160, 161, 162, 163] _ u) (some 116) _) (some 10) _) (some 11) _) := ⟨t1, by rw [← hk, upd_self ht116, upd_self ht10, upd_self ht11]⟩
  clear hk ht116 ht10 ht11
  show AWl _ _ _ _ _
  refine aBinV (.bool false) rfl rfl rfl ?_
  refine sE ?_
  show AW _ (.cond _ _ _) _ _ _
  refine cF' rfl ?_
  show AWl _ _ _ _ _
  iterate 4 refine aN rfl rfl (by constructor) ?_
  refine sE ?_
  refine ⟨_, out2 (r_tmp rfl (by constructor)) (r_tmp rfl (by constructor)) ⟨rfl, rfl⟩, ?_⟩
  exact ⟨ct, oc, rb, rfl, st.sel [0, 1, 2, 3] (by decide)⟩
end Go.Proofs.Ytloeadlmcdddnaa.Abs
