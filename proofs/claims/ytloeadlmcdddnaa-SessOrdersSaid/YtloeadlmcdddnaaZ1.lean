/- Sessions: what is fresh. -/
import Derived.Test.YtloeadlmcdddnaaP5
import Derived.Test.YtloeadlmcdddnaaC1
set_option linter.unusedVariables false
set_option linter.unusedSimpArgs false
set_option maxRecDepth 100000
namespace Go.Proofs.Ytloeadlmcdddnaa.Abs
open Go Go.RowKit
variable {tg sg bu : Int}
theorem plain_call {H : Hp}  :
  ACalls Try.prog 12 [] H (fun v H' => v = .agg #[.string ⟨#[]⟩, .string ⟨#[116]⟩, .bool false, .bool false, .bool false, .int .i64 8192, .int .i64 65536, .int .i64 65536, .bool true, .bool true] ∧ Stt [] H H' []) := by
 refine acallsW Try.func12 f12_ok (Nat.le_of_ble_eq_true rfl) fun hw => ?_
 have st : Stt [] H H [] := Stt.start hw
 unfold f12c
 show AWl _ _ _ _ _
 refine aNewP st rfl rfl (by repeat constructor) fun b0 H1 st => ?_
 refine sE ?_
 show AWl _ _ _ _ _
 refine aBld rfl (by repeat constructor) ?_
 refine aSt st 0 rfl rfl rfl rfl (by first | rfl | simp [cellsOf, *]) (by first | decide | (simp [*]; done) | (simp [k8]; done)) (by repeat constructor) fun H2 st => ?_
 refine sE ?_
 refine ⟨_, out1 (r_cellA st 0 rfl rfl (by first | decide | simp [*]) (by repeat constructor)), ?_⟩
 exact ⟨rfl, st.drop⟩
theorem read_call {H : Hp} {tag cmd n : Int}  :
  ACalls Try.prog 14 [.int .u32 tag, .int .u32 cmd, .int .u32 n] H (fun v H' => v = .agg #[.int .u8 1, .int .u8 193, .int .u8 0, .int .u8 0, .int .u8 0, .int .u32 tag, .int .u32 n, .int .u32 cmd, .int .u32 0, .int .u32 671088640, .int .u32 0, .int .u32 0, .int .u32 0, .slice none 0 0] ∧ Stt [] H H' []) := by
 refine acallsW Try.func14 f14_ok (Nat.le_of_ble_eq_true rfl) fun hw => ?_
 have st : Stt [] H H [] := Stt.start hw
 unfold f14c
 show AWl _ _ _ _ _
 refine aNewP st rfl rfl (by repeat constructor) fun b6 H1 st => ?_
 refine sE ?_
 show AWl _ _ _ _ _
 iterate 3 refine aN rfl rfl (by constructor) ?_
 refine aBld rfl (by repeat constructor) ?_
 refine aBld rfl (by repeat constructor) ?_
 refine aSt st 0 rfl rfl rfl rfl (by first | rfl | simp [cellsOf, *]) (by first | decide | (simp [*]; done) | (simp [k8]; done)) (by repeat constructor) fun H2 st => ?_
 refine sE ?_
 refine ⟨_, out1 (r_cellA st 0 rfl rfl (by first | decide | simp [*]) (by repeat constructor)), ?_⟩
 exact ⟨rfl, st.drop⟩
theorem new_call {H : Hp} {cmd : Int}  :
  ACalls Try.prog 11 [.agg #[.string ⟨#[]⟩, .string ⟨#[116]⟩, .bool false, .bool false, .bool false, .int .i64 sg, .int .i64 bu, .int .i64 65536, .bool true, .bool true], .slice none 0 0, .int .u32 cmd] H (fun v H' => ∃ b, v = .pointer (some ⟨b, 0, none⟩) ∧ Stt [] H H' [⟨some b, true, ⟨true, 64, [.string ⟨#[]⟩, .string ⟨#[116]⟩, .bool false, .bool false, .bool false, .int .i64 sg, .int .i64 bu, .int .i64 65536, .bool true, .bool true, .slice none 0 0, .int .u32 cmd, .int .u32 1, .int .u32 0, .slice none 0 0, .slice none 0 0, .bool false, .slice none 0 0]⟩⟩]) := by
 refine acallsW Try.func11 f11_ok (Nat.le_of_ble_eq_true rfl) fun hw => ?_
 have st : Stt [] H H [] := Stt.start hw
 unfold f11c
 show AWl _ _ _ _ _
 refine aBoxN st rfl rfl (by repeat constructor) rfl fun b3 H1 st => ?_
 refine aN rfl rfl (by constructor) ?_
 refine sE ?_
 show AWp _ _ _ _ _
 refine aLdA st 0 rfl rfl (by first | decide | simp [*]) (by repeat constructor) ?_
 iterate 2 refine aN rfl rfl (by constructor) ?_
 refine ⟨?_, trivial⟩
 refine aN (v := .slice none 0 0) rfl rfl (by constructor) ?_
 refine ⟨⟨(h_LdA st 0 rfl rfl (by first | decide | simp [*]) (by repeat constructor)), trivial⟩, ?_⟩
 refine aBld rfl (by repeat constructor) ?_
 refine ⟨?_, trivial⟩
 refine aBoxN st rfl rfl (by repeat constructor) rfl fun b12 H2 st => ?_
 refine ⟨⟨(h_LdA st 1 rfl rfl (by first | decide | simp [*]) (by repeat constructor)), trivial⟩, ?_⟩
 refine aN rfl rfl (by constructor) ?_
 refine pE ?_
 refine ⟨_, out1 (r_tmp rfl (by constructor)), ?_⟩
 exact ⟨b12, rfl, st.pick 0 rfl⟩
theorem next_call {H : Hp} {b : Nat} {cmd stat : Int} {hd wr rd : Value} {ov : Bool} (hk : H.m b = some ⟨true, 64, [.string ⟨#[]⟩, .string ⟨#[116]⟩, .bool false, .bool false, .bool false, .int .i64 sg, .int .i64 bu, .int .i64 65536, .bool true, .bool true, .slice none 0 0, .int .u32 cmd, .int .u32 stat, .int .u32 tg, hd, wr, .bool ov, rd]⟩) :
  ACalls Try.prog 15 [.pointer (some ⟨b, 0, none⟩)] H (fun v H' => v = .int .u32 cmd ∧ Stt [] H H' []) := by
 refine acallsW Try.func15 f15_ok (Nat.le_of_ble_eq_true rfl) fun hw => ?_
 have st : Stt [] H H [] := Stt.start hw
 replace st := st.ro hk (by simp)
 unfold f15c
 show AWl _ _ _ _ _
 refine aN rfl rfl (by constructor) ?_
 refine sE ?_
 show AWl _ _ _ _ _
 refine aN rfl rfl (by constructor) ?_
 refine aBinV (.bool false) rfl rfl rfl ?_
 refine sE ?_
 show AW _ (.cond _ _ _) _ _ _
 refine cF' rfl ?_
 show AWl _ _ _ _ _
 iterate 3 refine aN rfl rfl (by constructor) ?_
 refine aLd st 0 rfl rfl rfl (by constructor) ?_
 refine aN rfl rfl (by constructor) ?_
 refine sE ?_
 refine ⟨_, out1 (r_tmp rfl (by constructor)), ?_⟩
 exact ⟨rfl, st.drop⟩
theorem numbered_call {H : Hp} {b : Nat} {cmd stat op fl lun tag w0 w1 w2 w3 w4 w5 w6 : Int} {hd wr rd x : Value} {ov : Bool} {k : List Int} (hk : H.m b = some ⟨true, 64, [.string ⟨#[]⟩, .string ⟨#[116]⟩, .bool false, .bool false, .bool false, .int .i64 sg, .int .i64 bu, .int .i64 65536, .bool true, .bool true, .slice none 0 0, .int .u32 cmd, .int .u32 stat, .int .u32 tg, hd, wr, .bool ov, rd]⟩) (hx : Sl H 1 k.length (k.map (Value.int .u8)) x) (hap : Apart b x) :
  ACalls Try.prog 26 [.pointer (some ⟨b, 0, none⟩), .agg #[.int .u8 op, .int .u8 fl, .int .u8 0, .int .u8 0, .int .u8 lun, .int .u32 tag, .int .u32 w0, .int .u32 w1, .int .u32 w2, .int .u32 w3, .int .u32 w4, .int .u32 w5, .int .u32 w6, x], .bool true] H (fun v H' => v = .agg #[.int .u8 op, .int .u8 fl, .int .u8 0, .int .u8 0, .int .u8 lun, .int .u32 tag, .int .u32 w0, .int .u32 stat, .int .u32 cmd, .int .u32 (IntKind.u32.wrap (IntKind.u32.wrap (cmd + 16) - 1)), .int .u32 w4, .int .u32 w5, .int .u32 w6, x] ∧ Stt [b] H H' [⟨some b, true, ⟨true, 64, [.string ⟨#[]⟩, .string ⟨#[116]⟩, .bool false, .bool false, .bool false, .int .i64 sg, .int .i64 bu, .int .i64 65536, .bool true, .bool true, .slice none 0 0, .int .u32 cmd, .int .u32 (IntKind.u32.wrap (stat + 1)), .int .u32 tg, hd, wr, .bool ov, rd]⟩⟩]) := by
 refine acallsW Try.func26 f26_ok (Nat.le_of_ble_eq_true rfl) fun hw => ?_
 have st : Stt [b] H H [] := Stt.start hw
 replace st := st.mine hk rfl (by simp) (by simp)
 unfold f26c
 show AWl _ _ _ _ _
 refine aBoxN st rfl rfl (by repeat constructor) rfl fun b4 H1 st => ?_
 refine aNewP st rfl rfl (by repeat constructor) fun b6 H2 st => ?_
 refine sE ?_
 show AWp _ _ _ _ _
 iterate 3 refine aN rfl rfl (by constructor) ?_
 refine aLd st 2 rfl rfl rfl (by constructor) ?_
 iterate 3 refine aN rfl rfl (by constructor) ?_
 refine aLd st 2 rfl rfl rfl (by constructor) ?_
 iterate 3 refine aN rfl rfl (by constructor) ?_
 refine aLd st 2 rfl rfl rfl (by constructor) ?_
 iterate 6 refine aN rfl rfl (by constructor) ?_
 refine ⟨?_, trivial⟩
 refine aSt st 1 rfl rfl rfl rfl (by first | rfl | simp [cellsOf, *]) (by first | decide | (simp [*]; done) | (simp [k8]; done)) (by repeat constructor) fun H3 st => ?_
 refine ⟨⟨(h_Ld st 2 rfl rfl rfl (by constructor)), (h_Ld st 2 rfl rfl rfl (by constructor)), trivial⟩, ?_⟩
 refine aN rfl rfl (by constructor) ?_
 refine ⟨?_, trivial⟩
 refine aSt st 1 rfl rfl rfl rfl (by first | rfl | simp [cellsOf, *]) (by first | decide | (simp [*]; done) | (simp [k8]; done)) (by repeat constructor) fun H4 st => ?_
 refine ⟨⟨(h_Ld st 2 rfl rfl rfl (by constructor)), trivial⟩, ?_⟩
 refine aN rfl rfl (by constructor) ?_
 refine ⟨?_, trivial⟩
 refine aSt st 1 rfl rfl rfl rfl (by first | rfl | simp [cellsOf, *]) (by first | decide | (simp [*]; done) | (simp [k8]; done)) (by repeat constructor) fun H5 st => ?_
 refine ⟨trivial, ?_⟩
 refine pE ?_
 show AWl _ _ _ _ _
 refine aN rfl rfl (by constructor) ?_
 refine sE ?_
 show AW _ (.cond _ _ _) _ _ _
 refine cT rfl ?_
 show AWl _ _ _ _ _
 iterate 3 refine aN rfl rfl (by constructor) ?_
 refine aLd st 2 rfl rfl rfl (by constructor) ?_
 iterate 3 refine aN rfl rfl (by constructor) ?_
 refine aSt st 2 rfl rfl rfl rfl (by first | rfl | simp [cellsOf, *]) (by first | decide | (simp [*]; done) | (simp [k8]; done)) (by repeat constructor) fun H6 st => ?_
 refine sE ?_
 show AWl _ _ _ _ _
 refine aLdA st 1 rfl rfl (by first | decide | simp [*]) (by repeat constructor) ?_
 refine aSt st 0 rfl rfl rfl rfl (by first | rfl | simp [cellsOf, *]) (by first | decide | (simp [*]; done) | (simp [k8]; done)) (by repeat constructor) fun H7 st => ?_
 refine sE ?_
 refine ⟨_, out1 (r_cellA st 0 rfl rfl (by first | decide | simp [*]) (by repeat constructor)), ?_⟩
 exact ⟨rfl, st.sel [2] (by decide)⟩
end Go.Proofs.Ytloeadlmcdddnaa.Abs
