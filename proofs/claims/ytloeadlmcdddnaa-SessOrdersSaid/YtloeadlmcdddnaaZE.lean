/- Sessions: a write begins. -/
import Derived.Test.YtloeadlmcdddnaaZC
set_option linter.unusedVariables false
set_option linter.unusedSimpArgs false
set_option maxRecDepth 100000
namespace Go.Proofs.Ytloeadlmcdddnaa.Abs
open Go Go.RowKit
variable {tg sg bu : Int}
theorem ask_call {H : Hp} {b wb kn cu : Nat} {cmd stat tag wt rdy fr mo ak : Int} {hd rd cdb : Value} {pu : Option Addr} (hk : H.m b = some ⟨true, 64, [.string ⟨#[]⟩, .string ⟨#[116]⟩, .bool false, .bool false, .bool false, .int .i64 sg, .int .i64 bu, .int .i64 65536, .bool true, .bool true, .slice none 0 0, .int .u32 cmd, .int .u32 stat, .int .u32 tg, hd, .slice (some ⟨wb, 0, none⟩) 1 12, .bool false, rd]⟩) (hkw : H.m wb = some ⟨true, 76, [.int .u32 tag, .int .u8 0, .int .u8 0, cdb, .slice pu kn cu, .int .i64 wt, .int .u8 0, .int .u32 0, .int .u32 rdy, .int .i64 fr, .int .i64 mo, .int .u32 ak]⟩) (hwb : wb ≠ b) :
  ACalls Try.prog 29 [.pointer (some ⟨b, 0, none⟩), .int .i64 0] H (fun v H' => v = .agg #[.int .u8 49, .int .u8 128, .int .u8 0, .int .u8 0, .int .u8 0, .int .u32 tag, .int .u32 (IntKind.u32.wrap (tg + 1)), .int .u32 stat, .int .u32 cmd, .int .u32 (IntKind.u32.wrap (IntKind.u32.wrap (cmd + 16) - 1)), .int .u32 ak, .int .u32 (IntKind.u32.wrap (kn : Int)), .int .u32 (IntKind.u32.wrap (if IntKind.i64.wrap (wt - (kn : Int)) < (if bu < 1 then 1 else bu) then IntKind.i64.wrap (wt - (kn : Int)) else (if bu < 1 then 1 else bu))), .slice none 0 0] ∧ Stt [b, wb] H H' [⟨some b, true, ⟨true, 64, [.string ⟨#[]⟩, .string ⟨#[116]⟩, .bool false, .bool false, .bool false, .int .i64 sg, .int .i64 bu, .int .i64 65536, .bool true, .bool true, .slice none 0 0, .int .u32 cmd, .int .u32 stat, .int .u32 (IntKind.u32.wrap (tg + 1)), hd, .slice (some ⟨wb, 0, none⟩) 1 12, .bool false, rd]⟩⟩, ⟨some wb, true, ⟨true, 76, [.int .u32 tag, .int .u8 0, .int .u8 0, cdb, .slice pu kn cu, .int .i64 wt, .int .u8 0, .int .u32 0, .int .u32 (IntKind.u32.wrap (tg + 1)), .int .i64 (kn : Int), .int .i64 (if IntKind.i64.wrap (wt - (kn : Int)) < (if bu < 1 then 1 else bu) then IntKind.i64.wrap (wt - (kn : Int)) else (if bu < 1 then 1 else bu)), .int .u32 (IntKind.u32.wrap (ak + 1))]⟩⟩]) := by
 refine acallsW Try.func29 f29_ok (Nat.le_of_ble_eq_true rfl) fun hw => ?_
 have st : Stt [b, wb] H H [] := Stt.start hw
 replace st := st.mine hkw rfl (by simp) (by simp)
 replace st := st.mine hk rfl (by simp) (by simpa using hwb)
 unfold f29c
 show AWl _ _ _ _ _
 refine aNewP st rfl rfl (by repeat constructor) fun b4 H1 st => ?_
 refine sE ?_
 show AWl _ _ _ _ _
 iterate 3 refine aN rfl rfl (by constructor) ?_
 refine aLd st 1 rfl rfl rfl (by constructor) ?_
 iterate 3 refine aN rfl rfl (by constructor) ?_
 refine sE ?_
 show AWl _ _ _ _ _
 iterate 3 refine aN rfl rfl (by constructor) ?_
 refine aLd st 1 rfl rfl rfl (by constructor) ?_
 iterate 3 refine aN rfl rfl (by constructor) ?_
 refine aSt st 1 rfl rfl rfl rfl (by first | rfl | simp [cellsOf, *]) (by first | decide | (simp [*]; done) | (simp [k8]; done)) (by repeat constructor) fun H2 st => ?_
 refine sE ?_
 show AWp _ _ _ _ _
 iterate 6 refine aN rfl rfl (by constructor) ?_
 refine aLd st 1 rfl rfl rfl (by constructor) ?_
 iterate 4 refine aN rfl rfl (by constructor) ?_
 refine aLd st 2 rfl rfl rfl (by constructor) ?_
 refine aN (v := .int .i64 (kn : Int)) rfl rfl (by constructor) ?_
 iterate 4 refine aN rfl rfl (by constructor) ?_
 refine aLd st 1 rfl rfl rfl (by constructor) ?_
 refine aMax rfl rfl ?_
 iterate 4 refine aN rfl rfl (by constructor) ?_
 refine aLd st 2 rfl rfl rfl (by constructor) ?_
 iterate 4 refine aN rfl rfl (by constructor) ?_
 refine aLd st 2 rfl rfl rfl (by constructor) ?_
 refine aN (v := .int .i64 (kn : Int)) rfl rfl (by constructor) ?_
 refine aN rfl rfl (by constructor) ?_
 refine aMin rfl rfl ?_
 iterate 2 refine aN rfl rfl (by constructor) ?_
 refine ⟨?_, trivial⟩
 refine aSt st 2 rfl rfl rfl rfl (by first | rfl | simp [cellsOf, *]) (by first | decide | (simp [*]; done) | (simp [k8]; done)) (by repeat constructor) fun H3 st => ?_
 refine ⟨trivial, ?_⟩
 iterate 2 refine aN rfl rfl (by constructor) ?_
 refine ⟨?_, trivial⟩
 refine aSt st 2 rfl rfl rfl rfl (by first | rfl | simp [cellsOf, *]) (by first | decide | (simp [*]; done) | (simp [k8]; done)) (by repeat constructor) fun H4 st => ?_
 refine ⟨trivial, ?_⟩
 iterate 2 refine aN rfl rfl (by constructor) ?_
 refine ⟨?_, trivial⟩
 refine aSt st 2 rfl rfl rfl rfl (by first | rfl | simp [cellsOf, *]) (by first | decide | (simp [*]; done) | (simp [k8]; done)) (by repeat constructor) fun H5 st => ?_
 refine ⟨trivial, ?_⟩
 refine pE ?_
 show AWp _ _ _ _ _
 iterate 5 refine aN rfl rfl (by constructor) ?_
 refine aLd st 2 rfl rfl rfl (by constructor) ?_
 iterate 4 refine aN rfl rfl (by constructor) ?_
 refine aLd st 2 rfl rfl rfl (by constructor) ?_
 refine aBld rfl (by repeat constructor) ?_
 refine ⟨?_, ?_⟩
 ·refine aC (num3f_call (st.get (j := 1) rfl)) fun v70 H6 ⟨hv, st1⟩ => ?_
  subst hv
  replace st := st.call st1 rfl
  clear st1
  refine ⟨⟨(h_Ld st 2 rfl rfl rfl (by constructor)), (h_Ld st 2 rfl rfl rfl (by constructor)), trivial⟩, ?_⟩
  refine ⟨?_, trivial⟩
  refine aNewP st rfl rfl (by repeat constructor) fun b6 H7 st => ?_
  refine ⟨⟨(h_Ld st 3 rfl rfl rfl (by constructor)), (h_Ld st 3 rfl rfl rfl (by constructor)), trivial⟩, ?_⟩
  refine ⟨?_, trivial⟩
  refine aSt st 0 rfl rfl rfl rfl (by first | rfl | simp [cellsOf, *]) (by first | decide | (simp [*]; done) | (simp [k8]; done)) (by repeat constructor) fun H8 st => ?_
  refine ⟨trivial, ?_⟩
  refine pE ?_
  show AWp _ _ _ _ _
  iterate 3 refine aN rfl rfl (by constructor) ?_
  refine aLd st 3 rfl rfl rfl (by constructor) ?_
  iterate 3 refine aN rfl rfl (by constructor) ?_
  refine aLd st 3 rfl rfl rfl (by constructor) ?_
  iterate 3 refine aN rfl rfl (by constructor) ?_
  refine aLd st 3 rfl rfl rfl (by constructor) ?_
  iterate 4 refine aN rfl rfl (by constructor) ?_
  refine aLd st 3 rfl rfl rfl (by constructor) ?_
  iterate 6 refine aN rfl rfl (by constructor) ?_
  refine ⟨?_, trivial⟩
  refine aSt st 0 rfl rfl rfl rfl (by first | rfl | simp [cellsOf, *]) (by first | decide | (simp [*]; done) | (simp [k8]; done)) (by repeat constructor) fun H9 st => ?_
  refine ⟨⟨(h_Ld st 3 rfl rfl rfl (by constructor)), (h_Ld st 3 rfl rfl rfl (by constructor)), (h_Ld st 3 rfl rfl rfl (by constructor)), trivial⟩, ?_⟩
  refine aN rfl rfl (by constructor) ?_
  refine ⟨?_, trivial⟩
  refine aSt st 0 rfl rfl rfl rfl (by first | rfl | simp [cellsOf, *]) (by first | decide | (simp [*]; done) | (simp [k8]; done)) (by repeat constructor) fun H10 st => ?_
  refine ⟨⟨(h_Ld st 3 rfl rfl rfl (by constructor)), (h_Ld st 3 rfl rfl rfl (by constructor)), trivial⟩, ?_⟩
  refine aN rfl rfl (by constructor) ?_
  refine ⟨?_, trivial⟩
  refine aSt st 0 rfl rfl rfl rfl (by first | rfl | simp [cellsOf, *]) (by first | decide | (simp [*]; done) | (simp [k8]; done)) (by repeat constructor) fun H11 st => ?_
  refine ⟨⟨(h_Ld st 3 rfl rfl rfl (by constructor)), trivial⟩, ?_⟩
  refine aN rfl rfl (by constructor) ?_
  refine ⟨?_, trivial⟩
  refine aSt st 0 rfl rfl rfl rfl (by first | rfl | simp [cellsOf, *]) (by first | decide | (simp [*]; done) | (simp [k8]; done)) (by repeat constructor) fun H12 st => ?_
  refine ⟨trivial, ?_⟩
  refine pE ?_
  show AWl _ _ _ _ _
  iterate 3 refine aN rfl rfl (by constructor) ?_
  refine aLd st 3 rfl rfl rfl (by constructor) ?_
  iterate 3 refine aN rfl rfl (by constructor) ?_
  refine aSt st 3 rfl rfl rfl rfl (by first | rfl | simp [cellsOf, *]) (by first | decide | (simp [*]; done) | (simp [k8]; done)) (by repeat constructor) fun H13 st => ?_
  refine sE ?_
  show AWl _ _ _ _ _
  refine aLdA st 0 rfl rfl (by first | decide | simp [*]) (by repeat constructor) ?_
  refine aSt st 1 rfl rfl rfl rfl (by first | rfl | simp [cellsOf, *]) (by first | decide | (simp [*]; done) | (simp [k8]; done)) (by repeat constructor) fun H14 st => ?_
  refine sE ?_
  refine ⟨_, out1 (r_cellA st 1 rfl rfl (by first | decide | simp [*]) (by repeat constructor)), ?_⟩
  exact ⟨rfl, st.sel [2, 3] (by decide)⟩
 ·refine ⟨?_, trivial⟩
  refine aNewP st rfl rfl (by repeat constructor) fun b6 H15 st => ?_
  refine ⟨⟨(h_Ld st 3 rfl rfl rfl (by constructor)), (h_Ld st 3 rfl rfl rfl (by constructor)), trivial⟩, ?_⟩
  refine ⟨?_, trivial⟩
  refine aC (num3f_call (st.get (j := 2) rfl)) fun v70 H16 ⟨hv, st1⟩ => ?_
  subst hv
  replace st := st.call st1 rfl
  clear st1
  refine ⟨⟨(h_Ld st 3 rfl rfl rfl (by constructor)), (h_Ld st 3 rfl rfl rfl (by constructor)), trivial⟩, ?_⟩
  refine ⟨?_, trivial⟩
  refine aSt st 0 rfl rfl rfl rfl (by first | rfl | simp [cellsOf, *]) (by first | decide | (simp [*]; done) | (simp [k8]; done)) (by repeat constructor) fun H17 st => ?_
  refine ⟨trivial, ?_⟩
  refine pE ?_
  show AWp _ _ _ _ _
  iterate 3 refine aN rfl rfl (by constructor) ?_
  refine aLd st 3 rfl rfl rfl (by constructor) ?_
  iterate 3 refine aN rfl rfl (by constructor) ?_
  refine aLd st 3 rfl rfl rfl (by constructor) ?_
  iterate 3 refine aN rfl rfl (by constructor) ?_
  refine aLd st 3 rfl rfl rfl (by constructor) ?_
  iterate 4 refine aN rfl rfl (by constructor) ?_
  refine aLd st 3 rfl rfl rfl (by constructor) ?_
  iterate 6 refine aN rfl rfl (by constructor) ?_
  refine ⟨?_, trivial⟩
  refine aSt st 0 rfl rfl rfl rfl (by first | rfl | simp [cellsOf, *]) (by first | decide | (simp [*]; done) | (simp [k8]; done)) (by repeat constructor) fun H18 st => ?_
  refine ⟨⟨(h_Ld st 3 rfl rfl rfl (by constructor)), (h_Ld st 3 rfl rfl rfl (by constructor)), (h_Ld st 3 rfl rfl rfl (by constructor)), trivial⟩, ?_⟩
  refine aN rfl rfl (by constructor) ?_
  refine ⟨?_, trivial⟩
  refine aSt st 0 rfl rfl rfl rfl (by first | rfl | simp [cellsOf, *]) (by first | decide | (simp [*]; done) | (simp [k8]; done)) (by repeat constructor) fun H19 st => ?_
  refine ⟨⟨(h_Ld st 3 rfl rfl rfl (by constructor)), (h_Ld st 3 rfl rfl rfl (by constructor)), trivial⟩, ?_⟩
  refine aN rfl rfl (by constructor) ?_
  refine ⟨?_, trivial⟩
  refine aSt st 0 rfl rfl rfl rfl (by first | rfl | simp [cellsOf, *]) (by first | decide | (simp [*]; done) | (simp [k8]; done)) (by repeat constructor) fun H20 st => ?_
  refine ⟨⟨(h_Ld st 3 rfl rfl rfl (by constructor)), trivial⟩, ?_⟩
  refine aN rfl rfl (by constructor) ?_
  refine ⟨?_, trivial⟩
  refine aSt st 0 rfl rfl rfl rfl (by first | rfl | simp [cellsOf, *]) (by first | decide | (simp [*]; done) | (simp [k8]; done)) (by repeat constructor) fun H21 st => ?_
  refine ⟨trivial, ?_⟩
  refine pE ?_
  show AWl _ _ _ _ _
  iterate 3 refine aN rfl rfl (by constructor) ?_
  refine aLd st 3 rfl rfl rfl (by constructor) ?_
  iterate 3 refine aN rfl rfl (by constructor) ?_
  refine aSt st 3 rfl rfl rfl rfl (by first | rfl | simp [cellsOf, *]) (by first | decide | (simp [*]; done) | (simp [k8]; done)) (by repeat constructor) fun H22 st => ?_
  refine sE ?_
  show AWl _ _ _ _ _
  refine aLdA st 0 rfl rfl (by first | decide | simp [*]) (by repeat constructor) ?_
  refine aSt st 1 rfl rfl rfl rfl (by first | rfl | simp [cellsOf, *]) (by first | decide | (simp [*]; done) | (simp [k8]; done)) (by repeat constructor) fun H23 st => ?_
  refine sE ?_
  refine ⟨_, out1 (r_cellA st 1 rfl rfl (by first | decide | simp [*]) (by repeat constructor)), ?_⟩
  exact ⟨rfl, st.sel [2, 3] (by decide)⟩
theorem attr_w {H : Hp}  :
  ACalls Try.prog 42 [.int .u8 161] H (fun v H' => v = .int .u8 0 ∧ Stt [] H H' []) := by
 refine acallsW Try.func42 f42_ok (Nat.le_of_ble_eq_true rfl) fun hw => ?_
 have st : Stt [] H H [] := Stt.start hw
 unfold f42c
 show AWl _ _ _ _ _
 refine aN rfl rfl (by constructor) ?_
 refine sE ?_
 show AWl _ _ _ _ _
 refine aN rfl rfl (by constructor) ?_
 refine aBinV (.int .u8 1) rfl rfl (rfl) ?_
 refine sE ?_
 show AWl _ _ _ _ _
 refine aBinV (.bool false) rfl rfl rfl ?_
 refine aN rfl rfl (by constructor) ?_
 refine sE ?_
 show AW _ (.cond _ _ _) _ _ _
 refine cF' rfl ?_
 show AWl _ _ _ _ _
 refine aBinV (.bool false) rfl rfl rfl ?_
 refine aN rfl rfl (by constructor) ?_
 refine sE ?_
 show AW _ (.cond _ _ _) _ _ _
 refine cF' rfl ?_
 show AWl _ _ _ _ _
 refine aBinV (.bool false) rfl rfl rfl ?_
 refine aN rfl rfl (by constructor) ?_
 refine sE ?_
 show AW _ (.cond _ _ _) _ _ _
 refine cF' rfl ?_
 show AWl _ _ _ _ _
 refine aN rfl rfl (by constructor) ?_
 refine sE ?_
 refine ⟨_, out1 (r_tmp rfl (by constructor)), ?_⟩
 exact ⟨rfl, st.drop⟩
theorem command_w {H : Hp} {b kn cx : Nat} {cmd stat tag n w1 w3 : Int} {hd : Value} {px : Option Addr} (hk : H.m b = some ⟨true, 64, [.string ⟨#[]⟩, .string ⟨#[116]⟩, .bool false, .bool false, .bool false, .int .i64 sg, .int .i64 bu, .int .i64 65536, .bool true, .bool true, .slice none 0 0, .int .u32 cmd, .int .u32 stat, .int .u32 tg, hd, .slice none 0 0, .bool false, .slice none 0 0]⟩) (hn : (kn : Int) < n ∧ n ≤ 65536) :
  ACalls Try.prog 34 [.pointer (some ⟨b, 0, none⟩), .agg #[.int .u8 1, .int .u8 161, .int .u8 0, .int .u8 0, .int .u8 0, .int .u32 tag, .int .u32 n, .int .u32 w1, .int .u32 0, .int .u32 w3, .int .u32 0, .int .u32 0, .int .u32 0, .slice px kn cx]] H (fun v H' => ∃ (c wb rb : Nat) (cdb : Value), v = .tuple #[.slice (some ⟨c, 0, none⟩) 1 14, .slice none 0 0] ∧ Stt [b] H H' [⟨some b, true, ⟨true, 64, [.string ⟨#[]⟩, .string ⟨#[116]⟩, .bool false, .bool false, .bool false, .int .i64 sg, .int .i64 bu, .int .i64 65536, .bool true, .bool true, .slice none 0 0, .int .u32 cmd, .int .u32 stat, .int .u32 (IntKind.u32.wrap (tg + 1)), hd, .slice (some ⟨wb, 0, none⟩) 1 12, .bool false, .slice (some ⟨rb, 0, none⟩) 1 8]⟩⟩, ⟨some c, true, ⟨true, 37, [.int .u8 49, .int .u8 128, .int .u8 0, .int .u8 0, .int .u8 0, .int .u32 tag, .int .u32 (IntKind.u32.wrap (tg + 1)), .int .u32 stat, .int .u32 cmd, .int .u32 (IntKind.u32.wrap (IntKind.u32.wrap (cmd + 16) - 1)), .int .u32 0, .int .u32 (IntKind.u32.wrap (kn : Int)), .int .u32 (IntKind.u32.wrap (if IntKind.i64.wrap (n - (kn : Int)) < (if bu < 1 then 1 else bu) then IntKind.i64.wrap (n - (kn : Int)) else (if bu < 1 then 1 else bu))), .slice none 0 0]⟩⟩, ⟨some wb, true, ⟨true, 76, [.int .u32 tag, .int .u8 0, .int .u8 0, cdb, .slice px kn cx, .int .i64 n, .int .u8 0, .int .u32 0, .int .u32 (IntKind.u32.wrap (tg + 1)), .int .i64 (kn : Int), .int .i64 (if IntKind.i64.wrap (n - (kn : Int)) < (if bu < 1 then 1 else bu) then IntKind.i64.wrap (n - (kn : Int)) else (if bu < 1 then 1 else bu)), .int .u32 (IntKind.u32.wrap (0 + 1))]⟩⟩, ⟨some rb, true, ⟨true, 41, [.int .u32 tag, .int .u8 0, .int .u8 0, .slice none 0 0, .slice none 0 0, .int .i64 n, .int .u8 32, .int .u32 0]⟩⟩]) := by
 refine acallsW Try.func34 f34_ok (Nat.le_of_ble_eq_true rfl) fun hw => ?_
 have st : Stt [b] H H [] := Stt.start hw
 replace st := st.mine hk rfl (by simp) (by simp)
 unfold f34c
 show AWl _ _ _ _ _
 refine aBoxN st rfl rfl (by repeat constructor) rfl fun b3 H1 st => ?_
 iterate 2 refine aN rfl rfl (by constructor) ?_
 refine sE ?_
 show AWp _ _ _ _ _
 refine aN rfl rfl (by constructor) ?_
 refine aLd st 0 rfl rfl rfl (by constructor) ?_
 refine aN rfl rfl (by constructor) ?_
 refine aLd st 0 rfl rfl rfl (by constructor) ?_
 refine aN rfl rfl (by constructor) ?_
 refine aLd st 0 rfl rfl rfl (by constructor) ?_
 iterate 3 refine aN rfl rfl (by constructor) ?_
 refine aLd st 0 rfl rfl rfl (by constructor) ?_
 iterate 2 refine aN rfl rfl (by constructor) ?_
 refine aLd st 0 rfl rfl rfl (by constructor) ?_
 refine aConvV (n' := n) rfl (wi _ (by omega)) ?_
 refine ⟨?_, ?_⟩
 ·refine aC (attr_w) fun v16 H2 ⟨hv, st1⟩ => ?_
  subst hv
  replace st := st.call st1 rfl
  clear st1
  refine ⟨⟨(h_Ld st 0 rfl rfl rfl (by constructor)), (h_Ld st 0 rfl rfl rfl (by constructor)), (h_Ld st 0 rfl rfl rfl (by constructor)), (h_Ld st 0 rfl rfl rfl (by constructor)), trivial⟩, ?_⟩
  refine ⟨?_, ?_⟩
  ·refine aC (wbytes_call (xs := [w3, 0, 0, 0]) (Stt.cutAt st 0 (o := 9) (n := 4) rfl (by decide) (show 9 + 4 ≤ 14 by decide)) (show 4 ≤ 1000 by decide)) fun v19 H3 ⟨oc19, hv, st1⟩ => ?_
   subst hv
   replace st := st.call st1 rfl
   clear st1
   obtain ⟨bc, rfl⟩ := st.isSome 0 rfl (fun h => by cases h)
   have hw16 : (w4s [w3, 0, 0, 0] ([w3, 0, 0, 0] : List Int).length).length = 16 := rfl
   refine ⟨⟨(h_Ld st 1 rfl rfl rfl (by constructor)), (h_Ld st 1 rfl rfl rfl (by constructor)), (h_Ld st 1 rfl rfl rfl (by constructor)), (h_Ld st 1 rfl rfl rfl (by constructor)), (h_Ld st 1 rfl rfl rfl (by constructor)), trivial⟩, ?_⟩
   refine aBld rfl (by repeat constructor) ?_
   refine ⟨?_, trivial⟩
   refine aNewP st rfl rfl (by repeat constructor) fun b6 H4 st => ?_
   refine ⟨⟨(h_Ld st 2 rfl rfl rfl (by constructor)), (h_Ld st 2 rfl rfl rfl (by constructor)), (h_Ld st 2 rfl rfl rfl (by constructor)), (h_Ld st 2 rfl rfl rfl (by constructor)), (h_Ld st 2 rfl rfl rfl (by constructor)), trivial⟩, ?_⟩
   refine ⟨?_, trivial⟩
   refine aSt st 0 rfl rfl rfl rfl (by first | rfl | simp [cellsOf, *]) (by first | decide | (simp [*]; done) | (simp [k8]; done)) (by repeat constructor) fun H5 st => ?_
   refine ⟨trivial, ?_⟩
   refine pE ?_
   show AWl _ _ _ _ _
   refine aN rfl rfl (by constructor) ?_
   refine aLd st 2 rfl rfl rfl (by constructor) ?_
   refine aBinV (.int .u8 32) rfl rfl (rfl) ?_
   refine aBinV (.bool true) rfl rfl rfl ?_
   refine aN rfl rfl (by constructor) ?_
   refine sE ?_
   show AWl _ _ _ _ _
   iterate 3 refine aN rfl rfl (by constructor) ?_
   refine aLd st 3 rfl rfl rfl (by constructor) ?_
   refine aN (v := .int .i64 0) rfl rfl (by constructor) ?_
   refine aN rfl rfl (by constructor) ?_
   refine sE ?_
   show AW _ (.loop _) _ _ _
   refine AW_loopN (fun m t1 H1 => m = 0 ∧ t1 36 = .int .i64 0 ∧ Stt [b] H H1 [⟨some b6, true, ⟨true, 41, [.int .u32 tag, .int .u8 0, .int .u8 0, .slice (some ⟨bc, 0, none⟩) 16 1, .slice px kn cx, .int .i64 n, .int .u8 0, .int .u32 0]⟩⟩, ⟨some b3, true, ⟨true, 37, [.int .u8 1, .int .u8 161, .int .u8 0, .int .u8 0, .int .u8 0, .int .u32 tag, .int .u32 n, .int .u32 w1, .int .u32 0, .int .u32 w3, .int .u32 0, .int .u32 0, .int .u32 0, .slice px kn cx]⟩⟩, ⟨some b, true, ⟨true, 64, [.string ⟨#[]⟩, .string ⟨#[116]⟩, .bool false, .bool false, .bool false, .int .i64 sg, .int .i64 bu, .int .i64 65536, .bool true, .bool true, .slice none 0 0, .int .u32 cmd, .int .u32 stat, .int .u32 tg, hd, .slice none 0 0, .bool false, .slice none 0 0]⟩⟩, ⟨some bc, true, ⟨true, 5, (w4s [w3, 0, 0, 0] 4).map (Value.int .u8)⟩⟩]) 0 ⟨rfl, rfl, (st.sel [0, 2, 3, 1] (by decide))⟩ [4, 5, 9, 36, 37, 38, 39, 40, 41, 42, 43, 44, 45, 46, 47, 48] (by decide) ?_
   rintro m t1 H1 hk hI
   obtain ⟨rfl, ht36, st⟩ := hI
   obtain ⟨u, rfl⟩ : ∃ u, t1 = (upd (mix [4, 5, 9, 36, 37, 38, 39, 40, 41, 42, 43, 44, 45, 46, 47, 48] _ u) (some 36) _) := ⟨t1, by rw [← hk, upd_self ht36]⟩
   clear hk ht36
   show AWl _ _ _ _ _
   refine aBinV (.bool false) rfl rfl rfl ?_
   refine sE ?_
   show AW _ (.cond _ _ _) _ _ _
   refine cF' rfl ?_
   show AWl _ _ _ _ _
   iterate 4 refine aN rfl rfl (by constructor) ?_
   refine aLd st 2 rfl rfl rfl (by constructor) ?_
   refine aN rfl rfl (by constructor) ?_
   refine sE ?_
   show AW _ (.cond _ _ _) _ _ _
   refine cF' rfl ?_
   show AWp _ _ _ _ _
   refine aN rfl rfl (by constructor) ?_
   refine aLd st 1 rfl rfl rfl (by constructor) ?_
   refine aN (v := .int .i64 (kn : Int)) rfl rfl (by constructor) ?_
   iterate 2 refine aN rfl rfl (by constructor) ?_
   refine gCase 63 rfl (fun h6 => ?_) (fun h6 => ?_)
   ·refine gT rfl ?_
    refine aN rfl rfl (by constructor) ?_
    refine gT rfl ?_
    refine aN rfl rfl (by constructor) ?_
    refine gT rfl ?_
    refine aN rfl rfl (by constructor) ?_
    refine gT rfl ?_
    refine aN rfl rfl (by constructor) ?_
    refine gT rfl ?_
    refine aN rfl rfl (by constructor) ?_
    refine gT rfl ?_
    refine aN rfl rfl (by constructor) ?_
    refine gT rfl ?_
    refine aN rfl rfl (by constructor) ?_
    refine gT rfl ?_
    refine aLd st 2 rfl rfl rfl (by constructor) ?_
    refine gT rfl ?_
    refine aN rfl rfl (by constructor) ?_
    refine gT rfl ?_
    refine aN rfl rfl (by constructor) ?_
    refine gT rfl ?_
    refine aN rfl rfl (by constructor) ?_
    refine gT rfl ?_
    refine aN rfl rfl (by constructor) ?_
    refine gT rfl ?_
    refine aLd st 1 rfl rfl rfl (by constructor) ?_
    refine gT rfl ?_
    refine aN (v := .int .i64 (kn : Int)) rfl rfl (by constructor) ?_
    refine gT rfl ?_
    refine aN rfl rfl (by constructor) ?_
    refine gT rfl ?_
    refine aN rfl rfl (by constructor) ?_
    refine gT rfl ?_
    refine aN rfl rfl (by constructor) ?_
    refine gT rfl ?_
    refine aN rfl rfl (by constructor) ?_
    refine gT rfl ?_
    refine aLd st 2 rfl rfl rfl (by constructor) ?_
    refine gT rfl ?_
    refine aBinV (.bool false) rfl rfl (by exact congrArg (fun q => some (Value.bool q)) (decide_eq_false (by omega))) ?_
    refine gT rfl ?_
    refine aN rfl rfl (by constructor) ?_
    refine gT rfl ?_
    refine aN rfl rfl (by constructor) ?_
    refine gT rfl ?_
    refine aN rfl rfl (by constructor) ?_
    refine gT rfl ?_
    refine aLd st 1 rfl rfl rfl (by constructor) ?_
    refine gT rfl ?_
    refine aN (v := .int .i64 (kn : Int)) rfl rfl (by constructor) ?_
    refine gT rfl ?_
    refine aN rfl rfl (by constructor) ?_
    refine gT rfl ?_
    refine aLd st 0 rfl rfl rfl (by constructor) ?_
    refine gT rfl ?_
    refine aBinV (.bool false) rfl rfl (by exact congrArg (fun q => some (Value.bool q)) (decide_eq_false (by omega))) ?_
    refine gT rfl ?_
    iterate 3 refine aN rfl rfl (by constructor) ?_
    refine pE ?_
    show AW _ (.cond _ _ _) _ _ _
    refine cF' rfl ?_
    show AWl _ _ _ _ _
    iterate 2 refine aN rfl rfl (by constructor) ?_
    refine gT rfl ?_
    refine aN rfl rfl (by constructor) ?_
    refine gT rfl ?_
    refine aLd st 0 rfl rfl rfl (by constructor) ?_
    refine gT rfl ?_
    refine aBinV (.bool false) rfl rfl (by exact congrArg (fun q => some (Value.bool q)) (decide_eq_false (by omega))) ?_
    iterate 2 refine aN rfl rfl (by constructor) ?_
    refine sE ?_
    show AW _ (.cond _ _ _) _ _ _
    refine cF' rfl ?_
    show AWp _ _ _ _ _
    iterate 4 refine aN rfl rfl (by constructor) ?_
    refine aLd st 2 rfl rfl rfl (by constructor) ?_
    refine aN rfl rfl (by constructor) ?_
    refine aLd st 0 rfl rfl rfl (by constructor) ?_
    refine aN rfl rfl (by constructor) ?_
    refine aLd st 0 rfl rfl rfl (by constructor) ?_
    refine aN rfl rfl (by constructor) ?_
    refine aLd st 0 rfl rfl rfl (by constructor) ?_
    refine aN rfl rfl (by constructor) ?_
    refine aLd st 1 rfl rfl rfl (by constructor) ?_
    refine aBinV (.int .u8 32) rfl rfl (rfl) ?_
    refine aBld rfl (by repeat constructor) ?_
    refine ⟨?_, trivial⟩
    refine aLit st rfl (by repeat constructor) fun b122 H7 st => ?_
    refine ⟨⟨(h_Ld st 2 rfl rfl rfl (by constructor)), (h_Ld st 1 rfl rfl rfl (by constructor)), (h_Ld st 1 rfl rfl rfl (by constructor)), (h_Ld st 1 rfl rfl rfl (by constructor)), (h_Ld st 3 rfl rfl rfl (by constructor)), trivial⟩, ?_⟩
    refine ⟨?_, trivial⟩
    have st := st.nil 41
    have hnil : (Value.slice none 0 0) = accV none 0 8 := rfl
    refine aAppP st 0 (ob := none) (n := 0) rfl rfl rfl (by decide) (rfl) (st.rowAll 1 rfl (by first | rfl | (simp [beB_len, *]; done) | (simp [beB_len, *]; omega))).src (rfl) (by decide) (by decide) (by decide) (by repeat constructor) fun b123 H8 st => ?_
    refine ⟨⟨(h_Ld st 3 rfl rfl rfl (by constructor)), (h_Ld st 2 rfl rfl rfl (by constructor)), (h_Ld st 2 rfl rfl rfl (by constructor)), (h_Ld st 2 rfl rfl rfl (by constructor)), trivial⟩, ?_⟩
    iterate 2 refine aN rfl rfl (by constructor) ?_
    refine ⟨?_, trivial⟩
    refine aSt st 4 rfl rfl rfl rfl (by first | rfl | simp [cellsOf, *]) (by first | decide | (simp [*]; done) | (simp [k8]; done)) (by repeat constructor) fun H9 st => ?_
    refine ⟨trivial, ?_⟩
    refine pE ?_
    show AWl _ _ _ _ _
    iterate 3 refine aN rfl rfl (by constructor) ?_
    refine gT rfl ?_
    refine aN rfl rfl (by constructor) ?_
    refine gT rfl ?_
    refine aLd st 3 rfl rfl rfl (by constructor) ?_
    refine gT rfl ?_
    refine aN (v := .int .i64 (kn : Int)) rfl rfl (by constructor) ?_
    refine gT rfl ?_
    refine aN rfl rfl (by constructor) ?_
    refine gT rfl ?_
    refine aLd st 2 rfl rfl rfl (by constructor) ?_
    refine gT rfl ?_
    refine aBinV (.bool false) rfl rfl (by exact congrArg (fun q => some (Value.bool q)) (beq_eq_false_iff_ne.2 (by omega))) ?_
    refine aN rfl rfl (by constructor) ?_
    refine sE ?_
    show AW _ (.cond _ _ _) _ _ _
    refine cF' rfl ?_
    show AWp _ _ _ _ _
    iterate 4 refine aN rfl rfl (by constructor) ?_
    refine aLd st 4 rfl rfl rfl (by constructor) ?_
    refine aLdA st 2 rfl rfl (by first | decide | simp [*]) (by repeat constructor) ?_
    refine aBld rfl (by repeat constructor) ?_
    refine ⟨?_, trivial⟩
    refine aLit st rfl (by repeat constructor) fun b145 H10 st => ?_
    refine ⟨⟨(h_LdA st 3 rfl rfl (by first | decide | simp [*]) (by repeat constructor)), (h_Ld st 5 rfl rfl rfl (by constructor)), trivial⟩, ?_⟩
    refine ⟨?_, trivial⟩
    have st := st.nil 76
    have hnil : (Value.slice none 0 0) = accV none 0 12 := rfl
    refine aAppP st 0 (ob := none) (n := 0) rfl rfl rfl (by decide) (rfl) (st.rowAll 1 rfl (by first | rfl | (simp [beB_len, *]; done) | (simp [beB_len, *]; omega))).src (rfl) (by decide) (by decide) (by decide) (by repeat constructor) fun b146 H11 st => ?_
    refine ⟨⟨(h_LdA st 4 rfl rfl (by first | decide | simp [*]) (by repeat constructor)), trivial⟩, ?_⟩
    iterate 2 refine aN rfl rfl (by constructor) ?_
    refine ⟨?_, trivial⟩
    refine aSt st 6 rfl rfl rfl rfl (by first | rfl | simp [cellsOf, *]) (by first | decide | (simp [*]; done) | (simp [k8]; done)) (by repeat constructor) fun H12 st => ?_
    refine ⟨trivial, ?_⟩
    refine pE ?_
    show AWl _ _ _ _ _
    iterate 4 refine aN rfl rfl (by constructor) ?_
    refine aLd st 6 rfl rfl rfl (by constructor) ?_
    refine aN (v := .int .i64 1) rfl rfl (by constructor) ?_
    refine aBinV (.int .i64 0) rfl rfl (rfl) ?_
    refine aC (ask_call (st.get (j := 6) rfl) (st.get (j := 0) rfl) (by have := st.ne 0 6 rfl rfl (by decide); simpa using this)) fun v156 H13 ⟨hv, st1⟩ => ?_
    subst hv
    replace st := st.call2 (o1 := some b) (o2 := some b146) 6 0 rfl rfl st1 rfl
    clear st1
    refine aLit st rfl (by repeat constructor) fun b157 H14 st => ?_
    iterate 2 refine aN rfl rfl (by constructor) ?_
    refine sE ?_
    refine ⟨_, out2 (r_tmp rfl (by constructor)) (r_tmp rfl (by constructor)) ⟨rfl, rfl⟩, ?_⟩
    exact ⟨b157, b146, b123, _, rfl, st.sel [1, 0, 2, 4] (by decide)⟩
   ·refine gF rfl (by decide) ?_
    refine gF rfl (by decide) ?_
    refine gF rfl (by decide) ?_
    refine gU rfl ?_
    refine gU rfl ?_
    refine gU rfl ?_
    refine gU rfl ?_
    refine gU rfl ?_
    refine gU rfl ?_
    refine gF rfl (by decide) ?_
    refine gF rfl (by decide) ?_
    refine gU rfl ?_
    refine gU rfl ?_
    refine gU rfl ?_
    refine gU rfl ?_
    refine gU rfl ?_
    refine gU rfl ?_
    refine gU rfl ?_
    refine gU rfl ?_
    refine gU rfl ?_
    refine gF rfl (by decide) ?_
    refine gF rfl (by decide) ?_
    refine gU rfl ?_
    refine gU rfl ?_
    refine gU rfl ?_
    refine gU rfl ?_
    refine gU rfl ?_
    refine gU rfl ?_
    refine gF rfl (by decide) ?_
    iterate 2 refine aN rfl rfl (by constructor) ?_
    refine pE ?_
    show AW _ (.cond _ _ _) _ _ _
    refine cF' rfl ?_
    show AWl _ _ _ _ _
    iterate 2 refine aN rfl rfl (by constructor) ?_
    refine gT rfl ?_
    refine aN rfl rfl (by constructor) ?_
    refine gT rfl ?_
    refine aLd st 0 rfl rfl rfl (by constructor) ?_
    refine gT rfl ?_
    refine aBinV (.bool false) rfl rfl (by exact congrArg (fun q => some (Value.bool q)) (decide_eq_false (by omega))) ?_
    iterate 2 refine aN rfl rfl (by constructor) ?_
    refine sE ?_
    show AW _ (.cond _ _ _) _ _ _
    refine cF' rfl ?_
    show AWp _ _ _ _ _
    iterate 4 refine aN rfl rfl (by constructor) ?_
    refine aLd st 2 rfl rfl rfl (by constructor) ?_
    refine aN rfl rfl (by constructor) ?_
    refine aLd st 0 rfl rfl rfl (by constructor) ?_
    refine aN rfl rfl (by constructor) ?_
    refine aLd st 0 rfl rfl rfl (by constructor) ?_
    refine aN rfl rfl (by constructor) ?_
    refine aLd st 0 rfl rfl rfl (by constructor) ?_
    refine aN rfl rfl (by constructor) ?_
    refine aLd st 1 rfl rfl rfl (by constructor) ?_
    refine aBinV (.int .u8 32) rfl rfl (rfl) ?_
    refine aBld rfl (by repeat constructor) ?_
    refine ⟨?_, trivial⟩
    refine aLit st rfl (by repeat constructor) fun b122 H15 st => ?_
    refine ⟨⟨(h_Ld st 2 rfl rfl rfl (by constructor)), (h_Ld st 1 rfl rfl rfl (by constructor)), (h_Ld st 1 rfl rfl rfl (by constructor)), (h_Ld st 1 rfl rfl rfl (by constructor)), (h_Ld st 3 rfl rfl rfl (by constructor)), trivial⟩, ?_⟩
    refine ⟨?_, trivial⟩
    have st := st.nil 41
    have hnil : (Value.slice none 0 0) = accV none 0 8 := rfl
    refine aAppP st 0 (ob := none) (n := 0) rfl rfl rfl (by decide) (rfl) (st.rowAll 1 rfl (by first | rfl | (simp [beB_len, *]; done) | (simp [beB_len, *]; omega))).src (rfl) (by decide) (by decide) (by decide) (by repeat constructor) fun b123 H16 st => ?_
    refine ⟨⟨(h_Ld st 3 rfl rfl rfl (by constructor)), (h_Ld st 2 rfl rfl rfl (by constructor)), (h_Ld st 2 rfl rfl rfl (by constructor)), (h_Ld st 2 rfl rfl rfl (by constructor)), trivial⟩, ?_⟩
    iterate 2 refine aN rfl rfl (by constructor) ?_
    refine ⟨?_, trivial⟩
    refine aSt st 4 rfl rfl rfl rfl (by first | rfl | simp [cellsOf, *]) (by first | decide | (simp [*]; done) | (simp [k8]; done)) (by repeat constructor) fun H17 st => ?_
    refine ⟨trivial, ?_⟩
    refine pE ?_
    show AWl _ _ _ _ _
    iterate 3 refine aN rfl rfl (by constructor) ?_
    refine gT rfl ?_
    refine aN rfl rfl (by constructor) ?_
    refine gT rfl ?_
    refine aLd st 3 rfl rfl rfl (by constructor) ?_
    refine gT rfl ?_
    refine aN (v := .int .i64 (kn : Int)) rfl rfl (by constructor) ?_
    refine gT rfl ?_
    refine aN rfl rfl (by constructor) ?_
    refine gT rfl ?_
    refine aLd st 2 rfl rfl rfl (by constructor) ?_
    refine gT rfl ?_
    refine aBinV (.bool false) rfl rfl (by exact congrArg (fun q => some (Value.bool q)) (beq_eq_false_iff_ne.2 (by omega))) ?_
    refine aN rfl rfl (by constructor) ?_
    refine sE ?_
    show AW _ (.cond _ _ _) _ _ _
    refine cF' rfl ?_
    show AWp _ _ _ _ _
    iterate 4 refine aN rfl rfl (by constructor) ?_
    refine aLd st 4 rfl rfl rfl (by constructor) ?_
    refine aLdA st 2 rfl rfl (by first | decide | simp [*]) (by repeat constructor) ?_
    refine aBld rfl (by repeat constructor) ?_
    refine ⟨?_, trivial⟩
    refine aLit st rfl (by repeat constructor) fun b145 H18 st => ?_
    refine ⟨⟨(h_LdA st 3 rfl rfl (by first | decide | simp [*]) (by repeat constructor)), (h_Ld st 5 rfl rfl rfl (by constructor)), trivial⟩, ?_⟩
    refine ⟨?_, trivial⟩
    have st := st.nil 76
    have hnil : (Value.slice none 0 0) = accV none 0 12 := rfl
    refine aAppP st 0 (ob := none) (n := 0) rfl rfl rfl (by decide) (rfl) (st.rowAll 1 rfl (by first | rfl | (simp [beB_len, *]; done) | (simp [beB_len, *]; omega))).src (rfl) (by decide) (by decide) (by decide) (by repeat constructor) fun b146 H19 st => ?_
    refine ⟨⟨(h_LdA st 4 rfl rfl (by first | decide | simp [*]) (by repeat constructor)), trivial⟩, ?_⟩
    iterate 2 refine aN rfl rfl (by constructor) ?_
    refine ⟨?_, trivial⟩
    refine aSt st 6 rfl rfl rfl rfl (by first | rfl | simp [cellsOf, *]) (by first | decide | (simp [*]; done) | (simp [k8]; done)) (by repeat constructor) fun H20 st => ?_
    refine ⟨trivial, ?_⟩
    refine pE ?_
    show AWl _ _ _ _ _
    iterate 4 refine aN rfl rfl (by constructor) ?_
    refine aLd st 6 rfl rfl rfl (by constructor) ?_
    refine aN (v := .int .i64 1) rfl rfl (by constructor) ?_
    refine aBinV (.int .i64 0) rfl rfl (rfl) ?_
    refine aC (ask_call (st.get (j := 6) rfl) (st.get (j := 0) rfl) (by have := st.ne 0 6 rfl rfl (by decide); simpa using this)) fun v156 H21 ⟨hv, st1⟩ => ?_
    subst hv
    replace st := st.call2 (o1 := some b) (o2 := some b146) 6 0 rfl rfl st1 rfl
    clear st1
    refine aLit st rfl (by repeat constructor) fun b157 H22 st => ?_
    iterate 2 refine aN rfl rfl (by constructor) ?_
    refine sE ?_
    refine ⟨_, out2 (r_tmp rfl (by constructor)) (r_tmp rfl (by constructor)) ⟨rfl, rfl⟩, ?_⟩
    exact ⟨b157, b146, b123, _, rfl, st.sel [1, 0, 2, 4] (by decide)⟩
  ·refine ⟨?_, trivial⟩
   refine aNewP st rfl rfl (by repeat constructor) fun b6 H23 st => ?_
   refine ⟨⟨(h_Ld st 1 rfl rfl rfl (by constructor)), (h_Ld st 1 rfl rfl rfl (by constructor)), (h_Ld st 1 rfl rfl rfl (by constructor)), (h_Ld st 1 rfl rfl rfl (by constructor)), (h_Ld st 1 rfl rfl rfl (by constructor)), trivial⟩, ?_⟩
   refine ⟨?_, trivial⟩
   refine aC (wbytes_call (xs := [w3, 0, 0, 0]) (Stt.cutAt st 1 (o := 9) (n := 4) rfl (by decide) (show 9 + 4 ≤ 14 by decide)) (show 4 ≤ 1000 by decide)) fun v19 H24 ⟨oc19, hv, st1⟩ => ?_
   subst hv
   replace st := st.call st1 rfl
   clear st1
   obtain ⟨bc, rfl⟩ := st.isSome 0 rfl (fun h => by cases h)
   have hw16 : (w4s [w3, 0, 0, 0] ([w3, 0, 0, 0] : List Int).length).length = 16 := rfl
   refine ⟨⟨(h_Ld st 2 rfl rfl rfl (by constructor)), (h_Ld st 2 rfl rfl rfl (by constructor)), (h_Ld st 2 rfl rfl rfl (by constructor)), (h_Ld st 2 rfl rfl rfl (by constructor)), (h_Ld st 2 rfl rfl rfl (by constructor)), trivial⟩, ?_⟩
   refine aBld rfl (by repeat constructor) ?_
   refine ⟨?_, trivial⟩
   refine aSt st 1 rfl rfl rfl rfl (by first | rfl | simp [cellsOf, *]) (by first | decide | (simp [*]; done) | (simp [k8]; done)) (by repeat constructor) fun H25 st => ?_
   refine ⟨trivial, ?_⟩
   refine pE ?_
   show AWl _ _ _ _ _
   refine aN rfl rfl (by constructor) ?_
   refine aLd st 2 rfl rfl rfl (by constructor) ?_
   refine aBinV (.int .u8 32) rfl rfl (rfl) ?_
   refine aBinV (.bool true) rfl rfl rfl ?_
   refine aN rfl rfl (by constructor) ?_
   refine sE ?_
   show AWl _ _ _ _ _
   iterate 3 refine aN rfl rfl (by constructor) ?_
   refine aLd st 3 rfl rfl rfl (by constructor) ?_
   refine aN (v := .int .i64 0) rfl rfl (by constructor) ?_
   refine aN rfl rfl (by constructor) ?_
   refine sE ?_
   show AW _ (.loop _) _ _ _
   refine AW_loopN (fun m t1 H1 => m = 0 ∧ t1 36 = .int .i64 0 ∧ Stt [b] H H1 [⟨some b6, true, ⟨true, 41, [.int .u32 tag, .int .u8 0, .int .u8 0, .slice (some ⟨bc, 0, none⟩) 16 1, .slice px kn cx, .int .i64 n, .int .u8 0, .int .u32 0]⟩⟩, ⟨some b3, true, ⟨true, 37, [.int .u8 1, .int .u8 161, .int .u8 0, .int .u8 0, .int .u8 0, .int .u32 tag, .int .u32 n, .int .u32 w1, .int .u32 0, .int .u32 w3, .int .u32 0, .int .u32 0, .int .u32 0, .slice px kn cx]⟩⟩, ⟨some b, true, ⟨true, 64, [.string ⟨#[]⟩, .string ⟨#[116]⟩, .bool false, .bool false, .bool false, .int .i64 sg, .int .i64 bu, .int .i64 65536, .bool true, .bool true, .slice none 0 0, .int .u32 cmd, .int .u32 stat, .int .u32 tg, hd, .slice none 0 0, .bool false, .slice none 0 0]⟩⟩, ⟨some bc, true, ⟨true, 5, (w4s [w3, 0, 0, 0] 4).map (Value.int .u8)⟩⟩]) 0 ⟨rfl, rfl, (st.sel [1, 2, 3, 0] (by decide))⟩ [4, 5, 9, 36, 37, 38, 39, 40, 41, 42, 43, 44, 45, 46, 47, 48] (by decide) ?_
   rintro m t1 H1 hk hI
   obtain ⟨rfl, ht36, st⟩ := hI
   obtain ⟨u, rfl⟩ : ∃ u, t1 = (upd (mix [4, 5, 9, 36, 37, 38, 39, 40, 41, 42, 43, 44, 45, 46, 47, 48] _ u) (some 36) _) := ⟨t1, by rw [← hk, upd_self ht36]⟩
   clear hk ht36
   show AWl _ _ _ _ _
   refine aBinV (.bool false) rfl rfl rfl ?_
   refine sE ?_
   show AW _ (.cond _ _ _) _ _ _
   refine cF' rfl ?_
   show AWl _ _ _ _ _
   iterate 4 refine aN rfl rfl (by constructor) ?_
   refine aLd st 2 rfl rfl rfl (by constructor) ?_
   refine aN rfl rfl (by constructor) ?_
   refine sE ?_
   show AW _ (.cond _ _ _) _ _ _
   refine cF' rfl ?_
   show AWp _ _ _ _ _
   refine aN rfl rfl (by constructor) ?_
   refine aLd st 1 rfl rfl rfl (by constructor) ?_
   refine aN (v := .int .i64 (kn : Int)) rfl rfl (by constructor) ?_
   iterate 2 refine aN rfl rfl (by constructor) ?_
   refine gCase 63 rfl (fun h26 => ?_) (fun h26 => ?_)
   ·refine gT rfl ?_
    refine aN rfl rfl (by constructor) ?_
    refine gT rfl ?_
    refine aN rfl rfl (by constructor) ?_
    refine gT rfl ?_
    refine aN rfl rfl (by constructor) ?_
    refine gT rfl ?_
    refine aN rfl rfl (by constructor) ?_
    refine gT rfl ?_
    refine aN rfl rfl (by constructor) ?_
    refine gT rfl ?_
    refine aN rfl rfl (by constructor) ?_
    refine gT rfl ?_
    refine aN rfl rfl (by constructor) ?_
    refine gT rfl ?_
    refine aLd st 2 rfl rfl rfl (by constructor) ?_
    refine gT rfl ?_
    refine aN rfl rfl (by constructor) ?_
    refine gT rfl ?_
    refine aN rfl rfl (by constructor) ?_
    refine gT rfl ?_
    refine aN rfl rfl (by constructor) ?_
    refine gT rfl ?_
    refine aN rfl rfl (by constructor) ?_
    refine gT rfl ?_
    refine aLd st 1 rfl rfl rfl (by constructor) ?_
    refine gT rfl ?_
    refine aN (v := .int .i64 (kn : Int)) rfl rfl (by constructor) ?_
    refine gT rfl ?_
    refine aN rfl rfl (by constructor) ?_
    refine gT rfl ?_
    refine aN rfl rfl (by constructor) ?_
    refine gT rfl ?_
    refine aN rfl rfl (by constructor) ?_
    refine gT rfl ?_
    refine aN rfl rfl (by constructor) ?_
    refine gT rfl ?_
    refine aLd st 2 rfl rfl rfl (by constructor) ?_
    refine gT rfl ?_
    refine aBinV (.bool false) rfl rfl (by exact congrArg (fun q => some (Value.bool q)) (decide_eq_false (by omega))) ?_
    refine gT rfl ?_
    refine aN rfl rfl (by constructor) ?_
    refine gT rfl ?_
    refine aN rfl rfl (by constructor) ?_
    refine gT rfl ?_
    refine aN rfl rfl (by constructor) ?_
    refine gT rfl ?_
    refine aLd st 1 rfl rfl rfl (by constructor) ?_
    refine gT rfl ?_
    refine aN (v := .int .i64 (kn : Int)) rfl rfl (by constructor) ?_
    refine gT rfl ?_
    refine aN rfl rfl (by constructor) ?_
    refine gT rfl ?_
    refine aLd st 0 rfl rfl rfl (by constructor) ?_
    refine gT rfl ?_
    refine aBinV (.bool false) rfl rfl (by exact congrArg (fun q => some (Value.bool q)) (decide_eq_false (by omega))) ?_
    refine gT rfl ?_
    iterate 3 refine aN rfl rfl (by constructor) ?_
    refine pE ?_
    show AW _ (.cond _ _ _) _ _ _
    refine cF' rfl ?_
    show AWl _ _ _ _ _
    iterate 2 refine aN rfl rfl (by constructor) ?_
    refine gT rfl ?_
    refine aN rfl rfl (by constructor) ?_
    refine gT rfl ?_
    refine aLd st 0 rfl rfl rfl (by constructor) ?_
    refine gT rfl ?_
    refine aBinV (.bool false) rfl rfl (by exact congrArg (fun q => some (Value.bool q)) (decide_eq_false (by omega))) ?_
    iterate 2 refine aN rfl rfl (by constructor) ?_
    refine sE ?_
    show AW _ (.cond _ _ _) _ _ _
    refine cF' rfl ?_
    show AWp _ _ _ _ _
    iterate 4 refine aN rfl rfl (by constructor) ?_
    refine aLd st 2 rfl rfl rfl (by constructor) ?_
    refine aN rfl rfl (by constructor) ?_
    refine aLd st 0 rfl rfl rfl (by constructor) ?_
    refine aN rfl rfl (by constructor) ?_
    refine aLd st 0 rfl rfl rfl (by constructor) ?_
    refine aN rfl rfl (by constructor) ?_
    refine aLd st 0 rfl rfl rfl (by constructor) ?_
    refine aN rfl rfl (by constructor) ?_
    refine aLd st 1 rfl rfl rfl (by constructor) ?_
    refine aBinV (.int .u8 32) rfl rfl (rfl) ?_
    refine aBld rfl (by repeat constructor) ?_
    refine ⟨?_, trivial⟩
    refine aLit st rfl (by repeat constructor) fun b122 H27 st => ?_
    refine ⟨⟨(h_Ld st 2 rfl rfl rfl (by constructor)), (h_Ld st 1 rfl rfl rfl (by constructor)), (h_Ld st 1 rfl rfl rfl (by constructor)), (h_Ld st 1 rfl rfl rfl (by constructor)), (h_Ld st 3 rfl rfl rfl (by constructor)), trivial⟩, ?_⟩
    refine ⟨?_, trivial⟩
    have st := st.nil 41
    have hnil : (Value.slice none 0 0) = accV none 0 8 := rfl
    refine aAppP st 0 (ob := none) (n := 0) rfl rfl rfl (by decide) (rfl) (st.rowAll 1 rfl (by first | rfl | (simp [beB_len, *]; done) | (simp [beB_len, *]; omega))).src (rfl) (by decide) (by decide) (by decide) (by repeat constructor) fun b123 H28 st => ?_
    refine ⟨⟨(h_Ld st 3 rfl rfl rfl (by constructor)), (h_Ld st 2 rfl rfl rfl (by constructor)), (h_Ld st 2 rfl rfl rfl (by constructor)), (h_Ld st 2 rfl rfl rfl (by constructor)), trivial⟩, ?_⟩
    iterate 2 refine aN rfl rfl (by constructor) ?_
    refine ⟨?_, trivial⟩
    refine aSt st 4 rfl rfl rfl rfl (by first | rfl | simp [cellsOf, *]) (by first | decide | (simp [*]; done) | (simp [k8]; done)) (by repeat constructor) fun H29 st => ?_
    refine ⟨trivial, ?_⟩
    refine pE ?_
    show AWl _ _ _ _ _
    iterate 3 refine aN rfl rfl (by constructor) ?_
    refine gT rfl ?_
    refine aN rfl rfl (by constructor) ?_
    refine gT rfl ?_
    refine aLd st 3 rfl rfl rfl (by constructor) ?_
    refine gT rfl ?_
    refine aN (v := .int .i64 (kn : Int)) rfl rfl (by constructor) ?_
    refine gT rfl ?_
    refine aN rfl rfl (by constructor) ?_
    refine gT rfl ?_
    refine aLd st 2 rfl rfl rfl (by constructor) ?_
    refine gT rfl ?_
    refine aBinV (.bool false) rfl rfl (by exact congrArg (fun q => some (Value.bool q)) (beq_eq_false_iff_ne.2 (by omega))) ?_
    refine aN rfl rfl (by constructor) ?_
    refine sE ?_
    show AW _ (.cond _ _ _) _ _ _
    refine cF' rfl ?_
    show AWp _ _ _ _ _
    iterate 4 refine aN rfl rfl (by constructor) ?_
    refine aLd st 4 rfl rfl rfl (by constructor) ?_
    refine aLdA st 2 rfl rfl (by first | decide | simp [*]) (by repeat constructor) ?_
    refine aBld rfl (by repeat constructor) ?_
    refine ⟨?_, trivial⟩
    refine aLit st rfl (by repeat constructor) fun b145 H30 st => ?_
    refine ⟨⟨(h_LdA st 3 rfl rfl (by first | decide | simp [*]) (by repeat constructor)), (h_Ld st 5 rfl rfl rfl (by constructor)), trivial⟩, ?_⟩
    refine ⟨?_, trivial⟩
    have st := st.nil 76
    have hnil : (Value.slice none 0 0) = accV none 0 12 := rfl
    refine aAppP st 0 (ob := none) (n := 0) rfl rfl rfl (by decide) (rfl) (st.rowAll 1 rfl (by first | rfl | (simp [beB_len, *]; done) | (simp [beB_len, *]; omega))).src (rfl) (by decide) (by decide) (by decide) (by repeat constructor) fun b146 H31 st => ?_
    refine ⟨⟨(h_LdA st 4 rfl rfl (by first | decide | simp [*]) (by repeat constructor)), trivial⟩, ?_⟩
    iterate 2 refine aN rfl rfl (by constructor) ?_
    refine ⟨?_, trivial⟩
    refine aSt st 6 rfl rfl rfl rfl (by first | rfl | simp [cellsOf, *]) (by first | decide | (simp [*]; done) | (simp [k8]; done)) (by repeat constructor) fun H32 st => ?_
    refine ⟨trivial, ?_⟩
    refine pE ?_
    show AWl _ _ _ _ _
    iterate 4 refine aN rfl rfl (by constructor) ?_
    refine aLd st 6 rfl rfl rfl (by constructor) ?_
    refine aN (v := .int .i64 1) rfl rfl (by constructor) ?_
    refine aBinV (.int .i64 0) rfl rfl (rfl) ?_
    refine aC (ask_call (st.get (j := 6) rfl) (st.get (j := 0) rfl) (by have := st.ne 0 6 rfl rfl (by decide); simpa using this)) fun v156 H33 ⟨hv, st1⟩ => ?_
    subst hv
    replace st := st.call2 (o1 := some b) (o2 := some b146) 6 0 rfl rfl st1 rfl
    clear st1
    refine aLit st rfl (by repeat constructor) fun b157 H34 st => ?_
    iterate 2 refine aN rfl rfl (by constructor) ?_
    refine sE ?_
    refine ⟨_, out2 (r_tmp rfl (by constructor)) (r_tmp rfl (by constructor)) ⟨rfl, rfl⟩, ?_⟩
    exact ⟨b157, b146, b123, _, rfl, st.sel [1, 0, 2, 4] (by decide)⟩
   ·refine gF rfl (by decide) ?_
    refine gF rfl (by decide) ?_
    refine gF rfl (by decide) ?_
    refine gU rfl ?_
    refine gU rfl ?_
    refine gU rfl ?_
    refine gU rfl ?_
    refine gU rfl ?_
    refine gU rfl ?_
    refine gF rfl (by decide) ?_
    refine gF rfl (by decide) ?_
    refine gU rfl ?_
    refine gU rfl ?_
    refine gU rfl ?_
    refine gU rfl ?_
    refine gU rfl ?_
    refine gU rfl ?_
    refine gU rfl ?_
    refine gU rfl ?_
    refine gU rfl ?_
    refine gF rfl (by decide) ?_
    refine gF rfl (by decide) ?_
    refine gU rfl ?_
    refine gU rfl ?_
    refine gU rfl ?_
    refine gU rfl ?_
    refine gU rfl ?_
    refine gU rfl ?_
    refine gF rfl (by decide) ?_
    iterate 2 refine aN rfl rfl (by constructor) ?_
    refine pE ?_
    show AW _ (.cond _ _ _) _ _ _
    refine cF' rfl ?_
    show AWl _ _ _ _ _
    iterate 2 refine aN rfl rfl (by constructor) ?_
    refine gT rfl ?_
    refine aN rfl rfl (by constructor) ?_
    refine gT rfl ?_
    refine aLd st 0 rfl rfl rfl (by constructor) ?_
    refine gT rfl ?_
    refine aBinV (.bool false) rfl rfl (by exact congrArg (fun q => some (Value.bool q)) (decide_eq_false (by omega))) ?_
    iterate 2 refine aN rfl rfl (by constructor) ?_
    refine sE ?_
    show AW _ (.cond _ _ _) _ _ _
    refine cF' rfl ?_
    show AWp _ _ _ _ _
    iterate 4 refine aN rfl rfl (by constructor) ?_
    refine aLd st 2 rfl rfl rfl (by constructor) ?_
    refine aN rfl rfl (by constructor) ?_
    refine aLd st 0 rfl rfl rfl (by constructor) ?_
    refine aN rfl rfl (by constructor) ?_
    refine aLd st 0 rfl rfl rfl (by constructor) ?_
    refine aN rfl rfl (by constructor) ?_
    refine aLd st 0 rfl rfl rfl (by constructor) ?_
    refine aN rfl rfl (by constructor) ?_
    refine aLd st 1 rfl rfl rfl (by constructor) ?_
    refine aBinV (.int .u8 32) rfl rfl (rfl) ?_
    refine aBld rfl (by repeat constructor) ?_
    refine ⟨?_, trivial⟩
    refine aLit st rfl (by repeat constructor) fun b122 H35 st => ?_
    refine ⟨⟨(h_Ld st 2 rfl rfl rfl (by constructor)), (h_Ld st 1 rfl rfl rfl (by constructor)), (h_Ld st 1 rfl rfl rfl (by constructor)), (h_Ld st 1 rfl rfl rfl (by constructor)), (h_Ld st 3 rfl rfl rfl (by constructor)), trivial⟩, ?_⟩
    refine ⟨?_, trivial⟩
    have st := st.nil 41
    have hnil : (Value.slice none 0 0) = accV none 0 8 := rfl
    refine aAppP st 0 (ob := none) (n := 0) rfl rfl rfl (by decide) (rfl) (st.rowAll 1 rfl (by first | rfl | (simp [beB_len, *]; done) | (simp [beB_len, *]; omega))).src (rfl) (by decide) (by decide) (by decide) (by repeat constructor) fun b123 H36 st => ?_
    refine ⟨⟨(h_Ld st 3 rfl rfl rfl (by constructor)), (h_Ld st 2 rfl rfl rfl (by constructor)), (h_Ld st 2 rfl rfl rfl (by constructor)), (h_Ld st 2 rfl rfl rfl (by constructor)), trivial⟩, ?_⟩
    iterate 2 refine aN rfl rfl (by constructor) ?_
    refine ⟨?_, trivial⟩
    refine aSt st 4 rfl rfl rfl rfl (by first | rfl | simp [cellsOf, *]) (by first | decide | (simp [*]; done) | (simp [k8]; done)) (by repeat constructor) fun H37 st => ?_
    refine ⟨trivial, ?_⟩
    refine pE ?_
    show AWl _ _ _ _ _
    iterate 3 refine aN rfl rfl (by constructor) ?_
    refine gT rfl ?_
    refine aN rfl rfl (by constructor) ?_
    refine gT rfl ?_
    refine aLd st 3 rfl rfl rfl (by constructor) ?_
    refine gT rfl ?_
    refine aN (v := .int .i64 (kn : Int)) rfl rfl (by constructor) ?_
    refine gT rfl ?_
    refine aN rfl rfl (by constructor) ?_
    refine gT rfl ?_
    refine aLd st 2 rfl rfl rfl (by constructor) ?_
    refine gT rfl ?_
    refine aBinV (.bool false) rfl rfl (by exact congrArg (fun q => some (Value.bool q)) (beq_eq_false_iff_ne.2 (by omega))) ?_
    refine aN rfl rfl (by constructor) ?_
    refine sE ?_
    show AW _ (.cond _ _ _) _ _ _
    refine cF' rfl ?_
    show AWp _ _ _ _ _
    iterate 4 refine aN rfl rfl (by constructor) ?_
    refine aLd st 4 rfl rfl rfl (by constructor) ?_
    refine aLdA st 2 rfl rfl (by first | decide | simp [*]) (by repeat constructor) ?_
    refine aBld rfl (by repeat constructor) ?_
    refine ⟨?_, trivial⟩
    refine aLit st rfl (by repeat constructor) fun b145 H38 st => ?_
    refine ⟨⟨(h_LdA st 3 rfl rfl (by first | decide | simp [*]) (by repeat constructor)), (h_Ld st 5 rfl rfl rfl (by constructor)), trivial⟩, ?_⟩
    refine ⟨?_, trivial⟩
    have st := st.nil 76
    have hnil : (Value.slice none 0 0) = accV none 0 12 := rfl
    refine aAppP st 0 (ob := none) (n := 0) rfl rfl rfl (by decide) (rfl) (st.rowAll 1 rfl (by first | rfl | (simp [beB_len, *]; done) | (simp [beB_len, *]; omega))).src (rfl) (by decide) (by decide) (by decide) (by repeat constructor) fun b146 H39 st => ?_
    refine ⟨⟨(h_LdA st 4 rfl rfl (by first | decide | simp [*]) (by repeat constructor)), trivial⟩, ?_⟩
    iterate 2 refine aN rfl rfl (by constructor) ?_
    refine ⟨?_, trivial⟩
    refine aSt st 6 rfl rfl rfl rfl (by first | rfl | simp [cellsOf, *]) (by first | decide | (simp [*]; done) | (simp [k8]; done)) (by repeat constructor) fun H40 st => ?_
    refine ⟨trivial, ?_⟩
    refine pE ?_
    show AWl _ _ _ _ _
    iterate 4 refine aN rfl rfl (by constructor) ?_
    refine aLd st 6 rfl rfl rfl (by constructor) ?_
    refine aN (v := .int .i64 1) rfl rfl (by constructor) ?_
    refine aBinV (.int .i64 0) rfl rfl (rfl) ?_
    refine aC (ask_call (st.get (j := 6) rfl) (st.get (j := 0) rfl) (by have := st.ne 0 6 rfl rfl (by decide); simpa using this)) fun v156 H41 ⟨hv, st1⟩ => ?_
    subst hv
    replace st := st.call2 (o1 := some b) (o2 := some b146) 6 0 rfl rfl st1 rfl
    clear st1
    refine aLit st rfl (by repeat constructor) fun b157 H42 st => ?_
    iterate 2 refine aN rfl rfl (by constructor) ?_
    refine sE ?_
    refine ⟨_, out2 (r_tmp rfl (by constructor)) (r_tmp rfl (by constructor)) ⟨rfl, rfl⟩, ?_⟩
    exact ⟨b157, b146, b123, _, rfl, st.sel [1, 0, 2, 4] (by decide)⟩
 ·refine ⟨?_, trivial⟩
  refine aNewP st rfl rfl (by repeat constructor) fun b6 H43 st => ?_
  refine ⟨⟨(h_Ld st 1 rfl rfl rfl (by constructor)), (h_Ld st 1 rfl rfl rfl (by constructor)), (h_Ld st 1 rfl rfl rfl (by constructor)), (h_Ld st 1 rfl rfl rfl (by constructor)), (h_Ld st 1 rfl rfl rfl (by constructor)), trivial⟩, ?_⟩
  refine ⟨?_, trivial⟩
  refine aC (attr_w) fun v16 H44 ⟨hv, st1⟩ => ?_
  subst hv
  replace st := st.call st1 rfl
  clear st1
  refine ⟨⟨(h_Ld st 1 rfl rfl rfl (by constructor)), (h_Ld st 1 rfl rfl rfl (by constructor)), (h_Ld st 1 rfl rfl rfl (by constructor)), (h_Ld st 1 rfl rfl rfl (by constructor)), trivial⟩, ?_⟩
  refine ⟨?_, trivial⟩
  refine aC (wbytes_call (xs := [w3, 0, 0, 0]) (Stt.cutAt st 1 (o := 9) (n := 4) rfl (by decide) (show 9 + 4 ≤ 14 by decide)) (show 4 ≤ 1000 by decide)) fun v19 H45 ⟨oc19, hv, st1⟩ => ?_
  subst hv
  replace st := st.call st1 rfl
  clear st1
  obtain ⟨bc, rfl⟩ := st.isSome 0 rfl (fun h => by cases h)
  have hw16 : (w4s [w3, 0, 0, 0] ([w3, 0, 0, 0] : List Int).length).length = 16 := rfl
  refine ⟨⟨(h_Ld st 2 rfl rfl rfl (by constructor)), (h_Ld st 2 rfl rfl rfl (by constructor)), (h_Ld st 2 rfl rfl rfl (by constructor)), (h_Ld st 2 rfl rfl rfl (by constructor)), (h_Ld st 2 rfl rfl rfl (by constructor)), trivial⟩, ?_⟩
  refine aBld rfl (by repeat constructor) ?_
  refine ⟨?_, trivial⟩
  refine aSt st 1 rfl rfl rfl rfl (by first | rfl | simp [cellsOf, *]) (by first | decide | (simp [*]; done) | (simp [k8]; done)) (by repeat constructor) fun H46 st => ?_
  refine ⟨trivial, ?_⟩
  refine pE ?_
  show AWl _ _ _ _ _
  refine aN rfl rfl (by constructor) ?_
  refine aLd st 2 rfl rfl rfl (by constructor) ?_
  refine aBinV (.int .u8 32) rfl rfl (rfl) ?_
  refine aBinV (.bool true) rfl rfl rfl ?_
  refine aN rfl rfl (by constructor) ?_
  refine sE ?_
  show AWl _ _ _ _ _
  iterate 3 refine aN rfl rfl (by constructor) ?_
  refine aLd st 3 rfl rfl rfl (by constructor) ?_
  refine aN (v := .int .i64 0) rfl rfl (by constructor) ?_
  refine aN rfl rfl (by constructor) ?_
  refine sE ?_
  show AW _ (.loop _) _ _ _
  refine AW_loopN (fun m t1 H1 => m = 0 ∧ t1 36 = .int .i64 0 ∧ Stt [b] H H1 [⟨some b6, true, ⟨true, 41, [.int .u32 tag, .int .u8 0, .int .u8 0, .slice (some ⟨bc, 0, none⟩) 16 1, .slice px kn cx, .int .i64 n, .int .u8 0, .int .u32 0]⟩⟩, ⟨some b3, true, ⟨true, 37, [.int .u8 1, .int .u8 161, .int .u8 0, .int .u8 0, .int .u8 0, .int .u32 tag, .int .u32 n, .int .u32 w1, .int .u32 0, .int .u32 w3, .int .u32 0, .int .u32 0, .int .u32 0, .slice px kn cx]⟩⟩, ⟨some b, true, ⟨true, 64, [.string ⟨#[]⟩, .string ⟨#[116]⟩, .bool false, .bool false, .bool false, .int .i64 sg, .int .i64 bu, .int .i64 65536, .bool true, .bool true, .slice none 0 0, .int .u32 cmd, .int .u32 stat, .int .u32 tg, hd, .slice none 0 0, .bool false, .slice none 0 0]⟩⟩, ⟨some bc, true, ⟨true, 5, (w4s [w3, 0, 0, 0] 4).map (Value.int .u8)⟩⟩]) 0 ⟨rfl, rfl, (st.sel [1, 2, 3, 0] (by decide))⟩ [4, 5, 9, 36, 37, 38, 39, 40, 41, 42, 43, 44, 45, 46, 47, 48] (by decide) ?_
  rintro m t1 H1 hk hI
  obtain ⟨rfl, ht36, st⟩ := hI
  obtain ⟨u, rfl⟩ : ∃ u, t1 = (upd (mix [4, 5, 9, 36, 37, 38, 39, 40, 41, 42, 43, 44, 45, 46, 47, 48] _ u) (some 36) _) := ⟨t1, by rw [← hk, upd_self ht36]⟩
  clear hk ht36
  show AWl _ _ _ _ _
  refine aBinV (.bool false) rfl rfl rfl ?_
  refine sE ?_
  show AW _ (.cond _ _ _) _ _ _
  refine cF' rfl ?_
  show AWl _ _ _ _ _
  iterate 4 refine aN rfl rfl (by constructor) ?_
  refine aLd st 2 rfl rfl rfl (by constructor) ?_
  refine aN rfl rfl (by constructor) ?_
  refine sE ?_
  show AW _ (.cond _ _ _) _ _ _
  refine cF' rfl ?_
  show AWp _ _ _ _ _
  refine aN rfl rfl (by constructor) ?_
  refine aLd st 1 rfl rfl rfl (by constructor) ?_
  refine aN (v := .int .i64 (kn : Int)) rfl rfl (by constructor) ?_
  iterate 2 refine aN rfl rfl (by constructor) ?_
  refine gCase 63 rfl (fun h47 => ?_) (fun h47 => ?_)
  ·refine gT rfl ?_
   refine aN rfl rfl (by constructor) ?_
   refine gT rfl ?_
   refine aN rfl rfl (by constructor) ?_
   refine gT rfl ?_
   refine aN rfl rfl (by constructor) ?_
   refine gT rfl ?_
   refine aN rfl rfl (by constructor) ?_
   refine gT rfl ?_
   refine aN rfl rfl (by constructor) ?_
   refine gT rfl ?_
   refine aN rfl rfl (by constructor) ?_
   refine gT rfl ?_
   refine aN rfl rfl (by constructor) ?_
   refine gT rfl ?_
   refine aLd st 2 rfl rfl rfl (by constructor) ?_
   refine gT rfl ?_
   refine aN rfl rfl (by constructor) ?_
   refine gT rfl ?_
   refine aN rfl rfl (by constructor) ?_
   refine gT rfl ?_
   refine aN rfl rfl (by constructor) ?_
   refine gT rfl ?_
   refine aN rfl rfl (by constructor) ?_
   refine gT rfl ?_
   refine aLd st 1 rfl rfl rfl (by constructor) ?_
   refine gT rfl ?_
   refine aN (v := .int .i64 (kn : Int)) rfl rfl (by constructor) ?_
   refine gT rfl ?_
   refine aN rfl rfl (by constructor) ?_
   refine gT rfl ?_
   refine aN rfl rfl (by constructor) ?_
   refine gT rfl ?_
   refine aN rfl rfl (by constructor) ?_
   refine gT rfl ?_
   refine aN rfl rfl (by constructor) ?_
   refine gT rfl ?_
   refine aLd st 2 rfl rfl rfl (by constructor) ?_
   refine gT rfl ?_
   refine aBinV (.bool false) rfl rfl (by exact congrArg (fun q => some (Value.bool q)) (decide_eq_false (by omega))) ?_
   refine gT rfl ?_
   refine aN rfl rfl (by constructor) ?_
   refine gT rfl ?_
   refine aN rfl rfl (by constructor) ?_
   refine gT rfl ?_
   refine aN rfl rfl (by constructor) ?_
   refine gT rfl ?_
   refine aLd st 1 rfl rfl rfl (by constructor) ?_
   refine gT rfl ?_
   refine aN (v := .int .i64 (kn : Int)) rfl rfl (by constructor) ?_
   refine gT rfl ?_
   refine aN rfl rfl (by constructor) ?_
   refine gT rfl ?_
   refine aLd st 0 rfl rfl rfl (by constructor) ?_
   refine gT rfl ?_
   refine aBinV (.bool false) rfl rfl (by exact congrArg (fun q => some (Value.bool q)) (decide_eq_false (by omega))) ?_
   refine gT rfl ?_
   iterate 3 refine aN rfl rfl (by constructor) ?_
   refine pE ?_
   show AW _ (.cond _ _ _) _ _ _
   refine cF' rfl ?_
   show AWl _ _ _ _ _
   iterate 2 refine aN rfl rfl (by constructor) ?_
   refine gT rfl ?_
   refine aN rfl rfl (by constructor) ?_
   refine gT rfl ?_
   refine aLd st 0 rfl rfl rfl (by constructor) ?_
   refine gT rfl ?_
   refine aBinV (.bool false) rfl rfl (by exact congrArg (fun q => some (Value.bool q)) (decide_eq_false (by omega))) ?_
   iterate 2 refine aN rfl rfl (by constructor) ?_
   refine sE ?_
   show AW _ (.cond _ _ _) _ _ _
   refine cF' rfl ?_
   show AWp _ _ _ _ _
   iterate 4 refine aN rfl rfl (by constructor) ?_
   refine aLd st 2 rfl rfl rfl (by constructor) ?_
   refine aN rfl rfl (by constructor) ?_
   refine aLd st 0 rfl rfl rfl (by constructor) ?_
   refine aN rfl rfl (by constructor) ?_
   refine aLd st 0 rfl rfl rfl (by constructor) ?_
   refine aN rfl rfl (by constructor) ?_
   refine aLd st 0 rfl rfl rfl (by constructor) ?_
   refine aN rfl rfl (by constructor) ?_
   refine aLd st 1 rfl rfl rfl (by constructor) ?_
   refine aBinV (.int .u8 32) rfl rfl (rfl) ?_
   refine aBld rfl (by repeat constructor) ?_
   refine ⟨?_, trivial⟩
   refine aLit st rfl (by repeat constructor) fun b122 H48 st => ?_
   refine ⟨⟨(h_Ld st 2 rfl rfl rfl (by constructor)), (h_Ld st 1 rfl rfl rfl (by constructor)), (h_Ld st 1 rfl rfl rfl (by constructor)), (h_Ld st 1 rfl rfl rfl (by constructor)), (h_Ld st 3 rfl rfl rfl (by constructor)), trivial⟩, ?_⟩
   refine ⟨?_, trivial⟩
   have st := st.nil 41
   have hnil : (Value.slice none 0 0) = accV none 0 8 := rfl
   refine aAppP st 0 (ob := none) (n := 0) rfl rfl rfl (by decide) (rfl) (st.rowAll 1 rfl (by first | rfl | (simp [beB_len, *]; done) | (simp [beB_len, *]; omega))).src (rfl) (by decide) (by decide) (by decide) (by repeat constructor) fun b123 H49 st => ?_
   refine ⟨⟨(h_Ld st 3 rfl rfl rfl (by constructor)), (h_Ld st 2 rfl rfl rfl (by constructor)), (h_Ld st 2 rfl rfl rfl (by constructor)), (h_Ld st 2 rfl rfl rfl (by constructor)), trivial⟩, ?_⟩
   iterate 2 refine aN rfl rfl (by constructor) ?_
   refine ⟨?_, trivial⟩
   refine aSt st 4 rfl rfl rfl rfl (by first | rfl | simp [cellsOf, *]) (by first | decide | (simp [*]; done) | (simp [k8]; done)) (by repeat constructor) fun H50 st => ?_
   refine ⟨trivial, ?_⟩
   refine pE ?_
   show AWl _ _ _ _ _
   iterate 3 refine aN rfl rfl (by constructor) ?_
   refine gT rfl ?_
   refine aN rfl rfl (by constructor) ?_
   refine gT rfl ?_
   refine aLd st 3 rfl rfl rfl (by constructor) ?_
   refine gT rfl ?_
   refine aN (v := .int .i64 (kn : Int)) rfl rfl (by constructor) ?_
   refine gT rfl ?_
   refine aN rfl rfl (by constructor) ?_
   refine gT rfl ?_
   refine aLd st 2 rfl rfl rfl (by constructor) ?_
   refine gT rfl ?_
   refine aBinV (.bool false) rfl rfl (by exact congrArg (fun q => some (Value.bool q)) (beq_eq_false_iff_ne.2 (by omega))) ?_
   refine aN rfl rfl (by constructor) ?_
   refine sE ?_
   show AW _ (.cond _ _ _) _ _ _
   refine cF' rfl ?_
   show AWp _ _ _ _ _
   iterate 4 refine aN rfl rfl (by constructor) ?_
   refine aLd st 4 rfl rfl rfl (by constructor) ?_
   refine aLdA st 2 rfl rfl (by first | decide | simp [*]) (by repeat constructor) ?_
   refine aBld rfl (by repeat constructor) ?_
   refine ⟨?_, trivial⟩
   refine aLit st rfl (by repeat constructor) fun b145 H51 st => ?_
   refine ⟨⟨(h_LdA st 3 rfl rfl (by first | decide | simp [*]) (by repeat constructor)), (h_Ld st 5 rfl rfl rfl (by constructor)), trivial⟩, ?_⟩
   refine ⟨?_, trivial⟩
   have st := st.nil 76
   have hnil : (Value.slice none 0 0) = accV none 0 12 := rfl
   refine aAppP st 0 (ob := none) (n := 0) rfl rfl rfl (by decide) (rfl) (st.rowAll 1 rfl (by first | rfl | (simp [beB_len, *]; done) | (simp [beB_len, *]; omega))).src (rfl) (by decide) (by decide) (by decide) (by repeat constructor) fun b146 H52 st => ?_
   refine ⟨⟨(h_LdA st 4 rfl rfl (by first | decide | simp [*]) (by repeat constructor)), trivial⟩, ?_⟩
   iterate 2 refine aN rfl rfl (by constructor) ?_
   refine ⟨?_, trivial⟩
   refine aSt st 6 rfl rfl rfl rfl (by first | rfl | simp [cellsOf, *]) (by first | decide | (simp [*]; done) | (simp [k8]; done)) (by repeat constructor) fun H53 st => ?_
   refine ⟨trivial, ?_⟩
   refine pE ?_
   show AWl _ _ _ _ _
   iterate 4 refine aN rfl rfl (by constructor) ?_
   refine aLd st 6 rfl rfl rfl (by constructor) ?_
   refine aN (v := .int .i64 1) rfl rfl (by constructor) ?_
   refine aBinV (.int .i64 0) rfl rfl (rfl) ?_
   refine aC (ask_call (st.get (j := 6) rfl) (st.get (j := 0) rfl) (by have := st.ne 0 6 rfl rfl (by decide); simpa using this)) fun v156 H54 ⟨hv, st1⟩ => ?_
   subst hv
   replace st := st.call2 (o1 := some b) (o2 := some b146) 6 0 rfl rfl st1 rfl
   clear st1
   refine aLit st rfl (by repeat constructor) fun b157 H55 st => ?_
   iterate 2 refine aN rfl rfl (by constructor) ?_
   refine sE ?_
   refine ⟨_, out2 (r_tmp rfl (by constructor)) (r_tmp rfl (by constructor)) ⟨rfl, rfl⟩, ?_⟩
   exact ⟨b157, b146, b123, _, rfl, st.sel [1, 0, 2, 4] (by decide)⟩
  ·refine gF rfl (by decide) ?_
   refine gF rfl (by decide) ?_
   refine gF rfl (by decide) ?_
   refine gU rfl ?_
   refine gU rfl ?_
   refine gU rfl ?_
   refine gU rfl ?_
   refine gU rfl ?_
   refine gU rfl ?_
   refine gF rfl (by decide) ?_
   refine gF rfl (by decide) ?_
   refine gU rfl ?_
   refine gU rfl ?_
   refine gU rfl ?_
   refine gU rfl ?_
   refine gU rfl ?_
   refine gU rfl ?_
   refine gU rfl ?_
   refine gU rfl ?_
   refine gU rfl ?_
   refine gF rfl (by decide) ?_
   refine gF rfl (by decide) ?_
   refine gU rfl ?_
   refine gU rfl ?_
   refine gU rfl ?_
   refine gU rfl ?_
   refine gU rfl ?_
   refine gU rfl ?_
   refine gF rfl (by decide) ?_
   iterate 2 refine aN rfl rfl (by constructor) ?_
   refine pE ?_
   show AW _ (.cond _ _ _) _ _ _
   refine cF' rfl ?_
   show AWl _ _ _ _ _
   iterate 2 refine aN rfl rfl (by constructor) ?_
   refine gT rfl ?_
   refine aN rfl rfl (by constructor) ?_
   refine gT rfl ?_
   refine aLd st 0 rfl rfl rfl (by constructor) ?_
   refine gT rfl ?_
   refine aBinV (.bool false) rfl rfl (by exact congrArg (fun q => some (Value.bool q)) (decide_eq_false (by omega))) ?_
   iterate 2 refine aN rfl rfl (by constructor) ?_
   refine sE ?_
   show AW _ (.cond _ _ _) _ _ _
   refine cF' rfl ?_
   show AWp _ _ _ _ _
   iterate 4 refine aN rfl rfl (by constructor) ?_
   refine aLd st 2 rfl rfl rfl (by constructor) ?_
   refine aN rfl rfl (by constructor) ?_
   refine aLd st 0 rfl rfl rfl (by constructor) ?_
   refine aN rfl rfl (by constructor) ?_
   refine aLd st 0 rfl rfl rfl (by constructor) ?_
   refine aN rfl rfl (by constructor) ?_
   refine aLd st 0 rfl rfl rfl (by constructor) ?_
   refine aN rfl rfl (by constructor) ?_
   refine aLd st 1 rfl rfl rfl (by constructor) ?_
   refine aBinV (.int .u8 32) rfl rfl (rfl) ?_
   refine aBld rfl (by repeat constructor) ?_
   refine ⟨?_, trivial⟩
   refine aLit st rfl (by repeat constructor) fun b122 H56 st => ?_
   refine ⟨⟨(h_Ld st 2 rfl rfl rfl (by constructor)), (h_Ld st 1 rfl rfl rfl (by constructor)), (h_Ld st 1 rfl rfl rfl (by constructor)), (h_Ld st 1 rfl rfl rfl (by constructor)), (h_Ld st 3 rfl rfl rfl (by constructor)), trivial⟩, ?_⟩
   refine ⟨?_, trivial⟩
   have st := st.nil 41
   have hnil : (Value.slice none 0 0) = accV none 0 8 := rfl
   refine aAppP st 0 (ob := none) (n := 0) rfl rfl rfl (by decide) (rfl) (st.rowAll 1 rfl (by first | rfl | (simp [beB_len, *]; done) | (simp [beB_len, *]; omega))).src (rfl) (by decide) (by decide) (by decide) (by repeat constructor) fun b123 H57 st => ?_
   refine ⟨⟨(h_Ld st 3 rfl rfl rfl (by constructor)), (h_Ld st 2 rfl rfl rfl (by constructor)), (h_Ld st 2 rfl rfl rfl (by constructor)), (h_Ld st 2 rfl rfl rfl (by constructor)), trivial⟩, ?_⟩
   iterate 2 refine aN rfl rfl (by constructor) ?_
   refine ⟨?_, trivial⟩
   refine aSt st 4 rfl rfl rfl rfl (by first | rfl | simp [cellsOf, *]) (by first | decide | (simp [*]; done) | (simp [k8]; done)) (by repeat constructor) fun H58 st => ?_
   refine ⟨trivial, ?_⟩
   refine pE ?_
   show AWl _ _ _ _ _
   iterate 3 refine aN rfl rfl (by constructor) ?_
   refine gT rfl ?_
   refine aN rfl rfl (by constructor) ?_
   refine gT rfl ?_
   refine aLd st 3 rfl rfl rfl (by constructor) ?_
   refine gT rfl ?_
   refine aN (v := .int .i64 (kn : Int)) rfl rfl (by constructor) ?_
   refine gT rfl ?_
   refine aN rfl rfl (by constructor) ?_
   refine gT rfl ?_
   refine aLd st 2 rfl rfl rfl (by constructor) ?_
   refine gT rfl ?_
   refine aBinV (.bool false) rfl rfl (by exact congrArg (fun q => some (Value.bool q)) (beq_eq_false_iff_ne.2 (by omega))) ?_
   refine aN rfl rfl (by constructor) ?_
   refine sE ?_
   show AW _ (.cond _ _ _) _ _ _
   refine cF' rfl ?_
   show AWp _ _ _ _ _
   iterate 4 refine aN rfl rfl (by constructor) ?_
   refine aLd st 4 rfl rfl rfl (by constructor) ?_
   refine aLdA st 2 rfl rfl (by first | decide | simp [*]) (by repeat constructor) ?_
   refine aBld rfl (by repeat constructor) ?_
   refine ⟨?_, trivial⟩
   refine aLit st rfl (by repeat constructor) fun b145 H59 st => ?_
   refine ⟨⟨(h_LdA st 3 rfl rfl (by first | decide | simp [*]) (by repeat constructor)), (h_Ld st 5 rfl rfl rfl (by constructor)), trivial⟩, ?_⟩
   refine ⟨?_, trivial⟩
   have st := st.nil 76
   have hnil : (Value.slice none 0 0) = accV none 0 12 := rfl
   refine aAppP st 0 (ob := none) (n := 0) rfl rfl rfl (by decide) (rfl) (st.rowAll 1 rfl (by first | rfl | (simp [beB_len, *]; done) | (simp [beB_len, *]; omega))).src (rfl) (by decide) (by decide) (by decide) (by repeat constructor) fun b146 H60 st => ?_
   refine ⟨⟨(h_LdA st 4 rfl rfl (by first | decide | simp [*]) (by repeat constructor)), trivial⟩, ?_⟩
   iterate 2 refine aN rfl rfl (by constructor) ?_
   refine ⟨?_, trivial⟩
   refine aSt st 6 rfl rfl rfl rfl (by first | rfl | simp [cellsOf, *]) (by first | decide | (simp [*]; done) | (simp [k8]; done)) (by repeat constructor) fun H61 st => ?_
   refine ⟨trivial, ?_⟩
   refine pE ?_
   show AWl _ _ _ _ _
   iterate 4 refine aN rfl rfl (by constructor) ?_
   refine aLd st 6 rfl rfl rfl (by constructor) ?_
   refine aN (v := .int .i64 1) rfl rfl (by constructor) ?_
   refine aBinV (.int .i64 0) rfl rfl (rfl) ?_
   refine aC (ask_call (st.get (j := 6) rfl) (st.get (j := 0) rfl) (by have := st.ne 0 6 rfl rfl (by decide); simpa using this)) fun v156 H62 ⟨hv, st1⟩ => ?_
   subst hv
   replace st := st.call2 (o1 := some b) (o2 := some b146) 6 0 rfl rfl st1 rfl
   clear st1
   refine aLit st rfl (by repeat constructor) fun b157 H63 st => ?_
   iterate 2 refine aN rfl rfl (by constructor) ?_
   refine sE ?_
   refine ⟨_, out2 (r_tmp rfl (by constructor)) (r_tmp rfl (by constructor)) ⟨rfl, rfl⟩, ?_⟩
   exact ⟨b157, b146, b123, _, rfl, st.sel [1, 0, 2, 4] (by decide)⟩
theorem do_w {H : Hp} {b kn cx : Nat} {cmd stat tag n w1 w3 : Int} {hd : Value} {px : Option Addr} (hk : H.m b = some ⟨true, 64, [.string ⟨#[]⟩, .string ⟨#[116]⟩, .bool false, .bool false, .bool false, .int .i64 sg, .int .i64 bu, .int .i64 65536, .bool true, .bool true, .slice none 0 0, .int .u32 cmd, .int .u32 stat, .int .u32 tg, hd, .slice none 0 0, .bool false, .slice none 0 0]⟩) (hn : (kn : Int) < n ∧ n ≤ 65536) :
  ACalls Try.prog 23 [.pointer (some ⟨b, 0, none⟩), .agg #[.int .u8 1, .int .u8 161, .int .u8 0, .int .u8 0, .int .u8 0, .int .u32 tag, .int .u32 n, .int .u32 w1, .int .u32 0, .int .u32 w3, .int .u32 0, .int .u32 0, .int .u32 0, .slice px kn cx]] H (fun v H' => ∃ (c wb rb : Nat) (cdb : Value), v = .tuple #[.slice (some ⟨c, 0, none⟩) 1 14, .slice none 0 0] ∧ Stt [b] H H' [⟨some b, true, ⟨true, 64, [.string ⟨#[]⟩, .string ⟨#[116]⟩, .bool false, .bool false, .bool false, .int .i64 sg, .int .i64 bu, .int .i64 65536, .bool true, .bool true, .slice none 0 0, .int .u32 cmd, .int .u32 stat, .int .u32 (IntKind.u32.wrap (tg + 1)), hd, .slice (some ⟨wb, 0, none⟩) 1 12, .bool false, .slice (some ⟨rb, 0, none⟩) 1 8]⟩⟩, ⟨some c, true, ⟨true, 37, [.int .u8 49, .int .u8 128, .int .u8 0, .int .u8 0, .int .u8 0, .int .u32 tag, .int .u32 (IntKind.u32.wrap (tg + 1)), .int .u32 stat, .int .u32 cmd, .int .u32 (IntKind.u32.wrap (IntKind.u32.wrap (cmd + 16) - 1)), .int .u32 0, .int .u32 (IntKind.u32.wrap (kn : Int)), .int .u32 (IntKind.u32.wrap (if IntKind.i64.wrap (n - (kn : Int)) < (if bu < 1 then 1 else bu) then IntKind.i64.wrap (n - (kn : Int)) else (if bu < 1 then 1 else bu))), .slice none 0 0]⟩⟩, ⟨some wb, true, ⟨true, 76, [.int .u32 tag, .int .u8 0, .int .u8 0, cdb, .slice px kn cx, .int .i64 n, .int .u8 0, .int .u32 0, .int .u32 (IntKind.u32.wrap (tg + 1)), .int .i64 (kn : Int), .int .i64 (if IntKind.i64.wrap (n - (kn : Int)) < (if bu < 1 then 1 else bu) then IntKind.i64.wrap (n - (kn : Int)) else (if bu < 1 then 1 else bu)), .int .u32 (IntKind.u32.wrap (0 + 1))]⟩⟩, ⟨some rb, true, ⟨true, 41, [.int .u32 tag, .int .u8 0, .int .u8 0, .slice none 0 0, .slice none 0 0, .int .i64 n, .int .u8 32, .int .u32 0]⟩⟩]) := by
 refine acallsW Try.func23 f23_ok (Nat.le_of_ble_eq_true rfl) fun hw => ?_
 have st : Stt [b] H H [] := Stt.start hw
 replace st := st.mine hk rfl (by simp) (by simp)
 unfold f23c
 show AWl _ _ _ _ _
 refine aBoxN st rfl rfl (by repeat constructor) rfl fun b3 H1 st => ?_
 iterate 2 refine aN rfl rfl (by constructor) ?_
 refine sE ?_
 show AWl _ _ _ _ _
 refine aN rfl rfl (by constructor) ?_
 refine aLd st 0 rfl rfl rfl (by constructor) ?_
 refine aBinV (.int .u8 1) rfl rfl (rfl) ?_
 refine sE ?_
 show AWl _ _ _ _ _
 refine aBinV (.bool false) rfl rfl rfl ?_
 refine aN rfl rfl (by constructor) ?_
 refine sE ?_
 show AW _ (.cond _ _ _) _ _ _
 refine cF' rfl ?_
 show AWl _ _ _ _ _
 refine aBinV (.bool false) rfl rfl rfl ?_
 refine aN rfl rfl (by constructor) ?_
 refine sE ?_
 show AW _ (.cond _ _ _) _ _ _
 refine cF' rfl ?_
 show AWl _ _ _ _ _
 refine aBinV (.bool false) rfl rfl rfl ?_
 refine aN rfl rfl (by constructor) ?_
 refine sE ?_
 show AW _ (.cond _ _ _) _ _ _
 refine cF' rfl ?_
 show AWl _ _ _ _ _
 refine aBinV (.bool false) rfl rfl rfl ?_
 refine aN rfl rfl (by constructor) ?_
 refine sE ?_
 show AW _ (.cond _ _ _) _ _ _
 refine cF' rfl ?_
 show AWl _ _ _ _ _
 refine aN rfl rfl (by constructor) ?_
 refine aLdA st 0 rfl rfl (by first | decide | simp [*]) (by repeat constructor) ?_
 refine aC (command_w (st.get (j := 1) rfl) hn) fun v67 H2 ⟨c67, wb, rb, cdb, hv, st1⟩ => ?_
 subst hv
 replace st := st.callX 1 rfl st1 rfl
 clear st1
 iterate 4 refine aN rfl rfl (by constructor) ?_
 refine sE ?_
 refine ⟨_, out2 (r_tmp rfl (by constructor)) (r_tmp rfl (by constructor)) ⟨rfl, rfl⟩, ?_⟩
 exact ⟨c67, wb, rb, cdb, rfl, st.sel [0, 1, 2, 3] (by decide)⟩
theorem in_w {H : Hp} {b kn cx : Nat} {cmd stat tag n w3 : Int} {px : Option Addr} (hk : H.m b = some ⟨true, 64, [.string ⟨#[]⟩, .string ⟨#[116]⟩, .bool false, .bool false, .bool false, .int .i64 sg, .int .i64 bu, .int .i64 65536, .bool true, .bool true, .slice none 0 0, .int .u32 cmd, .int .u32 stat, .int .u32 tg, .slice none 0 0, .slice none 0 0, .bool false, .slice none 0 0]⟩) (hn : (kn : Int) < n ∧ n ≤ 65536) :
  ACalls Try.prog 13 [.pointer (some ⟨b, 0, none⟩), .agg #[.int .u8 1, .int .u8 161, .int .u8 0, .int .u8 0, .int .u8 0, .int .u32 tag, .int .u32 n, .int .u32 cmd, .int .u32 0, .int .u32 w3, .int .u32 0, .int .u32 0, .int .u32 0, .slice px kn cx]] H (fun v H' => ∃ (c wb rb : Nat) (cdb : Value), v = .tuple #[.slice (some ⟨c, 0, none⟩) 1 14, .slice none 0 0] ∧ Stt [b] H H' [⟨some b, true, ⟨true, 64, [.string ⟨#[]⟩, .string ⟨#[116]⟩, .bool false, .bool false, .bool false, .int .i64 sg, .int .i64 bu, .int .i64 65536, .bool true, .bool true, .slice none 0 0, .int .u32 (IntKind.u32.wrap (cmd + 1)), .int .u32 stat, .int .u32 (IntKind.u32.wrap (tg + 1)), .slice none 0 0, .slice (some ⟨wb, 0, none⟩) 1 12, .bool false, .slice (some ⟨rb, 0, none⟩) 1 8]⟩⟩, ⟨some c, true, ⟨true, 37, [.int .u8 49, .int .u8 128, .int .u8 0, .int .u8 0, .int .u8 0, .int .u32 tag, .int .u32 (IntKind.u32.wrap (tg + 1)), .int .u32 stat, .int .u32 (IntKind.u32.wrap (cmd + 1)), .int .u32 (IntKind.u32.wrap (IntKind.u32.wrap ((IntKind.u32.wrap (cmd + 1)) + 16) - 1)), .int .u32 0, .int .u32 (IntKind.u32.wrap (kn : Int)), .int .u32 (IntKind.u32.wrap (if IntKind.i64.wrap (n - (kn : Int)) < (if bu < 1 then 1 else bu) then IntKind.i64.wrap (n - (kn : Int)) else (if bu < 1 then 1 else bu))), .slice none 0 0]⟩⟩, ⟨some wb, true, ⟨true, 76, [.int .u32 tag, .int .u8 0, .int .u8 0, cdb, .slice px kn cx, .int .i64 n, .int .u8 0, .int .u32 0, .int .u32 (IntKind.u32.wrap (tg + 1)), .int .i64 (kn : Int), .int .i64 (if IntKind.i64.wrap (n - (kn : Int)) < (if bu < 1 then 1 else bu) then IntKind.i64.wrap (n - (kn : Int)) else (if bu < 1 then 1 else bu)), .int .u32 (IntKind.u32.wrap (0 + 1))]⟩⟩, ⟨some rb, true, ⟨true, 41, [.int .u32 tag, .int .u8 0, .int .u8 0, .slice none 0 0, .slice none 0 0, .int .i64 n, .int .u8 32, .int .u32 0]⟩⟩]) := by
 refine acallsW Try.func13 f13_ok (Nat.le_of_ble_eq_true rfl) fun hw => ?_
 have st : Stt [b] H H [] := Stt.start hw
 replace st := st.mine hk rfl (by simp) (by simp)
 unfold f13c
 show AWl _ _ _ _ _
 refine aBoxN st rfl rfl (by repeat constructor) rfl fun b3 H1 st => ?_
 iterate 2 refine aN rfl rfl (by constructor) ?_
 refine sE ?_
 show AWl _ _ _ _ _
 refine aN rfl rfl (by constructor) ?_
 refine aBinV (.bool false) rfl rfl rfl ?_
 refine aN rfl rfl (by constructor) ?_
 refine gT rfl ?_
 refine aN rfl rfl (by constructor) ?_
 refine gT rfl ?_
 refine aN rfl rfl (by constructor) ?_
 refine gT rfl ?_
 refine aN rfl rfl (by constructor) ?_
 refine gT rfl ?_
 refine aLd st 1 rfl rfl rfl (by constructor) ?_
 refine aN rfl rfl (by constructor) ?_
 refine sE ?_
 show AW _ (.cond _ _ _) _ _ _
 refine cF' rfl ?_
 show AWp _ _ _ _ _
 refine aN rfl rfl (by constructor) ?_
 refine aLd st 0 rfl rfl rfl (by constructor) ?_
 refine aBinV (.int .u8 1) rfl rfl (rfl) ?_
 refine aN rfl rfl (by constructor) ?_
 refine aLd st 0 rfl rfl rfl (by constructor) ?_
 refine aBinV (.int .u8 0) rfl rfl (rfl) ?_
 refine aBinV (.bool false) rfl rfl rfl ?_
 iterate 2 refine aN rfl rfl (by constructor) ?_
 refine pE ?_
 show AWl _ _ _ _ _
 refine aN rfl rfl (by constructor) ?_
 refine aBinV (.bool false) rfl rfl rfl ?_
 refine aN rfl rfl (by constructor) ?_
 refine sE ?_
 show AW _ (.cond _ _ _) _ _ _
 refine cF' rfl ?_
 show AWl _ _ _ _ _
 refine aN rfl rfl (by constructor) ?_
 refine aBinV (.bool true) rfl rfl rfl ?_
 refine aN rfl rfl (by constructor) ?_
 refine gT rfl ?_
 refine aN rfl rfl (by constructor) ?_
 refine gT rfl ?_
 refine aBinV (.bool false) rfl rfl rfl ?_
 iterate 2 refine aN rfl rfl (by constructor) ?_
 refine gF rfl (by decide) ?_
 refine gF rfl (by decide) ?_
 iterate 2 refine aN rfl rfl (by constructor) ?_
 refine gF rfl (by decide) ?_
 refine gF rfl (by decide) ?_
 iterate 2 refine aN rfl rfl (by constructor) ?_
 refine gF rfl (by decide) ?_
 refine gF rfl (by decide) ?_
 iterate 2 refine aN rfl rfl (by constructor) ?_
 refine gT rfl ?_
 refine aN rfl rfl (by constructor) ?_
 refine gT rfl ?_
 refine aLd st 0 rfl rfl rfl (by constructor) ?_
 refine gT rfl ?_
 refine aBinV (.int .u8 0) rfl rfl (rfl) ?_
 refine gT rfl ?_
 refine aBinV (.bool false) rfl rfl rfl ?_
 iterate 2 refine aN rfl rfl (by constructor) ?_
 refine sE ?_
 show AW _ (.cond _ _ _) _ _ _
 refine cF' rfl ?_
 show AWl _ _ _ _ _
 iterate 2 refine aN rfl rfl (by constructor) ?_
 refine sE ?_
 show AW _ (.cond _ _ _) _ _ _
 refine cF' rfl ?_
 show AWp _ _ _ _ _
 iterate 2 refine aN rfl rfl (by constructor) ?_
 refine aLd st 0 rfl rfl rfl (by constructor) ?_
 iterate 3 refine aN rfl rfl (by constructor) ?_
 refine aLd st 1 rfl rfl rfl (by constructor) ?_
 refine aBinV (.int .u32 0) rfl rfl (by show some (Value.int .u32 (IntKind.u32.wrap (cmd - cmd))) = _; rw [Int.sub_self]; rfl) ?_
 refine aBinV (.bool false) rfl rfl rfl ?_
 refine aN rfl rfl (by constructor) ?_
 refine pE ?_
 show AW _ (.cond _ _ _) _ _ _
 refine cF' rfl ?_
 show AWl _ _ _ _ _
 iterate 3 refine aN rfl rfl (by constructor) ?_
 refine aLd st 1 rfl rfl rfl (by constructor) ?_
 refine aN (v := .int .i64 0) rfl rfl (by constructor) ?_
 refine aN rfl rfl (by constructor) ?_
 refine sE ?_
 show AW _ (.loop _) _ _ _
 refine AW_loopN (fun m t1 H1 => m = 0 ∧ t1 89 = .int .i64 0 ∧ Stt [b] H H1 [⟨some b3, true, ⟨true, 37, [.int .u8 1, .int .u8 161, .int .u8 0, .int .u8 0, .int .u8 0, .int .u32 tag, .int .u32 n, .int .u32 cmd, .int .u32 0, .int .u32 w3, .int .u32 0, .int .u32 0, .int .u32 0, .slice px kn cx]⟩⟩, ⟨some b, true, ⟨true, 64, [.string ⟨#[]⟩, .string ⟨#[116]⟩, .bool false, .bool false, .bool false, .int .i64 sg, .int .i64 bu, .int .i64 65536, .bool true, .bool true, .slice none 0 0, .int .u32 cmd, .int .u32 stat, .int .u32 tg, .slice none 0 0, .slice none 0 0, .bool false, .slice none 0 0]⟩⟩]) 0 ⟨rfl, rfl, (st.sel [0, 1] (by decide))⟩ [4, 5, 9, 89, 90, 91, 92, 93, 94, 95, 96, 97, 98, 99, 100] (by decide) ?_
 rintro m t1 H1 hk hI
 obtain ⟨rfl, ht89, st⟩ := hI
 obtain ⟨u, rfl⟩ : ∃ u, t1 = (upd (mix [4, 5, 9, 89, 90, 91, 92, 93, 94, 95, 96, 97, 98, 99, 100] _ u) (some 89) _) := ⟨t1, by rw [← hk, upd_self ht89]⟩
 clear hk ht89
 show AWl _ _ _ _ _
 refine aBinV (.bool false) rfl rfl rfl ?_
 refine sE ?_
 show AW _ (.cond _ _ _) _ _ _
 refine cF' rfl ?_
 show AWp _ _ _ _ _
 iterate 4 refine aN rfl rfl (by constructor) ?_
 refine aLd st 1 rfl rfl rfl (by constructor) ?_
 refine aLdA st 0 rfl rfl (by first | decide | simp [*]) (by repeat constructor) ?_
 refine ⟨?_, trivial⟩
 refine aLit st rfl (by repeat constructor) fun b107 H2 st => ?_
 refine ⟨⟨(h_Ld st 2 rfl rfl rfl (by constructor)), trivial⟩, ?_⟩
 refine ⟨?_, trivial⟩
 have st := st.nil 37
 have hnil : (Value.slice none 0 0) = accV none 0 14 := rfl
 refine aAppP st 0 (ob := none) (n := 0) rfl rfl rfl (by decide) (rfl) (st.rowAll 1 rfl (by first | rfl | (simp [beB_len, *]; done) | (simp [beB_len, *]; omega))).src (rfl) (by decide) (by decide) (by decide) (by repeat constructor) fun b108 H3 st => ?_
 obtain ⟨bh, rfl⟩ : ∃ bh, bh = b108 := ⟨b108, rfl⟩
 refine ⟨⟨(h_LdA st 2 rfl rfl (by first | decide | simp [*]) (by repeat constructor)), trivial⟩, ?_⟩
 iterate 2 refine aN rfl rfl (by constructor) ?_
 refine ⟨?_, trivial⟩
 refine aSt st 3 rfl rfl rfl rfl (by first | rfl | simp [cellsOf, *]) (by first | decide | (simp [*]; done) | (simp [k8]; done)) (by repeat constructor) fun H4 st => ?_
 refine ⟨trivial, ?_⟩
 refine pE ?_
 show AWl _ _ _ _ _
 refine aN rfl rfl (by constructor) ?_
 refine sE ?_
 show AWl _ _ _ _ _
 refine aN rfl rfl (by constructor) ?_
 refine sE ?_
 show AW _ (.loop _) _ _ _
 refine AW_loopN (fun m t1 H1 => (m = 1 ∧ t1 10 = .slice none 0 0 ∧ t1 11 = .slice none 0 0 ∧ Stt [b] H H1 [⟨some b, true, ⟨true, 64, [.string ⟨#[]⟩, .string ⟨#[116]⟩, .bool false, .bool false, .bool false, .int .i64 sg, .int .i64 bu, .int .i64 65536, .bool true, .bool true, .slice none 0 0, .int .u32 cmd, .int .u32 stat, .int .u32 tg, .slice (some ⟨bh, 0, none⟩) 1 14, .slice none 0 0, .bool false, .slice none 0 0]⟩⟩, ⟨some bh, true, ⟨true, 37, [.int .u8 1, .int .u8 161, .int .u8 0, .int .u8 0, .int .u8 0, .int .u32 tag, .int .u32 n, .int .u32 cmd, .int .u32 0, .int .u32 w3, .int .u32 0, .int .u32 0, .int .u32 0, .slice px kn cx]⟩⟩]) ∨ (m = 0 ∧ ∃ (ct wb rb : Nat) (cdb : Value), t1 10 = .slice (some ⟨ct, 0, none⟩) 1 14 ∧ t1 11 = .slice none 0 0 ∧ Stt [b] H H1 [⟨some b, true, ⟨true, 64, [.string ⟨#[]⟩, .string ⟨#[116]⟩, .bool false, .bool false, .bool false, .int .i64 sg, .int .i64 bu, .int .i64 65536, .bool true, .bool true, .slice none 0 0, .int .u32 (IntKind.u32.wrap (cmd + 1)), .int .u32 stat, .int .u32 (IntKind.u32.wrap (tg + 1)), .slice none 0 0, .slice (some ⟨wb, 0, none⟩) 1 12, .bool false, .slice (some ⟨rb, 0, none⟩) 1 8]⟩⟩, ⟨some ct, true, ⟨true, 37, [.int .u8 49, .int .u8 128, .int .u8 0, .int .u8 0, .int .u8 0, .int .u32 tag, .int .u32 (IntKind.u32.wrap (tg + 1)), .int .u32 stat, .int .u32 (IntKind.u32.wrap (cmd + 1)), .int .u32 (IntKind.u32.wrap (IntKind.u32.wrap ((IntKind.u32.wrap (cmd + 1)) + 16) - 1)), .int .u32 0, .int .u32 (IntKind.u32.wrap (kn : Int)), .int .u32 (IntKind.u32.wrap (if IntKind.i64.wrap (n - (kn : Int)) < (if bu < 1 then 1 else bu) then IntKind.i64.wrap (n - (kn : Int)) else (if bu < 1 then 1 else bu))), .slice none 0 0]⟩⟩, ⟨some wb, true, ⟨true, 76, [.int .u32 tag, .int .u8 0, .int .u8 0, cdb, .slice px kn cx, .int .i64 n, .int .u8 0, .int .u32 0, .int .u32 (IntKind.u32.wrap (tg + 1)), .int .i64 (kn : Int), .int .i64 (if IntKind.i64.wrap (n - (kn : Int)) < (if bu < 1 then 1 else bu) then IntKind.i64.wrap (n - (kn : Int)) else (if bu < 1 then 1 else bu)), .int .u32 (IntKind.u32.wrap (0 + 1))]⟩⟩, ⟨some rb, true, ⟨true, 41, [.int .u32 tag, .int .u8 0, .int .u8 0, .slice none 0 0, .slice none 0 0, .int .i64 n, .int .u8 32, .int .u32 0]⟩⟩])) 1 (.inl ⟨rfl, rfl, rfl, (st.sel [3, 0] (by decide))⟩) [4, 5, 10, 11, 12, 13, 14, 15, 111, 112, 113, 114, 115, 116, 117, 118, 119, 120, 121, 122, 123, 124, 125, 126, 127, 128, 129, 130, 131, 132, 133, 134, 135, 136, 137, 138, 139, 140, 141, 142, 143, 144, 145, 146, 147, 148, 149, 150, 151, 152, 153, 154, 155, 156, 157, 158, 159, 160, 161, 162, 163, 164, 165] (by decide) ?_
 rintro m t1 H1 hk hI
 rcases hI with ⟨rfl, hI⟩ | ⟨rfl, hI⟩
 ·obtain ⟨ht10, ht11, st⟩ := hI
  obtain ⟨u, rfl⟩ : ∃ u, t1 = (upd (upd (mix [4, 5, 10, 11, 12, 13, 14, 15, 111, 112, 113, 114, 115, 116, 117, 118, 119, 120, 121, 122, 123, 124, 125, 126, 127, 128, 129, 130, 131, 132, 133, 134, 135, 136, 137, 138, 139, 140, 141, 142, 143, 144, 145, 146, 147, 148, 149, 150, 151, 152, 153, 154, 155, 156, 157, 158, 159, 160, 161, 162, 163, 164, 165] _ u) (some 10) _) (some 11) _) := ⟨t1, by rw [← hk, upd_self ht10, upd_self ht11]⟩
  clear hk ht10 ht11
  show AWl _ _ _ _ _
  iterate 3 refine aN rfl rfl (by constructor) ?_
  refine aLd st 0 rfl rfl rfl (by constructor) ?_
  refine aN (v := .int .i64 1) rfl rfl (by constructor) ?_
  refine aN rfl rfl (by constructor) ?_
  refine sE ?_
  show AW _ (.loop _) _ _ _
  refine AW_loopN (fun m t1 H1 => m = 0 ∧ t1 116 = .int .i64 0 ∧ t1 10 = .slice none 0 0 ∧ t1 11 = .slice none 0 0 ∧ Stt [b] H H1 [⟨some b, true, ⟨true, 64, [.string ⟨#[]⟩, .string ⟨#[116]⟩, .bool false, .bool false, .bool false, .int .i64 sg, .int .i64 bu, .int .i64 65536, .bool true, .bool true, .slice none 0 0, .int .u32 cmd, .int .u32 stat, .int .u32 tg, .slice (some ⟨bh, 0, none⟩) 1 14, .slice none 0 0, .bool false, .slice none 0 0]⟩⟩, ⟨some bh, true, ⟨true, 37, [.int .u8 1, .int .u8 161, .int .u8 0, .int .u8 0, .int .u8 0, .int .u32 tag, .int .u32 n, .int .u32 cmd, .int .u32 0, .int .u32 w3, .int .u32 0, .int .u32 0, .int .u32 0, .slice px kn cx]⟩⟩]) 0 ⟨rfl, rfl, rfl, rfl, (st.sel [0, 1] (by decide))⟩ [10, 11, 12, 13, 14, 15, 116, 117, 118, 119, 120, 121, 122, 123, 124, 125, 126, 127, 128, 129, 130, 131, 132, 133, 134, 135, 136, 137, 138, 139, 140, 141, 142, 143, 144, 145, 146, 147, 148, 149, 150, 151, 152, 153, 154, 155, 156, 157, 158, 159, 160, 161, 162, 163] (by decide) ?_
  rintro m t1 H1 hk hI
  obtain ⟨rfl, ht116, ht10, ht11, st⟩ := hI
  obtain ⟨u, rfl⟩ : ∃ u, t1 = (upd (upd (upd (mix [10, 11, 12, 13, 14, 15, 116, 117, 118, 119, 120, 121, 122, 123, 124, 125, 126, 127, 128, 129, 130, 131, 132, 133, 134, 135, 136, 137, 138, 139, 140, 141, 142, 143, 144, 145, 146, 147, 148, 149, 150, 151, 152, 153, 154, 155, 156, 157, 158, 159, 160, 161, 162, 163] _ u) (some 116) _) (some 10) _) (some 11) _) := ⟨t1, by rw [← hk, upd_self ht116, upd_self ht10, upd_self ht11]⟩
  clear hk ht116 ht10 ht11
  show AWl _ _ _ _ _
  refine aBinV (.bool true) rfl rfl rfl ?_
  refine sE ?_
  show AW _ (.cond _ _ _) _ _ _
  refine cT rfl ?_
  show AWl _ _ _ _ _
  iterate 2 refine aN rfl rfl (by constructor) ?_
  refine aLdA st 1 rfl rfl (by first | decide | simp [*]) (by repeat constructor) ?_
  refine aNewP st rfl rfl (by repeat constructor) fun b13 H5 st => ?_
  refine aN rfl rfl (by constructor) ?_
  refine aSt st 0 rfl rfl rfl rfl (by first | rfl | simp [cellsOf, *]) (by first | decide | (simp [*]; done) | (simp [k8]; done)) (by repeat constructor) fun H6 st => ?_
  refine sE ?_
  show AWp _ _ _ _ _
  iterate 2 refine aN rfl rfl (by constructor) ?_
  refine aLd st 0 rfl rfl rfl (by constructor) ?_
  iterate 3 refine aN rfl rfl (by constructor) ?_
  refine aLd st 1 rfl rfl rfl (by constructor) ?_
  refine aBinV (.bool false) rfl rfl (ne_int) ?_
  refine aN rfl rfl (by constructor) ?_
  refine gT rfl ?_
  refine aN rfl rfl (by constructor) ?_
  refine gT rfl ?_
  refine aN rfl rfl (by constructor) ?_
  refine gT rfl ?_
  refine aN rfl rfl (by constructor) ?_
  refine gT rfl ?_
  refine aLd st 1 rfl rfl rfl (by constructor) ?_
  refine aN rfl rfl (by constructor) ?_
  refine pE ?_
  show AW _ (.cond _ _ _) _ _ _
  refine cF' rfl ?_
  show AWl _ _ _ _ _
  iterate 4 refine aN rfl rfl (by constructor) ?_
  refine aLd st 1 rfl rfl rfl (by constructor) ?_
  refine aN rfl rfl (by constructor) ?_
  refine aC (without_call) fun v141 H7 ⟨hv, st1⟩ => ?_
  subst hv
  replace st := st.call st1 rfl
  clear st1
  iterate 2 refine aN rfl rfl (by constructor) ?_
  refine aSt st 1 rfl rfl rfl rfl (by first | rfl | simp [cellsOf, *]) (by first | decide | (simp [*]; done) | (simp [k8]; done)) (by repeat constructor) fun H8 st => ?_
  refine sE ?_
  show AWl _ _ _ _ _
  iterate 3 refine aN rfl rfl (by constructor) ?_
  refine aLd st 1 rfl rfl rfl (by constructor) ?_
  iterate 3 refine aN rfl rfl (by constructor) ?_
  refine aSt st 1 rfl rfl rfl rfl (by first | rfl | simp [cellsOf, *]) (by first | decide | (simp [*]; done) | (simp [k8]; done)) (by repeat constructor) fun H9 st => ?_
  refine sE ?_
  show AWl _ _ _ _ _
  refine aN rfl rfl (by constructor) ?_
  refine aLdA st 0 rfl rfl (by first | decide | simp [*]) (by repeat constructor) ?_
  refine aC (do_w (st.get (j := 1) rfl) hn) fun v154 H10 ⟨c154, wb, rb, cdb, hv, st1⟩ => ?_
  subst hv
  replace st := st.callX 1 rfl st1 rfl
  clear st1
  iterate 5 refine aN rfl rfl (by constructor) ?_
  refine sE ?_
  show AWl _ _ _ _ _
  iterate 2 refine aN rfl rfl (by constructor) ?_
  have st := st.nil 37
  have hnil : (Value.slice none 0 0) = accV none 0 14 := rfl
  refine aAppP st 0 (ob := none) (n := 0) rfl rfl rfl (by decide) (rfl) (st.rowAll 2 rfl (rfl)).src (rfl) (by decide) (by decide) (by decide) (by repeat constructor) fun b159 H11 st => ?_
  iterate 2 refine aN rfl rfl (by constructor) ?_
  refine aN (v := .slice none 0 0) rfl rfl (by constructor) ?_
  iterate 2 refine aN rfl rfl (by constructor) ?_
  refine sE ?_
  exact ⟨0, by decide, .inr ⟨rfl, b159, wb, rb, cdb, rfl, rfl, (st.sel [1, 0, 3, 4] (by decide))⟩⟩
 ·obtain ⟨ct, wb, rb, cdb, ht10, ht11, st⟩ := hI
  obtain ⟨u, rfl⟩ : ∃ u, t1 = (upd (upd (mix [4, 5, 10, 11, 12, 13, 14, 15, 111, 112, 113, 114, 115, 116, 117, 118, 119, 120, 121, 122, 123, 124, 125, 126, 127, 128, 129, 130, 131, 132, 133, 134, 135, 136, 137, 138, 139, 140, 141, 142, 143, 144, 145, 146, 147, 148, 149, 150, 151, 152, 153, 154, 155, 156, 157, 158, 159, 160, 161, 162, 163, 164, 165] _ u) (some 10) _) (some 11) _) := ⟨t1, by rw [← hk, upd_self ht10, upd_self ht11]⟩
  clear hk ht10 ht11
  show AWl _ _ _ _ _
  iterate 3 refine aN rfl rfl (by constructor) ?_
  refine aLd st 0 rfl rfl rfl (by constructor) ?_
  refine aN (v := .int .i64 0) rfl rfl (by constructor) ?_
  refine aN rfl rfl (by constructor) ?_
  refine sE ?_
  show AW _ (.loop _) _ _ _
  refine AW_loopN (fun m t1 H1 => m = 0 ∧ t1 116 = .int .i64 0 ∧ t1 10 = .slice (some ⟨ct, 0, none⟩) 1 14 ∧ t1 11 = .slice none 0 0 ∧ Stt [b] H H1 [⟨some b, true, ⟨true, 64, [.string ⟨#[]⟩, .string ⟨#[116]⟩, .bool false, .bool false, .bool false, .int .i64 sg, .int .i64 bu, .int .i64 65536, .bool true, .bool true, .slice none 0 0, .int .u32 (IntKind.u32.wrap (cmd + 1)), .int .u32 stat, .int .u32 (IntKind.u32.wrap (tg + 1)), .slice none 0 0, .slice (some ⟨wb, 0, none⟩) 1 12, .bool false, .slice (some ⟨rb, 0, none⟩) 1 8]⟩⟩, ⟨some ct, true, ⟨true, 37, [.int .u8 49, .int .u8 128, .int .u8 0, .int .u8 0, .int .u8 0, .int .u32 tag, .int .u32 (IntKind.u32.wrap (tg + 1)), .int .u32 stat, .int .u32 (IntKind.u32.wrap (cmd + 1)), .int .u32 (IntKind.u32.wrap (IntKind.u32.wrap ((IntKind.u32.wrap (cmd + 1)) + 16) - 1)), .int .u32 0, .int .u32 (IntKind.u32.wrap (kn : Int)), .int .u32 (IntKind.u32.wrap (if IntKind.i64.wrap (n - (kn : Int)) < (if bu < 1 then 1 else bu) then IntKind.i64.wrap (n - (kn : Int)) else (if bu < 1 then 1 else bu))), .slice none 0 0]⟩⟩, ⟨some wb, true, ⟨true, 76, [.int .u32 tag, .int .u8 0, .int .u8 0, cdb, .slice px kn cx, .int .i64 n, .int .u8 0, .int .u32 0, .int .u32 (IntKind.u32.wrap (tg + 1)), .int .i64 (kn : Int), .int .i64 (if IntKind.i64.wrap (n - (kn : Int)) < (if bu < 1 then 1 else bu) then IntKind.i64.wrap (n - (kn : Int)) else (if bu < 1 then 1 else bu)), .int .u32 (IntKind.u32.wrap (0 + 1))]⟩⟩, ⟨some rb, true, ⟨true, 41, [.int .u32 tag, .int .u8 0, .int .u8 0, .slice none 0 0, .slice none 0 0, .int .i64 n, .int .u8 32, .int .u32 0]⟩⟩]) 0 ⟨rfl, rfl, rfl, rfl, (st.sel [0, 1, 2, 3] (by decide))⟩ [10, 11, 12, 13, 14, 15, 116, 117, 118, 119, 120, 121, 122, 123, 124, 125, 126, 127, 128, 129, 130, 131, 132, 133, 134, 135, 136, 137, 138, 139, 140, 141, 142, 143, 144, 145, 146, 147, 148, 149, 150, 151, 152, 153, 154, 155, 156, 157, 158, 159, 160, 161, 162, 163] (by decide) ?_
  rintro m t1 H1 hk hI
  obtain ⟨rfl, ht116, ht10, ht11, st⟩ := hI
  obtain ⟨u, rfl⟩ : ∃ u, t1 = (upd (upd (upd (mix [10, 11, 12, 13, 14, 15, 116, 117, 118, 119, 120, 121, 122, 123, 124, 125, 126, 127, 128, 129, 130, 131, 132, 133, 134, 135, 136, 137, 138, 139, 140, 141, 142, 143, 144, 145, 146, 147, 148, 149, 150, 151, 152, 153, 154, 155, 156, 157, 158, 159, 160, 161, 162, 163] _ u) (some 116) _) (some 10) _) (some 11) _) := ⟨t1, by rw [← hk, upd_self ht116, upd_self ht10, upd_self ht11]⟩
  clear hk ht116 ht10 ht11
  show AWl _ _ _ _ _
  refine aBinV (.bool false) rfl rfl rfl ?_
  refine sE ?_
  show AW _ (.cond _ _ _) _ _ _
  refine cF' rfl ?_
  show AWl _ _ _ _ _
  iterate 4 refine aN rfl rfl (by constructor) ?_
  refine sE ?_
  refine ⟨_, out2 (r_tmp rfl (by constructor)) (r_tmp rfl (by constructor)) ⟨rfl, rfl⟩, ?_⟩
  exact ⟨ct, wb, rb, cdb, rfl, st.sel [0, 1, 2, 3] (by decide)⟩
end Go.Proofs.Ytloeadlmcdddnaa.Abs
