/- Sessions: a command that reads. -/
import Derived.Test.YtloeadlmcdddnaaZ3
set_option linter.unusedVariables false
set_option linter.unusedSimpArgs false
set_option maxRecDepth 100000
namespace Go.Proofs.Ytloeadlmcdddnaa.Abs
open Go Go.RowKit
variable {tg sg bu : Int}
theorem Stt.cutAt {X : List Nat} {H0 H : Hp} {L : List Ent} {b o n c : Nat} {ok : Bool} {k : Blk} (st : Stt X H0 H L) (j : Nat) (hi : L[j]? = some ⟨some b, ok, k⟩) (hn : 0 < n) (hl : o + n ≤ k.cells.length) : Sl H 1 n ((k.cells.drop o).take n) (.slice (some ⟨b, o, none⟩) n c) := by
  have hg : H.get b 0 k.cells.length = some k.cells := by
    obtain ⟨_, ⟨h0, _⟩ | ⟨_, b', o', c', e, hg⟩⟩ := st.rowAll j (n := k.cells.length) (sz := 1) (c := 1) hi (by rw [Nat.mul_one])
    · omega
    · injection e with e1 e2 e3
      injection e1 with e1
      injection e1 with e1 e4
      subst e1 e4
      rwa [Nat.mul_one] at hg
  refine ⟨by rw [List.length_take, List.length_drop, Nat.mul_one]; omega, .inr ⟨hn, b, o, c, rfl, ?_⟩⟩
  have := get_part hg (o' := o) (n' := n) hl
  rw [Nat.mul_one]
  rwa [Nat.zero_add] at this
theorem command_call {H : Hp} {b : Nat} {cmd stat tag n w1 : Int} {hd : Value} (hk : H.m b = some ⟨true, 64, [.string ⟨#[]⟩, .string ⟨#[116]⟩, .bool false, .bool false, .bool false, .int .i64 sg, .int .i64 bu, .int .i64 65536, .bool true, .bool true, .slice none 0 0, .int .u32 cmd, .int .u32 stat, .int .u32 tg, hd, .slice none 0 0, .bool false, .slice none 0 0]⟩) :
  ACalls Try.prog 34 [.pointer (some ⟨b, 0, none⟩), .agg #[.int .u8 1, .int .u8 193, .int .u8 0, .int .u8 0, .int .u8 0, .int .u32 tag, .int .u32 n, .int .u32 w1, .int .u32 0, .int .u32 671088640, .int .u32 0, .int .u32 0, .int .u32 0, .slice none 0 0]] H (fun v H' => ∃ c oc rb, v = .tuple #[.slice none 0 0, .slice (some ⟨c, 0, none⟩) 1 8] ∧ Stt [b] H H' [⟨some b, true, ⟨true, 64, [.string ⟨#[]⟩, .string ⟨#[116]⟩, .bool false, .bool false, .bool false, .int .i64 sg, .int .i64 bu, .int .i64 65536, .bool true, .bool true, .slice none 0 0, .int .u32 cmd, .int .u32 stat, .int .u32 tg, hd, .slice none 0 0, .bool false, accV rb 1 8]⟩⟩, ⟨some c, true, ⟨true, 41, [.int .u32 tag, .int .u8 0, .int .u8 0, accV oc 16 1, .slice none 0 0, .int .i64 (IntKind.i64.wrap n), .int .u8 0, .int .u32 0]⟩⟩, ⟨oc, true, ⟨true, 5, (w4s [671088640, 0, 0, 0] 4).map (Value.int .u8)⟩⟩, ⟨rb, true, ⟨true, 41, [.int .u32 tag, .int .u8 0, .int .u8 0, .slice none 0 0, .slice none 0 0, .int .i64 (IntKind.i64.wrap n), .int .u8 64, .int .u32 0]⟩⟩]) := by
 refine acallsW Try.func34 f34_ok (Nat.le_of_ble_eq_true rfl) fun hw => ?_
 have st : Stt [b] H H [] := Stt.start hw
 replace st := st.mine hk rfl (by simp) (by simp)
 unfold f34c
 show AWl _ _ _ _ _
 refine aBoxN st rfl rfl (by repeat constructor) rfl fun b3 H1 st => ?_
 iterate 2 refine aN rfl rfl (by constructor) ?_
 refine sE ?_
 show AWp _ _ _ _ _
 refine aN rfl rfl (by constructor) ?_
 refine aLd st 0 rfl rfl rfl (by constructor) ?_
 refine aN rfl rfl (by constructor) ?_
 refine aLd st 0 rfl rfl rfl (by constructor) ?_
 refine aN rfl rfl (by constructor) ?_
 refine aLd st 0 rfl rfl rfl (by constructor) ?_
 iterate 3 refine aN rfl rfl (by constructor) ?_
 refine aLd st 0 rfl rfl rfl (by constructor) ?_
 iterate 2 refine aN rfl rfl (by constructor) ?_
 refine aLd st 0 rfl rfl rfl (by constructor) ?_
 refine aN rfl rfl (by constructor) ?_
 refine ⟨?_, ?_⟩
 ·refine aC (attr_call) fun v16 H2 ⟨hv, st1⟩ => ?_
  subst hv
  replace st := st.call st1 rfl
  clear st1
  refine ⟨⟨(h_Ld st 0 rfl rfl rfl (by constructor)), (h_Ld st 0 rfl rfl rfl (by constructor)), (h_Ld st 0 rfl rfl rfl (by constructor)), (h_Ld st 0 rfl rfl rfl (by constructor)), trivial⟩, ?_⟩
  refine ⟨?_, ?_⟩
  ·refine aC (wbytes_call (xs := [671088640, 0, 0, 0]) (Stt.cutAt st 0 (o := 9) (n := 4) rfl (by decide) (show 9 + 4 ≤ 14 by decide)) (by decide)) fun v19 H3 ⟨oc19, hv, st1⟩ => ?_
   subst hv
   replace st := st.call st1 rfl
   clear st1
   obtain ⟨bc, rfl⟩ := st.isSome 0 rfl (fun h => by cases h)
   have hw16 : (w4s [671088640, 0, 0, 0] ([671088640, 0, 0, 0] : List Int).length).length = 16 := rfl
   refine ⟨⟨(h_Ld st 1 rfl rfl rfl (by constructor)), (h_Ld st 1 rfl rfl rfl (by constructor)), (h_Ld st 1 rfl rfl rfl (by constructor)), (h_Ld st 1 rfl rfl rfl (by constructor)), (h_Ld st 1 rfl rfl rfl (by constructor)), trivial⟩, ?_⟩
   refine aBld rfl (by repeat constructor) ?_
   refine ⟨?_, trivial⟩
   refine aNewP st rfl rfl (by repeat constructor) fun b6 H4 st => ?_
   refine ⟨⟨(h_Ld st 2 rfl rfl rfl (by constructor)), (h_Ld st 2 rfl rfl rfl (by constructor)), (h_Ld st 2 rfl rfl rfl (by constructor)), (h_Ld st 2 rfl rfl rfl (by constructor)), (h_Ld st 2 rfl rfl rfl (by constructor)), trivial⟩, ?_⟩
   refine ⟨?_, trivial⟩
   refine aSt st 0 rfl rfl rfl rfl (by first | rfl | simp [cellsOf, *]) (by first | decide | (simp [*]; done) | (simp [k8]; done)) (by repeat constructor) fun H5 st => ?_
   refine ⟨trivial, ?_⟩
   refine pE ?_
   show AWl _ _ _ _ _
   refine aN rfl rfl (by constructor) ?_
   refine aLd st 2 rfl rfl rfl (by constructor) ?_
   refine aBinV (.int .u8 0) rfl rfl rfl ?_
   refine aBinV (.bool false) rfl rfl rfl ?_
   refine aN rfl rfl (by constructor) ?_
   refine sE ?_
   show AWl _ _ _ _ _
   iterate 3 refine aN rfl rfl (by constructor) ?_
   refine aLd st 3 rfl rfl rfl (by constructor) ?_
   refine aN (v := .int .i64 0) rfl rfl (by constructor) ?_
   refine aN rfl rfl (by constructor) ?_
   refine sE ?_
   show AW _ (.loop _) _ _ _
   refine AW_loopN (fun m t1 H1 => m = 0 ∧ t1 36 = .int .i64 0 ∧ Stt [b] H H1 [⟨some b6, true, ⟨true, 41, [.int .u32 tag, .int .u8 0, .int .u8 0, .slice (some ⟨bc, 0, none⟩) 16 1, .slice none 0 0, .int .i64 (IntKind.i64.wrap n), .int .u8 0, .int .u32 0]⟩⟩, ⟨some b3, true, ⟨true, 37, [.int .u8 1, .int .u8 193, .int .u8 0, .int .u8 0, .int .u8 0, .int .u32 tag, .int .u32 n, .int .u32 w1, .int .u32 0, .int .u32 671088640, .int .u32 0, .int .u32 0, .int .u32 0, .slice none 0 0]⟩⟩, ⟨some b, true, ⟨true, 64, [.string ⟨#[]⟩, .string ⟨#[116]⟩, .bool false, .bool false, .bool false, .int .i64 sg, .int .i64 bu, .int .i64 65536, .bool true, .bool true, .slice none 0 0, .int .u32 cmd, .int .u32 stat, .int .u32 tg, hd, .slice none 0 0, .bool false, .slice none 0 0]⟩⟩, ⟨some bc, true, ⟨true, 5, (w4s [671088640, 0, 0, 0] 4).map (Value.int .u8)⟩⟩]) 0 ⟨rfl, rfl, (st.sel [0, 2, 3, 1] (by decide))⟩ [4, 5, 9, 36, 37, 38, 39, 40, 41, 42, 43, 44, 45, 46, 47, 48] (by decide) ?_
   rintro m t1 H1 hk hI
   obtain ⟨rfl, ht36, st⟩ := hI
   obtain ⟨u, rfl⟩ : ∃ u, t1 = (upd (mix [4, 5, 9, 36, 37, 38, 39, 40, 41, 42, 43, 44, 45, 46, 47, 48] _ u) (some 36) _) := ⟨t1, by rw [← hk, upd_self ht36]⟩
   clear hk ht36
   show AWl _ _ _ _ _
   refine aBinV (.bool false) rfl rfl rfl ?_
   refine sE ?_
   show AW _ (.cond _ _ _) _ _ _
   refine cF' rfl ?_
   show AWl _ _ _ _ _
   iterate 4 refine aN rfl rfl (by constructor) ?_
   refine aLd st 2 rfl rfl rfl (by constructor) ?_
   refine aN rfl rfl (by constructor) ?_
   refine sE ?_
   show AW _ (.cond _ _ _) _ _ _
   refine cF' rfl ?_
   show AWp _ _ _ _ _
   refine aN rfl rfl (by constructor) ?_
   refine aLd st 1 rfl rfl rfl (by constructor) ?_
   refine aN (v := .int .i64 0) rfl rfl (by constructor) ?_
   refine aBinV (.bool false) rfl rfl rfl ?_
   refine aN rfl rfl (by constructor) ?_
   refine gF rfl (by decide) ?_
   refine gF rfl (by decide) ?_
   refine gF rfl (by decide) ?_
   refine gU rfl ?_
   refine gU rfl ?_
   refine gU rfl ?_
   refine gU rfl ?_
   refine gU rfl ?_
   refine gU rfl ?_
   refine gF rfl (by decide) ?_
   refine gF rfl (by decide) ?_
   refine gU rfl ?_
   refine gU rfl ?_
   refine gU rfl ?_
   refine gU rfl ?_
   refine gU rfl ?_
   refine gU rfl ?_
   refine gU rfl ?_
   refine gU rfl ?_
   refine gU rfl ?_
   refine gF rfl (by decide) ?_
   refine gF rfl (by decide) ?_
   refine gU rfl ?_
   refine gU rfl ?_
   refine gU rfl ?_
   refine gU rfl ?_
   refine gU rfl ?_
   refine gU rfl ?_
   refine gF rfl (by decide) ?_
   iterate 2 refine aN rfl rfl (by constructor) ?_
   refine pE ?_
   show AW _ (.cond _ _ _) _ _ _
   refine cF' rfl ?_
   show AWl _ _ _ _ _
   iterate 2 refine aN rfl rfl (by constructor) ?_
   refine gF rfl (by decide) ?_
   refine gF rfl (by decide) ?_
   refine gF rfl (by decide) ?_
   iterate 2 refine aN rfl rfl (by constructor) ?_
   refine sE ?_
   show AW _ (.cond _ _ _) _ _ _
   refine cF' rfl ?_
   show AWp _ _ _ _ _
   iterate 4 refine aN rfl rfl (by constructor) ?_
   refine aLd st 2 rfl rfl rfl (by constructor) ?_
   refine aN rfl rfl (by constructor) ?_
   refine aLd st 0 rfl rfl rfl (by constructor) ?_
   refine aN rfl rfl (by constructor) ?_
   refine aLd st 0 rfl rfl rfl (by constructor) ?_
   refine aN rfl rfl (by constructor) ?_
   refine aLd st 0 rfl rfl rfl (by constructor) ?_
   refine aN rfl rfl (by constructor) ?_
   refine aLd st 1 rfl rfl rfl (by constructor) ?_
   refine aBinV (.int .u8 64) rfl rfl rfl ?_
   refine aBld rfl (by repeat constructor) ?_
   refine ⟨?_, trivial⟩
   refine aLit st rfl (by repeat constructor) fun b122 H6 st => ?_
   refine ⟨⟨(h_Ld st 2 rfl rfl rfl (by constructor)), (h_Ld st 1 rfl rfl rfl (by constructor)), (h_Ld st 1 rfl rfl rfl (by constructor)), (h_Ld st 1 rfl rfl rfl (by constructor)), (h_Ld st 3 rfl rfl rfl (by constructor)), trivial⟩, ?_⟩
   refine ⟨?_, trivial⟩
   have st := st.nil 41
   have hnil : (Value.slice none 0 0) = accV none 0 8 := rfl
   refine aApp st 0 (ob := none) (n := 0) rfl rfl rfl (by decide) (rfl) (st.rowAll 1 rfl (by first | rfl | (simp [beB_len, *]; done) | (simp [beB_len, *]; omega))).src (rfl) (by decide) (by decide) fun b123 H7 hp123 st => ?_
   refine ⟨⟨(h_Ld st 3 rfl rfl rfl (by constructor)), (h_Ld st 2 rfl rfl rfl (by constructor)), (h_Ld st 2 rfl rfl rfl (by constructor)), (h_Ld st 2 rfl rfl rfl (by constructor)), trivial⟩, ?_⟩
   iterate 2 refine aN rfl rfl (by constructor) ?_
   refine ⟨?_, trivial⟩
   refine aStS (st.rowAcc 0 rfl (by decide) (rfl)) st 4 rfl rfl rfl (by first | decide | simp) fun H8 st => ?_
   refine ⟨trivial, ?_⟩
   refine pE ?_
   show AWl _ _ _ _ _
   iterate 3 refine aN rfl rfl (by constructor) ?_
   refine gF rfl (by decide) ?_
   refine gF rfl (by decide) ?_
   refine gF rfl (by decide) ?_
   refine gF rfl (by decide) ?_
   refine gF rfl (by decide) ?_
   refine gF rfl (by decide) ?_
   refine aN rfl rfl (by constructor) ?_
   refine sE ?_
   show AW _ (.cond _ _ _) _ _ _
   refine cT rfl ?_
   show AWp _ _ _ _ _
   refine aLdA st 2 rfl rfl (by first | decide | simp [*]) (by repeat constructor) ?_
   refine aN rfl rfl (by constructor) ?_
   refine ⟨?_, trivial⟩
   refine aLit st rfl (by repeat constructor) fun b137 H9 st => ?_
   refine ⟨trivial, ?_⟩
   refine aN rfl rfl (by constructor) ?_
   refine pE ?_
   refine ⟨_, out2 (r_tmp rfl (by constructor)) (r_tmp rfl (by constructor)) ⟨rfl, rfl⟩, ?_⟩
   exact ⟨b137, some bc, b123, rfl, st.sel [5, 0, 6, 1] (by decide)⟩
  ·refine ⟨?_, trivial⟩
   refine aNewP st rfl rfl (by repeat constructor) fun b6 H10 st => ?_
   refine ⟨⟨(h_Ld st 1 rfl rfl rfl (by constructor)), (h_Ld st 1 rfl rfl rfl (by constructor)), (h_Ld st 1 rfl rfl rfl (by constructor)), (h_Ld st 1 rfl rfl rfl (by constructor)), (h_Ld st 1 rfl rfl rfl (by constructor)), trivial⟩, ?_⟩
   refine ⟨?_, trivial⟩
   refine aC (wbytes_call (xs := [671088640, 0, 0, 0]) (Stt.cutAt st 1 (o := 9) (n := 4) rfl (by decide) (show 9 + 4 ≤ 14 by decide)) (by decide)) fun v19 H11 ⟨oc19, hv, st1⟩ => ?_
   subst hv
   replace st := st.call st1 rfl
   clear st1
   obtain ⟨bc, rfl⟩ := st.isSome 0 rfl (fun h => by cases h)
   have hw16 : (w4s [671088640, 0, 0, 0] ([671088640, 0, 0, 0] : List Int).length).length = 16 := rfl
   refine ⟨⟨(h_Ld st 2 rfl rfl rfl (by constructor)), (h_Ld st 2 rfl rfl rfl (by constructor)), (h_Ld st 2 rfl rfl rfl (by constructor)), (h_Ld st 2 rfl rfl rfl (by constructor)), (h_Ld st 2 rfl rfl rfl (by constructor)), trivial⟩, ?_⟩
   refine aBld rfl (by repeat constructor) ?_
   refine ⟨?_, trivial⟩
   refine aSt st 1 rfl rfl rfl rfl (by first | rfl | simp [cellsOf, *]) (by first | decide | (simp [*]; done) | (simp [k8]; done)) (by repeat constructor) fun H12 st => ?_
   refine ⟨trivial, ?_⟩
   refine pE ?_
   show AWl _ _ _ _ _
   refine aN rfl rfl (by constructor) ?_
   refine aLd st 2 rfl rfl rfl (by constructor) ?_
   refine aBinV (.int .u8 0) rfl rfl rfl ?_
   refine aBinV (.bool false) rfl rfl rfl ?_
   refine aN rfl rfl (by constructor) ?_
   refine sE ?_
   show AWl _ _ _ _ _
   iterate 3 refine aN rfl rfl (by constructor) ?_
   refine aLd st 3 rfl rfl rfl (by constructor) ?_
   refine aN (v := .int .i64 0) rfl rfl (by constructor) ?_
   refine aN rfl rfl (by constructor) ?_
   refine sE ?_
   show AW _ (.loop _) _ _ _
   refine AW_loopN (fun m t1 H1 => m = 0 ∧ t1 36 = .int .i64 0 ∧ Stt [b] H H1 [⟨some b6, true, ⟨true, 41, [.int .u32 tag, .int .u8 0, .int .u8 0, .slice (some ⟨bc, 0, none⟩) 16 1, .slice none 0 0, .int .i64 (IntKind.i64.wrap n), .int .u8 0, .int .u32 0]⟩⟩, ⟨some b3, true, ⟨true, 37, [.int .u8 1, .int .u8 193, .int .u8 0, .int .u8 0, .int .u8 0, .int .u32 tag, .int .u32 n, .int .u32 w1, .int .u32 0, .int .u32 671088640, .int .u32 0, .int .u32 0, .int .u32 0, .slice none 0 0]⟩⟩, ⟨some b, true, ⟨true, 64, [.string ⟨#[]⟩, .string ⟨#[116]⟩, .bool false, .bool false, .bool false, .int .i64 sg, .int .i64 bu, .int .i64 65536, .bool true, .bool true, .slice none 0 0, .int .u32 cmd, .int .u32 stat, .int .u32 tg, hd, .slice none 0 0, .bool false, .slice none 0 0]⟩⟩, ⟨some bc, true, ⟨true, 5, (w4s [671088640, 0, 0, 0] 4).map (Value.int .u8)⟩⟩]) 0 ⟨rfl, rfl, (st.sel [1, 2, 3, 0] (by decide))⟩ [4, 5, 9, 36, 37, 38, 39, 40, 41, 42, 43, 44, 45, 46, 47, 48] (by decide) ?_
   rintro m t1 H1 hk hI
   obtain ⟨rfl, ht36, st⟩ := hI
   obtain ⟨u, rfl⟩ : ∃ u, t1 = (upd (mix [4, 5, 9, 36, 37, 38, 39, 40, 41, 42, 43, 44, 45, 46, 47, 48] _ u) (some 36) _) := ⟨t1, by rw [← hk, upd_self ht36]⟩
   clear hk ht36
   show AWl _ _ _ _ _
   refine aBinV (.bool false) rfl rfl rfl ?_
   refine sE ?_
   show AW _ (.cond _ _ _) _ _ _
   refine cF' rfl ?_
   show AWl _ _ _ _ _
   iterate 4 refine aN rfl rfl (by constructor) ?_
   refine aLd st 2 rfl rfl rfl (by constructor) ?_
   refine aN rfl rfl (by constructor) ?_
   refine sE ?_
   show AW _ (.cond _ _ _) _ _ _
   refine cF' rfl ?_
   show AWp _ _ _ _ _
   refine aN rfl rfl (by constructor) ?_
   refine aLd st 1 rfl rfl rfl (by constructor) ?_
   refine aN (v := .int .i64 0) rfl rfl (by constructor) ?_
   refine aBinV (.bool false) rfl rfl rfl ?_
   refine aN rfl rfl (by constructor) ?_
   refine gF rfl (by decide) ?_
   refine gF rfl (by decide) ?_
   refine gF rfl (by decide) ?_
   refine gU rfl ?_
   refine gU rfl ?_
   refine gU rfl ?_
   refine gU rfl ?_
   refine gU rfl ?_
   refine gU rfl ?_
   refine gF rfl (by decide) ?_
   refine gF rfl (by decide) ?_
   refine gU rfl ?_
   refine gU rfl ?_
   refine gU rfl ?_
   refine gU rfl ?_
   refine gU rfl ?_
   refine gU rfl ?_
   refine gU rfl ?_
   refine gU rfl ?_
   refine gU rfl ?_
   refine gF rfl (by decide) ?_
   refine gF rfl (by decide) ?_
   refine gU rfl ?_
   refine gU rfl ?_
   refine gU rfl ?_
   refine gU rfl ?_
   refine gU rfl ?_
   refine gU rfl ?_
   refine gF rfl (by decide) ?_
   iterate 2 refine aN rfl rfl (by constructor) ?_
   refine pE ?_
   show AW _ (.cond _ _ _) _ _ _
   refine cF' rfl ?_
   show AWl _ _ _ _ _
   iterate 2 refine aN rfl rfl (by constructor) ?_
   refine gF rfl (by decide) ?_
   refine gF rfl (by decide) ?_
   refine gF rfl (by decide) ?_
   iterate 2 refine aN rfl rfl (by constructor) ?_
   refine sE ?_
   show AW _ (.cond _ _ _) _ _ _
   refine cF' rfl ?_
   show AWp _ _ _ _ _
   iterate 4 refine aN rfl rfl (by constructor) ?_
   refine aLd st 2 rfl rfl rfl (by constructor) ?_
   refine aN rfl rfl (by constructor) ?_
   refine aLd st 0 rfl rfl rfl (by constructor) ?_
   refine aN rfl rfl (by constructor) ?_
   refine aLd st 0 rfl rfl rfl (by constructor) ?_
   refine aN rfl rfl (by constructor) ?_
   refine aLd st 0 rfl rfl rfl (by constructor) ?_
   refine aN rfl rfl (by constructor) ?_
   refine aLd st 1 rfl rfl rfl (by constructor) ?_
   refine aBinV (.int .u8 64) rfl rfl rfl ?_
   refine aBld rfl (by repeat constructor) ?_
   refine ⟨?_, trivial⟩
   refine aLit st rfl (by repeat constructor) fun b122 H13 st => ?_
   refine ⟨⟨(h_Ld st 2 rfl rfl rfl (by constructor)), (h_Ld st 1 rfl rfl rfl (by constructor)), (h_Ld st 1 rfl rfl rfl (by constructor)), (h_Ld st 1 rfl rfl rfl (by constructor)), (h_Ld st 3 rfl rfl rfl (by constructor)), trivial⟩, ?_⟩
   refine ⟨?_, trivial⟩
   have st := st.nil 41
   have hnil : (Value.slice none 0 0) = accV none 0 8 := rfl
   refine aApp st 0 (ob := none) (n := 0) rfl rfl rfl (by decide) (rfl) (st.rowAll 1 rfl (by first | rfl | (simp [beB_len, *]; done) | (simp [beB_len, *]; omega))).src (rfl) (by decide) (by decide) fun b123 H14 hp123 st => ?_
   refine ⟨⟨(h_Ld st 3 rfl rfl rfl (by constructor)), (h_Ld st 2 rfl rfl rfl (by constructor)), (h_Ld st 2 rfl rfl rfl (by constructor)), (h_Ld st 2 rfl rfl rfl (by constructor)), trivial⟩, ?_⟩
   iterate 2 refine aN rfl rfl (by constructor) ?_
   refine ⟨?_, trivial⟩
   refine aStS (st.rowAcc 0 rfl (by decide) (rfl)) st 4 rfl rfl rfl (by first | decide | simp) fun H15 st => ?_
   refine ⟨trivial, ?_⟩
   refine pE ?_
   show AWl _ _ _ _ _
   iterate 3 refine aN rfl rfl (by constructor) ?_
   refine gF rfl (by decide) ?_
   refine gF rfl (by decide) ?_
   refine gF rfl (by decide) ?_
   refine gF rfl (by decide) ?_
   refine gF rfl (by decide) ?_
   refine gF rfl (by decide) ?_
   refine aN rfl rfl (by constructor) ?_
   refine sE ?_
   show AW _ (.cond _ _ _) _ _ _
   refine cT rfl ?_
   show AWp _ _ _ _ _
   refine aLdA st 2 rfl rfl (by first | decide | simp [*]) (by repeat constructor) ?_
   refine aN rfl rfl (by constructor) ?_
   refine ⟨?_, trivial⟩
   refine aLit st rfl (by repeat constructor) fun b137 H16 st => ?_
   refine ⟨trivial, ?_⟩
   refine aN rfl rfl (by constructor) ?_
   refine pE ?_
   refine ⟨_, out2 (r_tmp rfl (by constructor)) (r_tmp rfl (by constructor)) ⟨rfl, rfl⟩, ?_⟩
   exact ⟨b137, some bc, b123, rfl, st.sel [5, 0, 6, 1] (by decide)⟩
 ·refine ⟨?_, trivial⟩
  refine aNewP st rfl rfl (by repeat constructor) fun b6 H17 st => ?_
  refine ⟨⟨(h_Ld st 1 rfl rfl rfl (by constructor)), (h_Ld st 1 rfl rfl rfl (by constructor)), (h_Ld st 1 rfl rfl rfl (by constructor)), (h_Ld st 1 rfl rfl rfl (by constructor)), (h_Ld st 1 rfl rfl rfl (by constructor)), trivial⟩, ?_⟩
  refine ⟨?_, trivial⟩
  refine aC (attr_call) fun v16 H18 ⟨hv, st1⟩ => ?_
  subst hv
  replace st := st.call st1 rfl
  clear st1
  refine ⟨⟨(h_Ld st 1 rfl rfl rfl (by constructor)), (h_Ld st 1 rfl rfl rfl (by constructor)), (h_Ld st 1 rfl rfl rfl (by constructor)), (h_Ld st 1 rfl rfl rfl (by constructor)), trivial⟩, ?_⟩
  refine ⟨?_, trivial⟩
  refine aC (wbytes_call (xs := [671088640, 0, 0, 0]) (Stt.cutAt st 1 (o := 9) (n := 4) rfl (by decide) (show 9 + 4 ≤ 14 by decide)) (by decide)) fun v19 H19 ⟨oc19, hv, st1⟩ => ?_
  subst hv
  replace st := st.call st1 rfl
  clear st1
  obtain ⟨bc, rfl⟩ := st.isSome 0 rfl (fun h => by cases h)
  have hw16 : (w4s [671088640, 0, 0, 0] ([671088640, 0, 0, 0] : List Int).length).length = 16 := rfl
  refine ⟨⟨(h_Ld st 2 rfl rfl rfl (by constructor)), (h_Ld st 2 rfl rfl rfl (by constructor)), (h_Ld st 2 rfl rfl rfl (by constructor)), (h_Ld st 2 rfl rfl rfl (by constructor)), (h_Ld st 2 rfl rfl rfl (by constructor)), trivial⟩, ?_⟩
  refine aBld rfl (by repeat constructor) ?_
  refine ⟨?_, trivial⟩
  refine aSt st 1 rfl rfl rfl rfl (by first | rfl | simp [cellsOf, *]) (by first | decide | (simp [*]; done) | (simp [k8]; done)) (by repeat constructor) fun H20 st => ?_
  refine ⟨trivial, ?_⟩
  refine pE ?_
  show AWl _ _ _ _ _
  refine aN rfl rfl (by constructor) ?_
  refine aLd st 2 rfl rfl rfl (by constructor) ?_
  refine aBinV (.int .u8 0) rfl rfl rfl ?_
  refine aBinV (.bool false) rfl rfl rfl ?_
  refine aN rfl rfl (by constructor) ?_
  refine sE ?_
  show AWl _ _ _ _ _
  iterate 3 refine aN rfl rfl (by constructor) ?_
  refine aLd st 3 rfl rfl rfl (by constructor) ?_
  refine aN (v := .int .i64 0) rfl rfl (by constructor) ?_
  refine aN rfl rfl (by constructor) ?_
  refine sE ?_
  show AW _ (.loop _) _ _ _
  refine AW_loopN (fun m t1 H1 => m = 0 ∧ t1 36 = .int .i64 0 ∧ Stt [b] H H1 [⟨some b6, true, ⟨true, 41, [.int .u32 tag, .int .u8 0, .int .u8 0, .slice (some ⟨bc, 0, none⟩) 16 1, .slice none 0 0, .int .i64 (IntKind.i64.wrap n), .int .u8 0, .int .u32 0]⟩⟩, ⟨some b3, true, ⟨true, 37, [.int .u8 1, .int .u8 193, .int .u8 0, .int .u8 0, .int .u8 0, .int .u32 tag, .int .u32 n, .int .u32 w1, .int .u32 0, .int .u32 671088640, .int .u32 0, .int .u32 0, .int .u32 0, .slice none 0 0]⟩⟩, ⟨some b, true, ⟨true, 64, [.string ⟨#[]⟩, .string ⟨#[116]⟩, .bool false, .bool false, .bool false, .int .i64 sg, .int .i64 bu, .int .i64 65536, .bool true, .bool true, .slice none 0 0, .int .u32 cmd, .int .u32 stat, .int .u32 tg, hd, .slice none 0 0, .bool false, .slice none 0 0]⟩⟩, ⟨some bc, true, ⟨true, 5, (w4s [671088640, 0, 0, 0] 4).map (Value.int .u8)⟩⟩]) 0 ⟨rfl, rfl, (st.sel [1, 2, 3, 0] (by decide))⟩ [4, 5, 9, 36, 37, 38, 39, 40, 41, 42, 43, 44, 45, 46, 47, 48] (by decide) ?_
  rintro m t1 H1 hk hI
  obtain ⟨rfl, ht36, st⟩ := hI
  obtain ⟨u, rfl⟩ : ∃ u, t1 = (upd (mix [4, 5, 9, 36, 37, 38, 39, 40, 41, 42, 43, 44, 45, 46, 47, 48] _ u) (some 36) _) := ⟨t1, by rw [← hk, upd_self ht36]⟩
  clear hk ht36
  show AWl _ _ _ _ _
  refine aBinV (.bool false) rfl rfl rfl ?_
  refine sE ?_
  show AW _ (.cond _ _ _) _ _ _
  refine cF' rfl ?_
  show AWl _ _ _ _ _
  iterate 4 refine aN rfl rfl (by constructor) ?_
  refine aLd st 2 rfl rfl rfl (by constructor) ?_
  refine aN rfl rfl (by constructor) ?_
  refine sE ?_
  show AW _ (.cond _ _ _) _ _ _
  refine cF' rfl ?_
  show AWp _ _ _ _ _
  refine aN rfl rfl (by constructor) ?_
  refine aLd st 1 rfl rfl rfl (by constructor) ?_
  refine aN (v := .int .i64 0) rfl rfl (by constructor) ?_
  refine aBinV (.bool false) rfl rfl rfl ?_
  refine aN rfl rfl (by constructor) ?_
  refine gF rfl (by decide) ?_
  refine gF rfl (by decide) ?_
  refine gF rfl (by decide) ?_
  refine gU rfl ?_
  refine gU rfl ?_
  refine gU rfl ?_
  refine gU rfl ?_
  refine gU rfl ?_
  refine gU rfl ?_
  refine gF rfl (by decide) ?_
  refine gF rfl (by decide) ?_
  refine gU rfl ?_
  refine gU rfl ?_
  refine gU rfl ?_
  refine gU rfl ?_
  refine gU rfl ?_
  refine gU rfl ?_
  refine gU rfl ?_
  refine gU rfl ?_
  refine gU rfl ?_
  refine gF rfl (by decide) ?_
  refine gF rfl (by decide) ?_
  refine gU rfl ?_
  refine gU rfl ?_
  refine gU rfl ?_
  refine gU rfl ?_
  refine gU rfl ?_
  refine gU rfl ?_
  refine gF rfl (by decide) ?_
  iterate 2 refine aN rfl rfl (by constructor) ?_
  refine pE ?_
  show AW _ (.cond _ _ _) _ _ _
  refine cF' rfl ?_
  show AWl _ _ _ _ _
  iterate 2 refine aN rfl rfl (by constructor) ?_
  refine gF rfl (by decide) ?_
  refine gF rfl (by decide) ?_
  refine gF rfl (by decide) ?_
  iterate 2 refine aN rfl rfl (by constructor) ?_
  refine sE ?_
  show AW _ (.cond _ _ _) _ _ _
  refine cF' rfl ?_
  show AWp _ _ _ _ _
  iterate 4 refine aN rfl rfl (by constructor) ?_
  refine aLd st 2 rfl rfl rfl (by constructor) ?_
  refine aN rfl rfl (by constructor) ?_
  refine aLd st 0 rfl rfl rfl (by constructor) ?_
  refine aN rfl rfl (by constructor) ?_
  refine aLd st 0 rfl rfl rfl (by constructor) ?_
  refine aN rfl rfl (by constructor) ?_
  refine aLd st 0 rfl rfl rfl (by constructor) ?_
  refine aN rfl rfl (by constructor) ?_
  refine aLd st 1 rfl rfl rfl (by constructor) ?_
  refine aBinV (.int .u8 64) rfl rfl rfl ?_
  refine aBld rfl (by repeat constructor) ?_
  refine ⟨?_, trivial⟩
  refine aLit st rfl (by repeat constructor) fun b122 H21 st => ?_
  refine ⟨⟨(h_Ld st 2 rfl rfl rfl (by constructor)), (h_Ld st 1 rfl rfl rfl (by constructor)), (h_Ld st 1 rfl rfl rfl (by constructor)), (h_Ld st 1 rfl rfl rfl (by constructor)), (h_Ld st 3 rfl rfl rfl (by constructor)), trivial⟩, ?_⟩
  refine ⟨?_, trivial⟩
  have st := st.nil 41
  have hnil : (Value.slice none 0 0) = accV none 0 8 := rfl
  refine aApp st 0 (ob := none) (n := 0) rfl rfl rfl (by decide) (rfl) (st.rowAll 1 rfl (by first | rfl | (simp [beB_len, *]; done) | (simp [beB_len, *]; omega))).src (rfl) (by decide) (by decide) fun b123 H22 hp123 st => ?_
  refine ⟨⟨(h_Ld st 3 rfl rfl rfl (by constructor)), (h_Ld st 2 rfl rfl rfl (by constructor)), (h_Ld st 2 rfl rfl rfl (by constructor)), (h_Ld st 2 rfl rfl rfl (by constructor)), trivial⟩, ?_⟩
  iterate 2 refine aN rfl rfl (by constructor) ?_
  refine ⟨?_, trivial⟩
  refine aStS (st.rowAcc 0 rfl (by decide) (rfl)) st 4 rfl rfl rfl (by first | decide | simp) fun H23 st => ?_
  refine ⟨trivial, ?_⟩
  refine pE ?_
  show AWl _ _ _ _ _
  iterate 3 refine aN rfl rfl (by constructor) ?_
  refine gF rfl (by decide) ?_
  refine gF rfl (by decide) ?_
  refine gF rfl (by decide) ?_
  refine gF rfl (by decide) ?_
  refine gF rfl (by decide) ?_
  refine gF rfl (by decide) ?_
  refine aN rfl rfl (by constructor) ?_
  refine sE ?_
  show AW _ (.cond _ _ _) _ _ _
  refine cT rfl ?_
  show AWp _ _ _ _ _
  refine aLdA st 2 rfl rfl (by first | decide | simp [*]) (by repeat constructor) ?_
  refine aN rfl rfl (by constructor) ?_
  refine ⟨?_, trivial⟩
  refine aLit st rfl (by repeat constructor) fun b137 H24 st => ?_
  refine ⟨trivial, ?_⟩
  refine aN rfl rfl (by constructor) ?_
  refine pE ?_
  refine ⟨_, out2 (r_tmp rfl (by constructor)) (r_tmp rfl (by constructor)) ⟨rfl, rfl⟩, ?_⟩
  exact ⟨b137, some bc, b123, rfl, st.sel [5, 0, 6, 1] (by decide)⟩
end Go.Proofs.Ytloeadlmcdddnaa.Abs
