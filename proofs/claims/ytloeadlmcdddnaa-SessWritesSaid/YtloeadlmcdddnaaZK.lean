/- SessWrites. -/
import Derived.Test.YtloeadlmcdddnaaZJ
import Derived.Test.YtloeadlmcdddnaaZ7
set_option linter.unusedVariables false
set_option linter.unusedSimpArgs false
set_option maxRecDepth 100000
namespace Go.Proofs.Ytloeadlmcdddnaa.Abs
open Go Go.RowKit
variable {tg sg bu : Int}
theorem getD_byte {xs : List Int} (h : ByteL xs) (i : Nat) : 0 ≤ xs.getD i 0 ∧ xs.getD i 0 ≤ 255 := by
  by_cases hi : i < xs.length
  · have e : xs.getD i 0 = xs[i] := by simp [List.getD, List.getElem?_eq_getElem hi]
    rw [e]
    have := h _ (List.getElem_mem hi)
    omega
  · simp [List.getD, List.getElem?_eq_none (by omega : xs.length ≤ i)]
theorem writes_call {H : Hp} {x z : Value} {xs ks : List Int} {bn wn : Nat} (hx : Sl H 1 xs.length (xs.map (Value.int .u8)) x) (hk : Sl H 1 ks.length (ks.map (Value.int .u8)) z) (hkb : ByteL ks) (hbn : bn < 65536) (hwn : wn < 65536) :
  ACalls Try.prog 5 [x, .int .u16 (bn : Int), .int .u16 (wn : Int), z] H (fun v _ => v = .bool true) := by
 refine acallsW Try.func5 f5_ok (Nat.le_of_ble_eq_true rfl) fun hw => ?_
 have st : Stt [] H H [] := Stt.start hw
 obtain ⟨px, cx, rfl⟩ := hx.shape
 obtain ⟨pk, ck, rfl⟩ := hk.shape
 have hkl := hk.1
 obtain ⟨g, hgd⟩ : ∃ g, g = 1 + bn % 700 := ⟨_, rfl⟩
 have hg1 : 1 ≤ g := by omega
 obtain ⟨n0, hn0d⟩ : ∃ n0, n0 = wn % (xs.length + 1) := ⟨_, rfl⟩
 have hn0l : n0 ≤ xs.length := by have := Nat.mod_lt wn (show 0 < xs.length + 1 by omega); omega
 unfold f5c
 show AWl _ _ _ _ _
 refine aN rfl rfl (by constructor) ?_
 refine sE ?_
 show AWl _ _ _ _ _
 refine aC (awake_call) fun v21 H1 ⟨hv, st1⟩ => ?_
 subst hv
 replace st := st.call st1 rfl
 clear st1
 iterate 2 refine aN rfl rfl (by constructor) ?_
 refine gT rfl ?_
 refine aMovV (Value.slice px xs.length cx) rfl ?_
 refine gT rfl ?_
 refine aLen (st.slc hx) rfl ?_
 refine gT rfl ?_
 refine aBinV (.bool (decide (xs.length = 0))) rfl rfl (eqB _ (by rw [decide_eq_true_iff]; omega)) ?_
 iterate 2 refine aN rfl rfl (by constructor) ?_
 refine gCase 28 rfl (fun h2 => ?_) (fun h2 => ?_)
 ·refine gF rfl (by decide) ?_
  refine gF rfl (by decide) ?_
  refine gF rfl (by decide) ?_
  refine aN rfl rfl (by constructor) ?_
  refine sE ?_
  show AW _ (.cond _ _ _) _ _ _
  refine cT rfl ?_
  show AWl _ _ _ _ _
  refine aC (awake_call) fun v33 H3 ⟨hv, st1⟩ => ?_
  subst hv
  replace st := st.call st1 rfl
  clear st1
  refine aN rfl rfl (by constructor) ?_
  refine sE ?_
  refine ⟨_, out1 (r_tmp rfl (by constructor)), ?_⟩
  rfl
 ·refine gT rfl ?_
  refine aMovV (Value.slice px xs.length cx) rfl ?_
  refine gT rfl ?_
  refine aLen (st.slc hx) rfl ?_
  refine gT rfl ?_
  iterate 2 refine aN rfl rfl (by constructor) ?_
  refine sE ?_
  show AW _ (.cond _ _ _) _ _ _
  refine cC' rfl (fun h4 => ?_) (fun h4 => ?_)
  ·show AWl _ _ _ _ _
   refine aC (awake_call) fun v33 H5 ⟨hv, st1⟩ => ?_
   subst hv
   replace st := st.call st1 rfl
   clear st1
   refine aN rfl rfl (by constructor) ?_
   refine sE ?_
   refine ⟨_, out1 (r_tmp rfl (by constructor)), ?_⟩
   rfl
  ·have hxl : ¬ (xs.length : Int) > 3000 := of_decide_eq_false h4
   show AWl _ _ _ _ _
   refine aC (plain_call) fun v34 H6 ⟨hv, st1⟩ => ?_
   subst hv
   replace st := st.call st1 rfl
   clear st1
   refine aNewP st rfl rfl (by repeat constructor) fun b9 H7 st => ?_
   refine aSt st 0 rfl rfl rfl rfl (by first | rfl | simp [cellsOf, *]) (by first | decide | (simp [*]; done) | (simp [k8]; done)) (by repeat constructor) fun H8 st => ?_
   refine sE ?_
   show AWl _ _ _ _ _
   refine aN rfl rfl (by constructor) ?_
   refine aConvV (n' := (bn : Int)) rfl (by first | exact c64 (by omega) | exact c32w (by omega)) ?_
   refine aBinV (.int .i64 ((bn % 700 : Nat) : Int)) rfl rfl (remN (m := 700) (by decide)) ?_
   refine aBinV (.int .i64 (g : Int)) rfl rfl (addI (by omega) (by omega)) ?_
   refine aN rfl rfl (by constructor) ?_
   refine aSt st 0 rfl rfl rfl rfl (by first | rfl | simp [cellsOf, *]) (by first | decide | (simp [*]; done) | (simp [k8]; done)) (by repeat constructor) fun H9 st => ?_
   refine sE ?_
   show AWl _ _ _ _ _
   refine aLdA st 0 rfl rfl (by first | decide | simp [*]) (by repeat constructor) ?_
   refine aC (new_call) fun v41 H10 ⟨b41, hv, st1⟩ => ?_
   subst hv
   replace st := st.call st1 rfl
   clear st1
   refine aN rfl rfl (by constructor) ?_
   refine sE ?_
   show AWl _ _ _ _ _
   refine aN rfl rfl (by constructor) ?_
   refine aConvV (n' := (wn : Int)) rfl (by first | exact c64 (by omega) | exact c32w (by omega)) ?_
   refine aMovV (Value.slice px xs.length cx) rfl ?_
   refine aLen (st.slc hx) rfl ?_
   refine aBinV (.int .i64 ((xs.length + 1 : Nat) : Int)) rfl rfl (addI (by omega) (by omega)) ?_
   refine aBinV (.int .i64 (n0 : Int)) rfl rfl (by rw [hn0d]; exact remN (m := xs.length + 1) (by omega)) ?_
   refine aN rfl rfl (by constructor) ?_
   refine sE ?_
   show AWl _ _ _ _ _
   refine aMovV (Value.slice px xs.length cx) rfl ?_
   refine aLen (st.slc hx) rfl ?_
   refine aConvV (n' := (xs.length : Int)) rfl (by first | exact c64 (by omega) | exact c32w (by omega)) ?_
   refine aBld rfl (by repeat constructor) ?_
   refine aMovV (Value.slice px xs.length cx) rfl ?_
   refine aN rfl rfl (by constructor) ?_
   refine aCutH (st.slc hx) rfl rfl (by omega) fun v54 s54 => ?_
   rw [Int.toNat_natCast] at s54
   obtain ⟨p54, c54, rfl⟩ := (s54 _ hx).shape
   refine aBld rfl (by repeat constructor) ?_
   refine aNewP st rfl rfl (by repeat constructor) fun b12 H11 st => ?_
   refine aSt st 0 rfl rfl rfl rfl (by first | rfl | simp [cellsOf, *]) (by first | decide | (simp [*]; done) | (simp [k8]; done)) (by repeat constructor) fun H12 st => ?_
   refine sE ?_
   show AWl _ _ _ _ _
   refine aN rfl rfl (by constructor) ?_
   refine aLdA st 0 rfl rfl (by first | decide | simp [*]) (by repeat constructor) ?_
   rcases Nat.lt_or_ge n0 xs.length with hlt0 | hge0
   ·refine aC (in_w (kn := n0) (n := (xs.length : Int)) (st.get (j := 1) rfl) (by omega)) fun v59 H13 ⟨c59, wb, rb, cdb, hv, st1⟩ => ?_
    subst hv
    replace st := st.callX 1 rfl st1 rfl
    clear st1
    rw [moE hg1 (by omega) (by omega)] at st
    rw [c32w (a := (n0 : Int)) (by omega), c32w (a := ((min g (xs.length - n0) : Nat) : Int)) (by omega)] at st
    iterate 5 refine aN rfl rfl (by constructor) ?_
    refine sE ?_
    show AWl _ _ _ _ _
    iterate 2 refine aN rfl rfl (by constructor) ?_
    refine sE ?_
    show AWl _ _ _ _ _
    refine aN rfl rfl (by constructor) ?_
    refine sE ?_
    show AW _ (.loop _) _ _ _
    obtain ⟨ob, kb, st, hU, hA⟩ := st.held rfl (s54 _ hx)
    refine AW_loopN (fun m t1 H1 => (∃ (c a0 kk : Nat) (ob : Option Nat) (ok : Bool) (kb : Blk) (ux : Value) (tv ak0 ak1 : Int), m = xs.length - a0 + 1 ∧ (a0 < xs.length) ∧ (kk ≤ a0) ∧ (∀ H2 : Hp, (∀ q, ob = some q → H2.m q = some kb) → Sl H2 1 a0 ((xs.take a0).map (Value.int .u8)) ux) ∧ (∀ q, ob ≠ some q → Apart q ux) ∧ t1 13 = .slice (some ⟨c, 0, none⟩) 1 14 ∧ t1 14 = .slice none 0 0 ∧ t1 15 = .int .i64 (a0 : Int) ∧ t1 16 = .int .i64 (kk : Int) ∧ Stt [] H H1 [⟨some b41, true, ⟨true, 64, [.string ⟨#[]⟩, .string ⟨#[116]⟩, .bool false, .bool false, .bool false, .int .i64 8192, .int .i64 (g : Int), .int .i64 65536, .bool true, .bool true, .slice none 0 0, .int .u32 (IntKind.u32.wrap (1 + 1)), .int .u32 1, .int .u32 tv, .slice none 0 0, .slice (some ⟨wb, 0, none⟩) 1 12, .bool false, .slice (some ⟨rb, 0, none⟩) 1 8]⟩⟩, ⟨some c, true, ⟨true, 37, [.int .u8 49, .int .u8 128, .int .u8 0, .int .u8 0, .int .u8 0, .int .u32 7, .int .u32 tv, .int .u32 1, .int .u32 (IntKind.u32.wrap (1 + 1)), .int .u32 (IntKind.u32.wrap (IntKind.u32.wrap ((IntKind.u32.wrap (1 + 1)) + 16) - 1)), .int .u32 ak0, .int .u32 (a0 : Int), .int .u32 ((min g (xs.length - (a0)) : Nat) : Int), .slice none 0 0]⟩⟩, ⟨some wb, true, ⟨true, 76, [.int .u32 7, .int .u8 0, .int .u8 0, cdb, ux, .int .i64 (xs.length : Int), .int .u8 0, .int .u32 0, .int .u32 tv, .int .i64 (a0 : Int), .int .i64 ((min g (xs.length - a0) : Nat) : Int), .int .u32 ak1]⟩⟩, ⟨ob, ok, kb⟩, ⟨some b9, true, ⟨true, 28, [.string ⟨#[]⟩, .string ⟨#[116]⟩, .bool false, .bool false, .bool false, .int .i64 8192, .int .i64 (g : Int), .int .i64 65536, .bool true, .bool true]⟩⟩]) ∨ (∃ (ct bo : Nat) (tv : Int), m = 0 ∧ t1 13 = .slice none 0 0 ∧ t1 14 = .slice (some ⟨ct, 0, none⟩) 1 8 ∧ t1 15 = .int .i64 (xs.length : Int) ∧ Stt [] H H1 [⟨some b41, true, ⟨true, 64, [.string ⟨#[]⟩, .string ⟨#[116]⟩, .bool false, .bool false, .bool false, .int .i64 8192, .int .i64 (g : Int), .int .i64 65536, .bool true, .bool true, .slice none 0 0, .int .u32 (IntKind.u32.wrap (1 + 1)), .int .u32 1, .int .u32 tv, .slice none 0 0, .slice none 0 0, .bool false, .slice (some ⟨rb, 0, none⟩) 1 8]⟩⟩, ⟨some ct, true, ⟨true, 41, [.int .u32 7, .int .u8 0, .int .u8 0, cdb, .slice (some ⟨bo, 0, none⟩) xs.length 1, .int .i64 (xs.length : Int), .int .u8 0, .int .u32 0]⟩⟩, ⟨some bo, true, ⟨true, 5, xs.map (Value.int .u8)⟩⟩])) _ (.inl ⟨c59, n0, 0, ob, false, kb, (.slice p54 n0 c54), (IntKind.u32.wrap (0 + 1)), 0, (IntKind.u32.wrap (0 + 1)), rfl, hlt0, Nat.zero_le _, hU, hA, rfl, rfl, rfl, rfl, (st.sel [1, 2, 3, 0, 6] (by decide))⟩) [8, 13, 14, 15, 16, 17, 18, 19, 20, 63, 64, 65, 66, 67, 68, 69, 70, 71, 72, 73, 74, 75, 76, 77, 78, 79, 80, 81, 82, 83, 84, 85, 86, 87, 88, 89, 90, 91, 92, 93, 94, 95, 96, 97, 98, 99, 100, 101, 102, 103, 104, 105, 106, 107, 108, 109, 110, 111, 112, 113, 114, 115, 116, 117, 118, 119, 120, 121, 122, 123, 124, 125, 126, 127, 128, 129, 130, 131, 132, 133, 134, 135, 136, 137, 138, 139, 140, 141, 142, 143, 144, 145, 146, 147, 148, 149, 150, 151, 152, 153, 154, 155, 156, 157, 158, 159, 160, 161, 162, 163, 164, 165, 166, 167, 168, 169, 170] (by decide) ?_
    rintro m t1 H1 hk hI
    rcases hI with hI | hI
    ·obtain ⟨c, a0, kk, ob, ok, kb, ux, tv, ak0, ak1, rfl, ha0, hkk, hU, hA, ht13, ht14, ht15, ht16, st⟩ := hI
     obtain ⟨u, rfl⟩ : ∃ u, t1 = (upd (upd (upd (upd (mix [8, 13, 14, 15, 16, 17, 18, 19, 20, 63, 64, 65, 66, 67, 68, 69, 70, 71, 72, 73, 74, 75, 76, 77, 78, 79, 80, 81, 82, 83, 84, 85, 86, 87, 88, 89, 90, 91, 92, 93, 94, 95, 96, 97, 98, 99, 100, 101, 102, 103, 104, 105, 106, 107, 108, 109, 110, 111, 112, 113, 114, 115, 116, 117, 118, 119, 120, 121, 122, 123, 124, 125, 126, 127, 128, 129, 130, 131, 132, 133, 134, 135, 136, 137, 138, 139, 140, 141, 142, 143, 144, 145, 146, 147, 148, 149, 150, 151, 152, 153, 154, 155, 156, 157, 158, 159, 160, 161, 162, 163, 164, 165, 166, 167, 168, 169, 170] _ u) (some 13) _) (some 14) _) (some 15) _) (some 16) _) := ⟨t1, by rw [← hk, upd_self ht13, upd_self ht14, upd_self ht15, upd_self ht16]⟩
     clear hk ht13 ht14 ht15 ht16
     show AWl _ _ _ _ _
     refine aN rfl rfl (by constructor) ?_
     refine aN (v := .int .i64 0) rfl rfl (by constructor) ?_
     refine aBinV (.bool true) rfl rfl rfl ?_
     refine sE ?_
     show AW _ (.cond _ _ _) _ _ _
     refine cT rfl ?_
     show AWp _ _ _ _ _
     refine aN rfl rfl (by constructor) ?_
     refine aN (v := .int .i64 1) rfl rfl (by constructor) ?_
     refine aBinV (.bool false) rfl rfl rfl ?_
     refine aN rfl rfl (by constructor) ?_
     refine gT rfl ?_
     refine aN rfl rfl (by constructor) ?_
     refine gT rfl ?_
     refine aN rfl rfl (by constructor) ?_
     refine gT rfl ?_
     refine aN rfl rfl (by constructor) ?_
     refine gT rfl ?_
     refine aLd st 1 rfl rfl rfl (by constructor) ?_
     refine gT rfl ?_
     refine aBinV (.bool false) rfl rfl rfl ?_
     iterate 2 refine aN rfl rfl (by constructor) ?_
     refine gT rfl ?_
     refine aN rfl rfl (by constructor) ?_
     refine gT rfl ?_
     refine aN rfl rfl (by constructor) ?_
     refine gT rfl ?_
     refine aN rfl rfl (by constructor) ?_
     refine gT rfl ?_
     refine aN rfl rfl (by constructor) ?_
     refine gT rfl ?_
     refine aLd st 1 rfl rfl rfl (by constructor) ?_
     refine gT rfl ?_
     refine aConvV (n' := (a0 : Int)) rfl (by first | exact c64 (by omega) | exact c32w (by omega)) ?_
     refine gT rfl ?_
     refine aN rfl rfl (by constructor) ?_
     refine gT rfl ?_
     refine aBinV (.bool false) rfl rfl (neF rfl) ?_
     iterate 2 refine aN rfl rfl (by constructor) ?_
     refine gT rfl ?_
     refine aN rfl rfl (by constructor) ?_
     refine gT rfl ?_
     refine aN rfl rfl (by constructor) ?_
     refine gT rfl ?_
     refine aN rfl rfl (by constructor) ?_
     refine gT rfl ?_
     refine aN rfl rfl (by constructor) ?_
     refine gT rfl ?_
     refine aLd st 1 rfl rfl rfl (by constructor) ?_
     refine gT rfl ?_
     refine aConvV (n' := ((min g (xs.length - a0) : Nat) : Int)) rfl (by first | exact c64 (by omega) | exact c32w (by omega)) ?_
     refine gT rfl ?_
     refine aN rfl rfl (by constructor) ?_
     refine gT rfl ?_
     refine aLd st 4 rfl rfl rfl (by constructor) ?_
     refine gT rfl ?_
     refine aMovV (Value.slice px xs.length cx) rfl ?_
     refine gT rfl ?_
     refine aLen (st.slc hx) rfl ?_
     refine gT rfl ?_
     refine aN rfl rfl (by constructor) ?_
     refine gT rfl ?_
     refine aBinV (.int .i64 ((xs.length - a0 : Nat) : Int)) rfl rfl (subI (by omega) (by omega)) ?_
     refine gT rfl ?_
     refine aMinV (r := ((min g (xs.length - a0) : Nat) : Int)) rfl rfl (by split <;> omega) ?_
     refine gT rfl ?_
     refine aBinV (.bool false) rfl rfl (neF rfl) ?_
     refine aN rfl rfl (by constructor) ?_
     refine pE ?_
     show AW _ (.cond _ _ _) _ _ _
     refine cF' rfl ?_
     show AWl _ _ _ _ _
     iterate 5 refine aN rfl rfl (by constructor) ?_
     refine aLd st 1 rfl rfl rfl (by constructor) ?_
     refine aConvV (n' := ((min g (xs.length - a0) : Nat) : Int)) rfl (by first | exact c64 (by omega) | exact c32w (by omega)) ?_
     obtain ⟨e, hed⟩ : ∃ e, e = a0 + min g (xs.length - a0) := ⟨_, rfl⟩
     refine aBinV (.int .i64 (e : Int)) rfl rfl (addI (by omega) (by omega)) ?_
     refine aN rfl rfl (by constructor) ?_
     refine sE ?_
     show AWl _ _ _ _ _
     iterate 4 refine aN rfl rfl (by constructor) ?_
     refine aLd st 1 rfl rfl rfl (by constructor) ?_
     refine aN rfl rfl (by constructor) ?_
     refine sE ?_
     show AWl _ _ _ _ _
     refine aN rfl rfl (by constructor) ?_
     refine sE ?_
     show AW _ (.loop _) _ _ _
     refine AW_loopN (fun m t1 H1 => (∃ (ai kk : Nat) (ob : Option Nat) (ok : Bool) (kb : Blk) (ux : Value) (ak1 : Int), m = e - ai + 1 ∧ (a0 ≤ ai ∧ ai < e) ∧ (kk ≤ ai) ∧ (∀ H2 : Hp, (∀ q, ob = some q → H2.m q = some kb) → Sl H2 1 ai ((xs.take ai).map (Value.int .u8)) ux) ∧ (∀ q, ob ≠ some q → Apart q ux) ∧ t1 13 = .slice none 0 0 ∧ t1 14 = .slice none 0 0 ∧ t1 15 = .int .i64 (ai : Int) ∧ t1 16 = .int .i64 (kk : Int) ∧ Stt [] H H1 [⟨some b41, true, ⟨true, 64, [.string ⟨#[]⟩, .string ⟨#[116]⟩, .bool false, .bool false, .bool false, .int .i64 8192, .int .i64 (g : Int), .int .i64 65536, .bool true, .bool true, .slice none 0 0, .int .u32 (IntKind.u32.wrap (1 + 1)), .int .u32 1, .int .u32 tv, .slice none 0 0, .slice (some ⟨wb, 0, none⟩) 1 12, .bool false, .slice (some ⟨rb, 0, none⟩) 1 8]⟩⟩, ⟨some wb, true, ⟨true, 76, [.int .u32 7, .int .u8 0, .int .u8 0, cdb, ux, .int .i64 (xs.length : Int), .int .u8 0, .int .u32 0, .int .u32 tv, .int .i64 (a0 : Int), .int .i64 ((min g (xs.length - a0) : Nat) : Int), .int .u32 ak1]⟩⟩, ⟨ob, ok, kb⟩, ⟨some b9, true, ⟨true, 28, [.string ⟨#[]⟩, .string ⟨#[116]⟩, .bool false, .bool false, .bool false, .int .i64 8192, .int .i64 (g : Int), .int .i64 65536, .bool true, .bool true]⟩⟩]) ∨ (∃ (c kk : Nat) (ob : Option Nat) (ok : Bool) (kb : Blk) (ux : Value) (tv ak0 ak1 : Int), m = 0 ∧ (e < xs.length) ∧ (kk ≤ e) ∧ (∀ H2 : Hp, (∀ q, ob = some q → H2.m q = some kb) → Sl H2 1 e ((xs.take e).map (Value.int .u8)) ux) ∧ (∀ q, ob ≠ some q → Apart q ux) ∧ t1 13 = .slice (some ⟨c, 0, none⟩) 1 14 ∧ t1 14 = .slice none 0 0 ∧ t1 15 = .int .i64 (e : Int) ∧ t1 16 = .int .i64 (kk : Int) ∧ Stt [] H H1 [⟨some b41, true, ⟨true, 64, [.string ⟨#[]⟩, .string ⟨#[116]⟩, .bool false, .bool false, .bool false, .int .i64 8192, .int .i64 (g : Int), .int .i64 65536, .bool true, .bool true, .slice none 0 0, .int .u32 (IntKind.u32.wrap (1 + 1)), .int .u32 1, .int .u32 tv, .slice none 0 0, .slice (some ⟨wb, 0, none⟩) 1 12, .bool false, .slice (some ⟨rb, 0, none⟩) 1 8]⟩⟩, ⟨some c, true, ⟨true, 37, [.int .u8 49, .int .u8 128, .int .u8 0, .int .u8 0, .int .u8 0, .int .u32 7, .int .u32 tv, .int .u32 1, .int .u32 (IntKind.u32.wrap (1 + 1)), .int .u32 (IntKind.u32.wrap (IntKind.u32.wrap ((IntKind.u32.wrap (1 + 1)) + 16) - 1)), .int .u32 ak0, .int .u32 (e : Int), .int .u32 ((min g (xs.length - (e)) : Nat) : Int), .slice none 0 0]⟩⟩, ⟨some wb, true, ⟨true, 76, [.int .u32 7, .int .u8 0, .int .u8 0, cdb, ux, .int .i64 (xs.length : Int), .int .u8 0, .int .u32 0, .int .u32 tv, .int .i64 (e : Int), .int .i64 ((min g (xs.length - e) : Nat) : Int), .int .u32 ak1]⟩⟩, ⟨ob, ok, kb⟩, ⟨some b9, true, ⟨true, 28, [.string ⟨#[]⟩, .string ⟨#[116]⟩, .bool false, .bool false, .bool false, .int .i64 8192, .int .i64 (g : Int), .int .i64 65536, .bool true, .bool true]⟩⟩]) ∨ (∃ (ct bo : Nat) (tv : Int), m = 0 ∧ (e = xs.length) ∧ t1 13 = .slice none 0 0 ∧ t1 14 = .slice (some ⟨ct, 0, none⟩) 1 8 ∧ t1 15 = .int .i64 (e : Int) ∧ Stt [] H H1 [⟨some b41, true, ⟨true, 64, [.string ⟨#[]⟩, .string ⟨#[116]⟩, .bool false, .bool false, .bool false, .int .i64 8192, .int .i64 (g : Int), .int .i64 65536, .bool true, .bool true, .slice none 0 0, .int .u32 (IntKind.u32.wrap (1 + 1)), .int .u32 1, .int .u32 tv, .slice none 0 0, .slice none 0 0, .bool false, .slice (some ⟨rb, 0, none⟩) 1 8]⟩⟩, ⟨some ct, true, ⟨true, 41, [.int .u32 7, .int .u8 0, .int .u8 0, cdb, .slice (some ⟨bo, 0, none⟩) xs.length 1, .int .i64 (xs.length : Int), .int .u8 0, .int .u32 0]⟩⟩, ⟨some bo, true, ⟨true, 5, xs.map (Value.int .u8)⟩⟩])) _ (.inl ⟨a0, kk, ob, ok, kb, ux, ak1, rfl, ⟨Nat.le_refl _, by omega⟩, hkk, hU, hA, rfl, rfl, rfl, rfl, (st.sel [0, 2, 3, 4] (by decide))⟩) [8, 13, 14, 15, 16, 19, 20, 115, 116, 117, 118, 119, 120, 121, 122, 123, 124, 125, 126, 127, 128, 129, 130, 131, 132, 133, 134, 135, 136, 137, 138, 139, 140, 141, 142, 143, 144, 145, 146, 147, 148, 149, 150, 151, 152, 153, 154, 155, 156, 157, 158, 159, 160, 161, 162, 163, 164, 165, 166, 167, 168, 169, 170] (by decide) ?_
     rintro m t1 H1 hk hI
     rcases hI with hI | hI | hI
     ·obtain ⟨ai, kk, ob, ok, kb, ux, ak1, rfl, hai, hkk, hU, hA, ht13, ht14, ht15, ht16, st⟩ := hI
      obtain ⟨u, rfl⟩ : ∃ u, t1 = (upd (upd (upd (upd (mix [8, 13, 14, 15, 16, 19, 20, 115, 116, 117, 118, 119, 120, 121, 122, 123, 124, 125, 126, 127, 128, 129, 130, 131, 132, 133, 134, 135, 136, 137, 138, 139, 140, 141, 142, 143, 144, 145, 146, 147, 148, 149, 150, 151, 152, 153, 154, 155, 156, 157, 158, 159, 160, 161, 162, 163, 164, 165, 166, 167, 168, 169, 170] _ u) (some 13) _) (some 14) _) (some 15) _) (some 16) _) := ⟨t1, by rw [← hk, upd_self ht13, upd_self ht14, upd_self ht15, upd_self ht16]⟩
      clear hk ht13 ht14 ht15 ht16
      show AWl _ _ _ _ _
      iterate 2 refine aN rfl rfl (by constructor) ?_
      refine aBinV (.bool true) rfl rfl (ltT (by omega)) ?_
      refine sE ?_
      show AW _ (.cond _ _ _) _ _ _
      refine cT rfl ?_
      show AWl _ _ _ _ _
      iterate 2 refine aN rfl rfl (by constructor) ?_
      refine aBinV (.int .i64 ((e - ai : Nat) : Int)) rfl rfl (subI (by omega) (by omega)) ?_
      refine aN rfl rfl (by constructor) ?_
      refine sE ?_
      refine AW_cutK (b := .seq (.list (⟨some 137, _, _⟩ :: _)) _) (fun t1 H1 => ∃ (q : Nat), (1 ≤ q ∧ q ≤ e - ai) ∧ t1 19 = .int .i64 (q : Int) ∧ Stt [] H H1 [⟨some b41, true, ⟨true, 64, [.string ⟨#[]⟩, .string ⟨#[116]⟩, .bool false, .bool false, .bool false, .int .i64 8192, .int .i64 (g : Int), .int .i64 65536, .bool true, .bool true, .slice none 0 0, .int .u32 (IntKind.u32.wrap (1 + 1)), .int .u32 1, .int .u32 tv, .slice none 0 0, .slice (some ⟨wb, 0, none⟩) 1 12, .bool false, .slice (some ⟨rb, 0, none⟩) 1 8]⟩⟩, ⟨some wb, true, ⟨true, 76, [.int .u32 7, .int .u8 0, .int .u8 0, cdb, ux, .int .i64 (xs.length : Int), .int .u8 0, .int .u32 0, .int .u32 tv, .int .i64 (a0 : Int), .int .i64 ((min g (xs.length - a0) : Nat) : Int), .int .u32 ak1]⟩⟩, ⟨ob, ok, kb⟩, ⟨some b9, true, ⟨true, 28, [.string ⟨#[]⟩, .string ⟨#[116]⟩, .bool false, .bool false, .bool false, .int .i64 8192, .int .i64 (g : Int), .int .i64 65536, .bool true, .bool true]⟩⟩]) [19, 121, 122, 123, 124, 125, 126, 127, 128, 129, 130, 131, 132, 133, 134, 135, 136] (by decide) ?_ fun t1 H1 hk hI => ?_
      ·show AWl _ _ _ _ _
       refine aN rfl rfl (by constructor) ?_
       refine aMovV (Value.slice pk ks.length ck) rfl ?_
       refine aLen (st.slc hk) rfl ?_
       refine aBinV (.bool (decide (kk < ks.length))) rfl rfl (by exact congrArg (fun q => some (Value.bool q)) (decide_eq_decide.2 (by omega))) ?_
       refine aN rfl rfl (by constructor) ?_
       refine gCase 125 rfl (fun h14 => ?_) (fun h14 => ?_)
       ·refine gT rfl ?_
        refine aN rfl rfl (by constructor) ?_
        refine gT rfl ?_
        iterate 2 refine aN rfl rfl (by constructor) ?_
        refine sE ?_
        show AW _ (.cond _ _ _) _ _ _
        refine cC' rfl (fun h15 => ?_) (fun h15 => ?_)
        ·show AWl _ _ _ _ _
         have hkx : decide (kk < ks.length) = true := by first | assumption | simp_all
         refine aN rfl rfl (by constructor) ?_
         refine aMovV (Value.slice pk ks.length ck) rfl ?_
         refine aN rfl rfl (by constructor) ?_
         refine aIxB (st.slc hk) rfl rfl (by have := of_decide_eq_true hkx; omega) fun b132 o132 g132 => ?_
         rw [Int.toNat_natCast] at g132
         have hc0 : 0 ≤ ks.getD kk 0 ∧ ks.getD kk 0 ≤ 255 := getD_byte hkb kk
         refine aLdG rfl g132 ?_
         refine aConvV (n' := (ks.getD kk 0)) rfl (by first | exact c64 (by omega) | exact c32w (by omega)) ?_
         refine aBinV (.int .i64 (1 + ks.getD kk 0)) rfl rfl (addI rfl (by omega)) ?_
         refine aMinV (r := ((min (e - ai) (1 + (ks.getD kk 0).toNat) : Nat) : Int)) rfl rfl (by split <;> omega) ?_
         refine aN rfl rfl (by constructor) ?_
         refine sE ?_
         exact ⟨(min (e - ai) (1 + (ks.getD kk 0).toNat)), by omega, rfl, (st.sel [0, 1, 2, 3] (by decide))⟩
        ·exact ⟨(e - ai), by omega, rfl, (st.sel [0, 1, 2, 3] (by decide))⟩
       ·refine gF rfl (by decide) ?_
        refine gF rfl (by decide) ?_
        refine aN rfl rfl (by constructor) ?_
        refine sE ?_
        show AW _ (.cond _ _ _) _ _ _
        refine cF' rfl ?_
        exact ⟨(e - ai), by omega, rfl, (st.sel [0, 1, 2, 3] (by decide))⟩
      ·obtain ⟨q, hq, ht19, st⟩ := hI
       obtain ⟨u, rfl⟩ : ∃ u, t1 = (upd (mix [19, 121, 122, 123, 124, 125, 126, 127, 128, 129, 130, 131, 132, 133, 134, 135, 136] _ u) (some 19) _) := ⟨t1, by rw [← hk, upd_self ht19]⟩
       clear hk ht19
       show AWl _ _ _ _ _
       refine aN rfl rfl (by constructor) ?_
       refine aBinV (.int .i64 ((kk : Int) + 1)) rfl rfl (addI rfl (by omega)) ?_
       refine aN rfl rfl (by constructor) ?_
       refine sE ?_
       show AWl _ _ _ _ _
       iterate 2 refine aN rfl rfl (by constructor) ?_
       refine aConvV (n' := (ai : Int)) rfl (by first | exact c64 (by omega) | exact c32w (by omega)) ?_
       refine aBld rfl (by repeat constructor) ?_
       refine aMovV (Value.slice px xs.length cx) rfl ?_
       iterate 3 refine aN rfl rfl (by constructor) ?_
       refine aBinV (.int .i64 ((ai + q : Nat) : Int)) rfl rfl (addI (by omega) (by omega)) ?_
       refine aCutLH (st.slc hx) rfl rfl rfl (by omega) fun v148 s148 => ?_
       rw [Int.toNat_natCast, Int.toNat_natCast, show ai + q - ai = q by omega] at s148
       obtain ⟨p148, c148, rfl⟩ := (s148 _ hx).shape
       refine aBld rfl (by repeat constructor) ?_
       refine aNewP st rfl rfl (by repeat constructor) fun b20 H16 st => ?_
       refine aSt st 0 rfl rfl rfl rfl (by first | rfl | simp [cellsOf, *]) (by first | decide | (simp [*]; done) | (simp [k8]; done)) (by repeat constructor) fun H17 st => ?_
       refine sE ?_
       show AWl _ _ _ _ _
       iterate 2 refine aN rfl rfl (by constructor) ?_
       refine aBinV (.int .i64 ((ai + q : Nat) : Int)) rfl rfl (addI (by omega) (by omega)) ?_
       refine aN rfl rfl (by constructor) ?_
       refine sE ?_
       show AWl _ _ _ _ _
       iterate 3 refine aN rfl rfl (by constructor) ?_
       refine sE ?_
       show AW _ (.cond _ _ _) _ _ _
       refine cC' rfl (fun h18 => ?_) (fun h18 => ?_)
       ·have hqe : (((ai + q : Nat) : Int) = (e : Int)) := by simpa using h18
        show AWl _ _ _ _ _
        refine aN rfl rfl (by constructor) ?_
        refine aSt st 0 rfl rfl rfl rfl (by first | rfl | simp [cellsOf, *]) (by first | decide | (simp [*]; done) | (simp [k8]; done)) (by repeat constructor) fun H19 st => ?_
        refine sE ?_
        show AWl _ _ _ _ _
        refine aN rfl rfl (by constructor) ?_
        refine aN (v := .int .i64 0) rfl rfl (by constructor) ?_
        refine aBinV (.bool false) rfl rfl rfl ?_
        refine aN rfl rfl (by constructor) ?_
        refine gT rfl ?_
        refine aN rfl rfl (by constructor) ?_
        refine gT rfl ?_
        refine aN (v := .int .i64 0) rfl rfl (by constructor) ?_
        refine gT rfl ?_
        refine aBinV (.bool false) rfl rfl rfl ?_
        refine aN rfl rfl (by constructor) ?_
        refine sE ?_
        show AW _ (.cond _ _ _) _ _ _
        refine cF' rfl ?_
        show AWl _ _ _ _ _
        refine aN rfl rfl (by constructor) ?_
        refine aLdA st 0 rfl rfl (by first | decide | simp [*]) (by repeat constructor) ?_
        have heq : ai + q = e := by omega
        rcases Nat.lt_or_ge e xs.length with heN | heN
        ·have hu := hU _ (st.got 3 rfl).1
         refine aC (in_data_b (e := e) (g := g) (N := xs.length) (fr := (a0 : Int)) (mo := ((min g (xs.length - a0) : Nat) : Int)) (rdy := tv) (ak := ak1) (cdb := cdb) (q := q) (kn := ai) (st.get (j := 1) rfl) (st.get (j := 2) rfl) (by have := st.ne 2 1 rfl rfl (by decide); simpa using this) hu (hA _ (st.ne 3 1 rfl rfl (by decide))) (hA _ (st.ne 3 2 rfl rfl (by decide))) (s148 _ (st.slc hx)) (st.apart (j := 1) rfl (s148 _ hx)) (st.apart (j := 2) rfl (s148 _ hx)) (by omega) (by omega) heN (by omega) (by omega) (by omega)) fun v168 H20 ⟨c, bo, hv, st1⟩ => ?_
         subst hv
         replace st := st.call2 (o1 := some b41) (o2 := some wb) 1 1 rfl rfl st1 rfl
         clear st1
         rw [← List.take_add] at st
         iterate 5 refine aN rfl rfl (by constructor) ?_
         refine sE ?_
         rw [heq] at st
         exact ⟨_, by omega, .inr (.inl ⟨c, kk + 1, some bo, true, ⟨true, 5, (xs.take e).map (Value.int .u8)⟩, (.slice (some ⟨bo, 0, none⟩) e 1), (IntKind.u32.wrap (tv + 1)), ak1, (IntKind.u32.wrap (ak1 + 1)), rfl, heN, by omega, held_own (by rw [List.length_map, List.length_take]; omega) (by omega), fun q0 h => ap_own q0 h, rfl, rfl, congrArg (fun n : Nat => Value.int .i64 (n : Int)) heq, congrArg (Value.int .i64) (by omega), (st.sel [0, 2, 1, 3, 6] (by decide))⟩)⟩
        ·replace heN : e = xs.length := by omega
         have hu := hU _ (st.got 3 rfl).1
         refine aC (in_data_c (e := e) (g := g) (N := xs.length) (fr := (a0 : Int)) (mo := ((min g (xs.length - a0) : Nat) : Int)) (rdy := tv) (ak := ak1) (cdb := cdb) (q := q) (kn := ai) (st.get (j := 1) rfl) (st.get (j := 2) rfl) (by have := st.ne 2 1 rfl rfl (by decide); simpa using this) hu (hA _ (st.ne 3 1 rfl rfl (by decide))) (hA _ (st.ne 3 2 rfl rfl (by decide))) (s148 _ (st.slc hx)) (st.apart (j := 1) rfl (s148 _ hx)) (st.apart (j := 2) rfl (s148 _ hx)) (by omega) (by omega) heN (by omega) (by omega) (by omega)) fun v168 H21 ⟨c, bo, hv, st1⟩ => ?_
         subst hv
         replace st := st.call2 (o1 := some b41) (o2 := some wb) 1 1 rfl rfl st1 rfl
         clear st1
         rw [← List.take_add] at st
         iterate 5 refine aN rfl rfl (by constructor) ?_
         refine sE ?_
         rw [heq, heN, List.take_length] at st
         exact ⟨_, by omega, .inr (.inr (⟨c, bo, tv, rfl, heN, rfl, rfl, congrArg (fun n : Nat => Value.int .i64 (n : Int)) heq, (st.sel [0, 1, 2] (by decide))⟩))⟩
       ·have hqe : ¬ (((ai + q : Nat) : Int) = (e : Int)) := by simpa using h18
        show AWl _ _ _ _ _
        refine aN rfl rfl (by constructor) ?_
        refine aN (v := .int .i64 0) rfl rfl (by constructor) ?_
        refine aBinV (.bool false) rfl rfl rfl ?_
        refine aN rfl rfl (by constructor) ?_
        refine gT rfl ?_
        refine aN rfl rfl (by constructor) ?_
        refine gT rfl ?_
        refine aN (v := .int .i64 0) rfl rfl (by constructor) ?_
        refine gT rfl ?_
        refine aBinV (.bool false) rfl rfl rfl ?_
        refine aN rfl rfl (by constructor) ?_
        refine sE ?_
        show AW _ (.cond _ _ _) _ _ _
        refine cF' rfl ?_
        show AWl _ _ _ _ _
        refine aN rfl rfl (by constructor) ?_
        refine aLdA st 0 rfl rfl (by first | decide | simp [*]) (by repeat constructor) ?_
        have hu := hU _ (st.got 3 rfl).1
        refine aC (in_data_a (e := e) (g := g) (N := xs.length) (fr := (a0 : Int)) (mo := ((min g (xs.length - a0) : Nat) : Int)) (rdy := tv) (ak := ak1) (cdb := cdb) (q := q) (kn := ai) (st.get (j := 1) rfl) (st.get (j := 2) rfl) (by have := st.ne 2 1 rfl rfl (by decide); simpa using this) hu (hA _ (st.ne 3 1 rfl rfl (by decide))) (hA _ (st.ne 3 2 rfl rfl (by decide))) (s148 _ (st.slc hx)) (st.apart (j := 1) rfl (s148 _ hx)) (st.apart (j := 2) rfl (s148 _ hx)) (by omega) (by omega) (by omega) (by omega) (by omega)) fun v168 H22 ⟨bo, hv, st1⟩ => ?_
        subst hv
        replace st := st.call2 (o1 := some b41) (o2 := some wb) 1 1 rfl rfl st1 rfl
        clear st1
        rw [← List.take_add] at st
        iterate 5 refine aN rfl rfl (by constructor) ?_
        refine sE ?_
        exact ⟨_, by omega, .inl ⟨ai + q, kk + 1, some bo, true, ⟨true, 5, (xs.take (ai + q)).map (Value.int .u8)⟩, (.slice (some ⟨bo, 0, none⟩) (ai + q) 1), ak1, rfl, by omega, by omega, held_own (by rw [List.length_map, List.length_take]; omega) (by omega), fun q0 h => ap_own q0 h, rfl, rfl, rfl, congrArg (Value.int .i64) (by omega), (st.sel [0, 1, 2, 5] (by decide))⟩⟩
     ·obtain ⟨c, kk, ob, ok, kb, ux, tv, ak0, ak1, rfl, heN, hkk, hU, hA, ht13, ht14, ht15, ht16, st⟩ := hI
      obtain ⟨u, rfl⟩ : ∃ u, t1 = (upd (upd (upd (upd (mix [8, 13, 14, 15, 16, 19, 20, 115, 116, 117, 118, 119, 120, 121, 122, 123, 124, 125, 126, 127, 128, 129, 130, 131, 132, 133, 134, 135, 136, 137, 138, 139, 140, 141, 142, 143, 144, 145, 146, 147, 148, 149, 150, 151, 152, 153, 154, 155, 156, 157, 158, 159, 160, 161, 162, 163, 164, 165, 166, 167, 168, 169, 170] _ u) (some 13) _) (some 14) _) (some 15) _) (some 16) _) := ⟨t1, by rw [← hk, upd_self ht13, upd_self ht14, upd_self ht15, upd_self ht16]⟩
      clear hk ht13 ht14 ht15 ht16
      show AWl _ _ _ _ _
      iterate 2 refine aN rfl rfl (by constructor) ?_
      refine aBinV (.bool false) rfl rfl (ltF (Int.le_refl _)) ?_
      refine sE ?_
      show AW _ (.cond _ _ _) _ _ _
      refine cF' rfl ?_
      exact ⟨_, by omega, .inl ⟨c, e, kk, ob, ok, kb, ux, tv, ak0, ak1, rfl, heN, hkk, hU, hA, rfl, rfl, rfl, rfl, (st.sel [0, 1, 2, 3, 4] (by decide))⟩⟩
     ·obtain ⟨ct, bo, tv, rfl, heN, ht13, ht14, ht15, st⟩ := hI
      obtain ⟨u, rfl⟩ : ∃ u, t1 = (upd (upd (upd (mix [8, 13, 14, 15, 16, 19, 20, 115, 116, 117, 118, 119, 120, 121, 122, 123, 124, 125, 126, 127, 128, 129, 130, 131, 132, 133, 134, 135, 136, 137, 138, 139, 140, 141, 142, 143, 144, 145, 146, 147, 148, 149, 150, 151, 152, 153, 154, 155, 156, 157, 158, 159, 160, 161, 162, 163, 164, 165, 166, 167, 168, 169, 170] _ u) (some 13) _) (some 14) _) (some 15) _) := ⟨t1, by rw [← hk, upd_self ht13, upd_self ht14, upd_self ht15]⟩
      clear hk ht13 ht14 ht15
      show AWl _ _ _ _ _
      iterate 2 refine aN rfl rfl (by constructor) ?_
      refine aBinV (.bool false) rfl rfl (ltF (Int.le_refl _)) ?_
      refine sE ?_
      show AW _ (.cond _ _ _) _ _ _
      refine cF' rfl ?_
      exact ⟨_, by omega, .inr (⟨ct, bo, tv, rfl, rfl, rfl, congrArg (fun n : Nat => Value.int .i64 (n : Int)) heN, (st.sel [0, 1, 2] (by decide))⟩)⟩
    ·obtain ⟨ct, bo, tv, rfl, ht13, ht14, ht15, st⟩ := hI
     obtain ⟨u, rfl⟩ : ∃ u, t1 = (upd (upd (upd (mix [8, 13, 14, 15, 16, 17, 18, 19, 20, 63, 64, 65, 66, 67, 68, 69, 70, 71, 72, 73, 74, 75, 76, 77, 78, 79, 80, 81, 82, 83, 84, 85, 86, 87, 88, 89, 90, 91, 92, 93, 94, 95, 96, 97, 98, 99, 100, 101, 102, 103, 104, 105, 106, 107, 108, 109, 110, 111, 112, 113, 114, 115, 116, 117, 118, 119, 120, 121, 122, 123, 124, 125, 126, 127, 128, 129, 130, 131, 132, 133, 134, 135, 136, 137, 138, 139, 140, 141, 142, 143, 144, 145, 146, 147, 148, 149, 150, 151, 152, 153, 154, 155, 156, 157, 158, 159, 160, 161, 162, 163, 164, 165, 166, 167, 168, 169, 170] _ u) (some 13) _) (some 14) _) (some 15) _) := ⟨t1, by rw [← hk, upd_self ht13, upd_self ht14, upd_self ht15]⟩
     clear hk ht13 ht14 ht15
     show AWl _ _ _ _ _
     refine aN rfl rfl (by constructor) ?_
     refine aN (v := .int .i64 1) rfl rfl (by constructor) ?_
     refine aBinV (.bool false) rfl rfl rfl ?_
     refine sE ?_
     show AW _ (.cond _ _ _) _ _ _
     refine cF' rfl ?_
     show AWp _ _ _ _ _
     refine aN rfl rfl (by constructor) ?_
     refine aN (v := .int .i64 0) rfl rfl (by constructor) ?_
     refine aBinV (.bool true) rfl rfl rfl ?_
     refine aN rfl rfl (by constructor) ?_
     refine gT rfl ?_
     refine aN rfl rfl (by constructor) ?_
     refine gT rfl ?_
     refine aN (v := .int .i64 1) rfl rfl (by constructor) ?_
     refine gT rfl ?_
     refine aBinV (.bool true) rfl rfl rfl ?_
     iterate 2 refine aN rfl rfl (by constructor) ?_
     refine gT rfl ?_
     refine aN rfl rfl (by constructor) ?_
     refine gT rfl ?_
     refine aN rfl rfl (by constructor) ?_
     refine gT rfl ?_
     refine aN rfl rfl (by constructor) ?_
     refine gT rfl ?_
     refine aLd st 1 rfl rfl rfl (by constructor) ?_
     refine gT rfl ?_
     refine aBinV (.bool true) rfl rfl rfl ?_
     iterate 2 refine aN rfl rfl (by constructor) ?_
     refine gT rfl ?_
     refine aN rfl rfl (by constructor) ?_
     refine gT rfl ?_
     refine aN rfl rfl (by constructor) ?_
     refine gT rfl ?_
     refine aN rfl rfl (by constructor) ?_
     refine gT rfl ?_
     refine aLd st 1 rfl rfl rfl (by constructor) ?_
     refine gT rfl ?_
     refine aText (st.rowAll 2 rfl (by rw [List.length_map, Nat.mul_one])) rfl ?_
     refine gT rfl ?_
     refine aMovV (Value.slice px xs.length cx) rfl ?_
     refine gT rfl ?_
     refine aText (st.slc hx) rfl ?_
     refine gT rfl ?_
     refine aEqSS rfl rfl ?_
     iterate 2 refine aN rfl rfl (by constructor) ?_
     refine gT rfl ?_
     refine aN rfl rfl (by constructor) ?_
     refine gT rfl ?_
     refine aMovV (Value.slice px xs.length cx) rfl ?_
     refine gT rfl ?_
     refine aLen (st.slc hx) rfl ?_
     refine gT rfl ?_
     refine aBinV (.bool true) rfl rfl (eqT rfl) ?_
     iterate 2 refine aN rfl rfl (by constructor) ?_
     refine gT rfl ?_
     refine aN rfl rfl (by constructor) ?_
     refine ⟨?_, trivial⟩
     refine gT rfl ?_
     refine aC (waits_n (st.get (j := 0) rfl)) fun v204 H23 ⟨hv, st1⟩ => ?_
     subst hv
     replace st := st.call st1 rfl
     clear st1
     refine ⟨⟨⟨some true, .bool true, (h_Text (st.slc hx) rfl)⟩, ⟨some true, .bool true, (h_Text (st.rowAll 2 rfl (by rw [List.length_map, Nat.mul_one])) rfl)⟩, ⟨some true, .bool true, (h_Ld st 1 rfl rfl rfl (by constructor))⟩, ⟨some true, .bool true, (h_Ld st 1 rfl rfl rfl (by constructor))⟩, trivial⟩, ?_⟩
     refine gT rfl ?_
     refine aBinV (.bool true) rfl rfl rfl ?_
     iterate 2 refine aN rfl rfl (by constructor) ?_
     refine pE ?_
     refine ⟨_, out1 (r_tmp rfl (by constructor)), ?_⟩
     rfl
   ·obtain rfl : n0 = xs.length := by omega
    rw [List.take_length] at s54
    refine aC (in_wf (kn := xs.length) (n := (xs.length : Int)) (st.get (j := 1) rfl) (by omega)) fun v59 H24 ⟨c59, rb, cdb, hv, st1⟩ => ?_
    subst hv
    replace st := st.callX 1 rfl st1 rfl
    clear st1
    iterate 5 refine aN rfl rfl (by constructor) ?_
    refine sE ?_
    show AWl _ _ _ _ _
    iterate 2 refine aN rfl rfl (by constructor) ?_
    refine sE ?_
    show AWl _ _ _ _ _
    refine aN rfl rfl (by constructor) ?_
    refine sE ?_
    show AW _ (.loop _) _ _ _
    refine AW_loopN (fun m t1 H1 => m = 0 ∧ t1 13 = .slice none 0 0 ∧ t1 14 = .slice (some ⟨c59, 0, none⟩) 1 8 ∧ t1 15 = .int .i64 (xs.length : Int) ∧ Stt [] H H1 [⟨some b41, true, ⟨true, 64, [.string ⟨#[]⟩, .string ⟨#[116]⟩, .bool false, .bool false, .bool false, .int .i64 8192, .int .i64 (g : Int), .int .i64 65536, .bool true, .bool true, .slice none 0 0, .int .u32 (IntKind.u32.wrap (1 + 1)), .int .u32 1, .int .u32 0, .slice none 0 0, .slice none 0 0, .bool false, .slice (some ⟨rb, 0, none⟩) 1 8]⟩⟩, ⟨some c59, true, ⟨true, 41, [.int .u32 7, .int .u8 0, .int .u8 0, cdb, .slice p54 xs.length c54, .int .i64 (xs.length : Int), .int .u8 0, .int .u32 0]⟩⟩]) 0 ⟨rfl, rfl, rfl, rfl, (st.sel [0, 1] (by decide))⟩ [8, 13, 14, 15, 16, 17, 18, 19, 20, 63, 64, 65, 66, 67, 68, 69, 70, 71, 72, 73, 74, 75, 76, 77, 78, 79, 80, 81, 82, 83, 84, 85, 86, 87, 88, 89, 90, 91, 92, 93, 94, 95, 96, 97, 98, 99, 100, 101, 102, 103, 104, 105, 106, 107, 108, 109, 110, 111, 112, 113, 114, 115, 116, 117, 118, 119, 120, 121, 122, 123, 124, 125, 126, 127, 128, 129, 130, 131, 132, 133, 134, 135, 136, 137, 138, 139, 140, 141, 142, 143, 144, 145, 146, 147, 148, 149, 150, 151, 152, 153, 154, 155, 156, 157, 158, 159, 160, 161, 162, 163, 164, 165, 166, 167, 168, 169, 170] (by decide) ?_
    rintro m t1 H1 hk hI
    obtain ⟨rfl, ht13, ht14, ht15, st⟩ := hI
    obtain ⟨u, rfl⟩ : ∃ u, t1 = (upd (upd (upd (mix [8, 13, 14, 15, 16, 17, 18, 19, 20, 63, 64, 65, 66, 67, 68, 69, 70, 71, 72, 73, 74, 75, 76, 77, 78, 79, 80, 81, 82, 83, 84, 85, 86, 87, 88, 89, 90, 91, 92, 93, 94, 95, 96, 97, 98, 99, 100, 101, 102, 103, 104, 105, 106, 107, 108, 109, 110, 111, 112, 113, 114, 115, 116, 117, 118, 119, 120, 121, 122, 123, 124, 125, 126, 127, 128, 129, 130, 131, 132, 133, 134, 135, 136, 137, 138, 139, 140, 141, 142, 143, 144, 145, 146, 147, 148, 149, 150, 151, 152, 153, 154, 155, 156, 157, 158, 159, 160, 161, 162, 163, 164, 165, 166, 167, 168, 169, 170] _ u) (some 13) _) (some 14) _) (some 15) _) := ⟨t1, by rw [← hk, upd_self ht13, upd_self ht14, upd_self ht15]⟩
    clear hk ht13 ht14 ht15
    show AWl _ _ _ _ _
    refine aN rfl rfl (by constructor) ?_
    refine aN (v := .int .i64 1) rfl rfl (by constructor) ?_
    refine aBinV (.bool false) rfl rfl rfl ?_
    refine sE ?_
    show AW _ (.cond _ _ _) _ _ _
    refine cF' rfl ?_
    show AWp _ _ _ _ _
    refine aN rfl rfl (by constructor) ?_
    refine aN (v := .int .i64 0) rfl rfl (by constructor) ?_
    refine aBinV (.bool true) rfl rfl rfl ?_
    refine aN rfl rfl (by constructor) ?_
    refine gT rfl ?_
    refine aN rfl rfl (by constructor) ?_
    refine gT rfl ?_
    refine aN (v := .int .i64 1) rfl rfl (by constructor) ?_
    refine gT rfl ?_
    refine aBinV (.bool true) rfl rfl rfl ?_
    iterate 2 refine aN rfl rfl (by constructor) ?_
    refine gT rfl ?_
    refine aN rfl rfl (by constructor) ?_
    refine gT rfl ?_
    refine aN rfl rfl (by constructor) ?_
    refine gT rfl ?_
    refine aN rfl rfl (by constructor) ?_
    refine gT rfl ?_
    refine aLd st 1 rfl rfl rfl (by constructor) ?_
    refine gT rfl ?_
    refine aBinV (.bool true) rfl rfl rfl ?_
    iterate 2 refine aN rfl rfl (by constructor) ?_
    refine gT rfl ?_
    refine aN rfl rfl (by constructor) ?_
    refine gT rfl ?_
    refine aN rfl rfl (by constructor) ?_
    refine gT rfl ?_
    refine aN rfl rfl (by constructor) ?_
    refine gT rfl ?_
    refine aLdQ st 1 rfl rfl rfl (rfl : (Value.slice p54 xs.length c54) = _) ?_
    refine gT rfl ?_
    refine aText (s54 _ (st.slc hx)) rfl ?_
    refine gT rfl ?_
    refine aMovV (Value.slice px xs.length cx) rfl ?_
    refine gT rfl ?_
    refine aText (st.slc hx) rfl ?_
    refine gT rfl ?_
    refine aEqSS rfl rfl ?_
    iterate 2 refine aN rfl rfl (by constructor) ?_
    refine gT rfl ?_
    refine aN rfl rfl (by constructor) ?_
    refine gT rfl ?_
    refine aMovV (Value.slice px xs.length cx) rfl ?_
    refine gT rfl ?_
    refine aLen (st.slc hx) rfl ?_
    refine gT rfl ?_
    refine aBinV (.bool true) rfl rfl (eqT rfl) ?_
    iterate 2 refine aN rfl rfl (by constructor) ?_
    refine gT rfl ?_
    refine aN rfl rfl (by constructor) ?_
    refine ⟨?_, trivial⟩
    refine gT rfl ?_
    refine aC (waits_n (st.get (j := 0) rfl)) fun v204 H25 ⟨hv, st1⟩ => ?_
    subst hv
    replace st := st.call st1 rfl
    clear st1
    refine ⟨⟨⟨some true, .bool true, (h_Text (st.slc hx) rfl)⟩, ⟨some true, .bool true, (h_Text (s54 _ (st.slc hx)) rfl)⟩, ⟨some true, .bool true, (h_Ld st 1 rfl rfl rfl (by constructor))⟩, ⟨some true, .bool true, (h_Ld st 1 rfl rfl rfl (by constructor))⟩, trivial⟩, ?_⟩
    refine gT rfl ?_
    refine aBinV (.bool true) rfl rfl rfl ?_
    iterate 2 refine aN rfl rfl (by constructor) ?_
    refine pE ?_
    refine ⟨_, out1 (r_tmp rfl (by constructor)), ?_⟩
    rfl
theorem args4 {P : Program} {H : Hp} {B D : Nat} {a b c d : TypeId} {xs : List Value} (h : datArgs P H B D [a, b, c, d] xs) : ∃ x0 x1 x2 x3, xs = [x0, x1, x2, x3] ∧ datV P H B D a x0 ∧ datV P H B D b x1 ∧ datV P H B D c x2 ∧ datV P H B D d x3 := by
  match xs, h with
  | [x0, x1, x2, x3], ⟨d0, d1, d2, d3, _⟩ => exact ⟨x0, x1, x2, x3, rfl, d0, d1, d2, d3⟩
theorem sessWrites_law {H : Hp} {B : Nat} {xs : List Value} (hro : Ro H) (hd : datArgs Try.prog H B 8 [23, 45, 45, 23] xs) : ACalls Try.prog 5 xs H fun v _ => v = .bool true := by
  obtain ⟨x0, x1, x2, x3, rfl, d0, d1, d2, d3⟩ := args4 hd
  obtain ⟨k, hx, wk, lk, _⟩ := arg_ints (e := 5) (k := .u8) (by kernel_rfl) (by kernel_rfl) (by kernel_rfl) d0
  obtain ⟨a, rfl, wa⟩ := arg_int (k := .u16) (by kernel_rfl) d1
  obtain ⟨b, rfl, wb⟩ := arg_int (k := .u16) (by kernel_rfl) d2
  obtain ⟨z, hz, wz, lz, _⟩ := arg_ints (e := 5) (k := .u8) (by kernel_rfl) (by kernel_rfl) (by kernel_rfl) d3
  obtain ⟨a, rfl⟩ := Int.eq_ofNat_of_zero_le (r16 wa).1
  obtain ⟨b, rfl⟩ := Int.eq_ofNat_of_zero_le (r16 wb).1
  have ha := (r16 wa).2
  have hb := (r16 wb).2
  exact writes_call hx hz (wf_bytes wz) (by omega) (by omega)

end Go.Proofs.Ytloeadlmcdddnaa.Abs
