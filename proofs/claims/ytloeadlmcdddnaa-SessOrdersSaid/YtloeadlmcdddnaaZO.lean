/- Sessions: commands in any order. -/
import Derived.Test.YtloeadlmcdddnaaZJ
set_option linter.unusedVariables false
set_option linter.unusedSimpArgs false
set_option maxRecDepth 100000
namespace Go.Proofs.Ytloeadlmcdddnaa.Abs
open Go Go.RowKit
variable {tg sg bu : Int}
theorem Stt.take2 {X : List Nat} {H0 H : Hp} {L : List Ent} {o1 o2 : Option Nat} {k1 k2 : Blk} (st : Stt X H0 H L) (i j : Nat) (hi : L[i]? = some ⟨o1, true, k1⟩) (hj : L[j]? = some ⟨o2, true, k2⟩) (hn : [i, j].Nodup) : Stt (o1.toList ++ o2.toList) H H [⟨o1, true, k1⟩, ⟨o2, true, k2⟩] := by
  have h := st.sel [i, j] hn
  simp only [List.filterMap_cons, hi, hj, List.filterMap_nil] at h
  refine ⟨st.wf, st.wf, Nat.le_refl _, fun _ _ _ => rfl, h.has, fun p hp ho => ⟨(h.own p hp ho).1, fun b hb => .inr ?_⟩, h.dis⟩
  rcases List.mem_cons.1 hp with rfl | hp
  · exact List.mem_append_left _ (by simpa using hb)
  · rw [List.mem_singleton.1 hp] at hb
    exact List.mem_append_right _ (by simpa using hb)
theorem Stt.take3 {X : List Nat} {H0 H : Hp} {L : List Ent} {o1 o2 o3 : Option Nat} {k1 k2 k3 : Blk} (st : Stt X H0 H L) (i j m : Nat) (hi : L[i]? = some ⟨o1, true, k1⟩) (hj : L[j]? = some ⟨o2, true, k2⟩) (hm : L[m]? = some ⟨o3, true, k3⟩) (hn : [i, j, m].Nodup) : Stt (o1.toList ++ o2.toList ++ o3.toList) H H [⟨o1, true, k1⟩, ⟨o2, true, k2⟩, ⟨o3, true, k3⟩] := by
  have h := st.sel [i, j, m] hn
  simp only [List.filterMap_cons, hi, hj, hm, List.filterMap_nil] at h
  refine ⟨st.wf, st.wf, Nat.le_refl _, fun _ _ _ => rfl, h.has, fun p hp ho => ⟨(h.own p hp ho).1, fun b hb => .inr ?_⟩, h.dis⟩
  rcases List.mem_cons.1 hp with rfl | hp
  · exact List.mem_append_left _ (List.mem_append_left _ (by simpa using hb))
  · rcases List.mem_cons.1 hp with rfl | hp
    · exact List.mem_append_left _ (List.mem_append_right _ (by simpa using hb))
    · rw [List.mem_singleton.1 hp] at hb
      exact List.mem_append_right _ (by simpa using hb)
def trE (j : Nat) : List Value := [.int .u32 ((100 + j : Nat) : Int), .int .u8 0, .int .u8 0, .slice none 0 0, .slice none 0 0, .int .i64 (IntKind.i64.wrap 0), .int .u8 64, .int .u32 0]
theorem trE_len (j : Nat) : (trE j).length = 8 := rfl
@[reducible] def TZ : Type := Nat × Value
def tkE (z : TZ) : List Value := [.int .u32 ((100 + z.1 : Nat) : Int), .int .u8 0, .int .u8 0, z.2, .slice none 0 0, .int .i64 (IntKind.i64.wrap 0), .int .u8 0, .int .u32 0]
theorem tkE_len (z : TZ) : (tkE z).length = 8 := rfl
def rdE (F : Int) (k : Nat) : List Value := [.int .u8 1, .int .u8 193, .int .u8 0, .int .u8 0, .int .u8 0, .int .u32 ((100 + k : Nat) : Int), .int .u32 0, .int .u32 (IntKind.u32.wrap (F + ((k : Nat) : Int))), .int .u32 0, .int .u32 671088640, .int .u32 0, .int .u32 0, .int .u32 0, .slice none 0 0]
theorem rdE_len {F : Int} (k : Nat) : (rdE F k).length = 14 := rfl
theorem range_getD {n j : Nat} (h : j < n) : (List.range n).getD j 0 = j := by simp [List.getD, h]
theorem flat_take {α : Type} {enc : α → List Value} {c : Nat} (hc : ∀ a, (enc a).length = c) : ∀ (l : List α) (i : Nat), (l.flatMap enc).take (i * c) = (l.take i).flatMap enc
  | [], i => by simp
  | a :: l, 0 => by simp
  | a :: l, i + 1 => by
    rw [List.flatMap_cons, show (i + 1) * c = c + i * c by rw [Nat.add_mul, Nat.one_mul, Nat.add_comm], List.take_append, hc, Nat.add_sub_cancel_left, flat_take hc l i, List.take_of_length_le (by rw [hc]; omega)]
    rfl
theorem flat_drop {α : Type} {enc : α → List Value} {c : Nat} (hc : ∀ a, (enc a).length = c) : ∀ (l : List α) (i : Nat), (l.flatMap enc).drop (i * c) = (l.drop i).flatMap enc
  | [], i => by simp
  | a :: l, 0 => by simp
  | a :: l, i + 1 => by
    rw [List.flatMap_cons, show (i + 1) * c = c + i * c by rw [Nat.add_mul, Nat.one_mul, Nat.add_comm], ← List.drop_drop, List.drop_left' (hc a), flat_drop hc l i]
    rfl
theorem erase_flat {α : Type} {enc : α → List Value} (l : List α) (i : Nat) : (l.take i).flatMap enc ++ (l.drop (i + 1)).flatMap enc = (l.eraseIdx i).flatMap enc := by
  rw [← List.flatMap_append, List.eraseIdx_eq_take_drop_succ]
theorem cv_eq {F : Int} {a b : Nat} (ha : a ≤ 100) (hb : b ≤ 100) : (IntKind.u32.wrap (F + (a : Int)) = IntKind.u32.wrap (F + (b : Int))) ↔ a = b := by
  rw [w32, w32]
  omega
theorem cv_sub {F : Int} {a b : Nat} (ha : a ≤ 15) (hb : b ≤ 16) : (IntKind.u32.wrap (IntKind.u32.wrap (F + (a : Int)) - IntKind.u32.wrap (F + (b : Int))) ≥ 16) ↔ a < b := by
  rw [w32, w32, w32]
  omega
theorem cv_step {F : Int} {n : Nat} : IntKind.u32.wrap (IntKind.u32.wrap (F + (n : Int)) + 1) = IntKind.u32.wrap (F + ((n + 1 : Nat) : Int)) := by
  rw [w32, w32, w32]
  omega
theorem drain_step {hs hs1 : List Nat} {zs : List TZ} {nx k i : Nat} {cdb : Value} (hz : zs.map (·.1) = List.range' nx zs.length) (hR : ∀ j, (j ∈ hs1 ∨ j < nx + zs.length) ↔ (j ∈ hs ∨ j < nx ∨ j = k)) (h15 : ∀ j ∈ hs1, j ≤ 15) (hi : i < hs1.length) (hit : hs1.getD i 0 = nx + zs.length) :
    (zs ++ [(nx + zs.length, cdb)]).map (·.1) = List.range' nx (zs ++ [(nx + zs.length, cdb)]).length ∧ (∀ j, (j ∈ hs1.eraseIdx i ∨ j < nx + (zs ++ [(nx + zs.length, cdb)]).length) ↔ (j ∈ hs ∨ j < nx ∨ j = k)) ∧ (∀ j ∈ hs1.eraseIdx i, j ≤ 15) ∧ nx + (zs ++ [(nx + zs.length, cdb)]).length ≤ 16 := by
  have e : hs1.getD i 0 = hs1[i] := by simp [List.getD, List.getElem?_eq_getElem hi]
  rw [e] at hit
  have hm : nx + zs.length ∈ hs1 := hit ▸ List.getElem_mem hi
  have hl : (zs ++ [(nx + zs.length, cdb)]).length = zs.length + 1 := by simp
  refine ⟨?_, fun j => ?_, fun j hj => h15 j (List.mem_of_mem_eraseIdx hj), ?_⟩
  · rw [hl, List.map_append, hz, List.range'_concat]
    simp
  · rw [← hR j, hl]
    constructor
    · rintro (h | h)
      · exact .inl (List.mem_of_mem_eraseIdx h)
      · by_cases hj : j < nx + zs.length
        · exact .inr hj
        · exact .inl (by rw [show j = nx + zs.length by omega]; exact hm)
    · rintro (h | h)
      · obtain ⟨m, hm1, hm2⟩ := List.getElem_of_mem h
        by_cases hmi : m = i
        · subst hmi
          exact .inr (by omega)
        · exact .inl (List.mem_eraseIdx_iff_getElem.2 ⟨m, hm1, hmi, hm2⟩)
      · exact .inr (by omega)
  · have := h15 _ hm
    rw [hl]
    omega
theorem mem_getD {l : List Nat} {k : Nat} (h : ∀ j, j < l.length → l.getD j 0 ≠ k) : k ∉ l := by
  intro hk
  obtain ⟨m, hm, he⟩ := List.getElem_of_mem hk
  refine h m hm ?_
  simp [List.getD, List.getElem?_eq_getElem hm, he]
theorem getD_le {l : List Nat} {b : Nat} (h : ∀ j ∈ l, j ≤ b) (i : Nat) : l.getD i 0 ≤ b := by
  by_cases hi : i < l.length
  · have e : l.getD i 0 = l[i] := by simp [List.getD, List.getElem?_eq_getElem hi]
    rw [e]
    exact h _ (List.getElem_mem hi)
  · simp [List.getD, List.getElem?_eq_none (by omega : l.length ≤ i)]
theorem command_o {H : Hp} {b nx : Nat} {rb : Option Nat} {cmd stat w1 : Int} {hd : Value} (st0 : Stt ([b] ++ rb.toList) H H [⟨some b, true, ⟨true, 64, [.string ⟨#[]⟩, .string ⟨#[116]⟩, .bool false, .bool false, .bool false, .int .i64 sg, .int .i64 bu, .int .i64 65536, .bool true, .bool true, .slice none 0 0, .int .u32 cmd, .int .u32 stat, .int .u32 tg, hd, .slice none 0 0, .bool false, accV rb nx 8]⟩⟩, ⟨rb, true, ⟨true, 41, (List.range nx).flatMap trE⟩⟩]) (hnx : nx ≤ 15) :
  ACalls Try.prog 34 [.pointer (some ⟨b, 0, none⟩), .agg #[.int .u8 1, .int .u8 193, .int .u8 0, .int .u8 0, .int .u8 0, .int .u32 ((100 + nx : Nat) : Int), .int .u32 0, .int .u32 w1, .int .u32 0, .int .u32 671088640, .int .u32 0, .int .u32 0, .int .u32 0, .slice none 0 0]] H (fun v H' => ∃ (c : Nat) (cdb : Value) (rb1 : Option Nat), v = .tuple #[.slice none 0 0, .slice (some ⟨c, 0, none⟩) 1 8] ∧ Stt ([b] ++ rb.toList) H H' [⟨some b, true, ⟨true, 64, [.string ⟨#[]⟩, .string ⟨#[116]⟩, .bool false, .bool false, .bool false, .int .i64 sg, .int .i64 bu, .int .i64 65536, .bool true, .bool true, .slice none 0 0, .int .u32 cmd, .int .u32 stat, .int .u32 tg, hd, .slice none 0 0, .bool false, accV rb1 (nx + 1) 8]⟩⟩, ⟨rb1, true, ⟨true, 41, (List.range (nx + 1)).flatMap trE⟩⟩, ⟨some c, true, ⟨true, 41, [.int .u32 ((100 + nx : Nat) : Int), .int .u8 0, .int .u8 0, cdb, .slice none 0 0, .int .i64 (IntKind.i64.wrap 0), .int .u8 0, .int .u32 0]⟩⟩]) := by
 refine acallsW Try.func34 f34_ok (Nat.le_of_ble_eq_true rfl) fun hw => ?_
 have st : Stt ([b] ++ rb.toList) H H [] := Stt.start hw
 replace st := st0
 unfold f34c
 show AWl _ _ _ _ _
 refine aBoxN st rfl rfl (by repeat constructor) rfl fun b3 H1 st => ?_
 iterate 2 refine aN rfl rfl (by constructor) ?_
 refine sE ?_
 show AWp _ _ _ _ _
 refine aN rfl rfl (by constructor) ?_
 refine aLd st 0 rfl rfl rfl (by constructor) ?_
 refine aN rfl rfl (by constructor) ?_
 refine aLd st 0 rfl rfl rfl (by constructor) ?_
 refine aN rfl rfl (by constructor) ?_
 refine aLd st 0 rfl rfl rfl (by constructor) ?_
 iterate 3 refine aN rfl rfl (by constructor) ?_
 refine aLd st 0 rfl rfl rfl (by constructor) ?_
 iterate 2 refine aN rfl rfl (by constructor) ?_
 refine aLd st 0 rfl rfl rfl (by constructor) ?_
 refine aN rfl rfl (by constructor) ?_
 refine ⟨?_, ?_⟩
 ·refine aC (attr_call) fun v16 H2 ⟨hv, st1⟩ => ?_
  subst hv
  replace st := st.call st1 rfl
  clear st1
  refine ⟨⟨(h_Ld st 0 rfl rfl rfl (by constructor)), (h_Ld st 0 rfl rfl rfl (by constructor)), (h_Ld st 0 rfl rfl rfl (by constructor)), (h_Ld st 0 rfl rfl rfl (by constructor)), trivial⟩, ?_⟩
  refine ⟨?_, ?_⟩
  ·refine aC (wbytes_call (xs := [671088640, 0, 0, 0]) (Stt.cutAt st 0 (o := 9) (n := 4) rfl (by decide) (show 9 + 4 ≤ 14 by decide)) (by decide)) fun v19 H3 ⟨oc19, hv, st1⟩ => ?_
   subst hv
   replace st := st.call st1 rfl
   clear st1
   obtain ⟨bc, rfl⟩ := st.isSome 0 rfl (fun h => by cases h)
   have hw16 : (w4s [671088640, 0, 0, 0] ([671088640, 0, 0, 0] : List Int).length).length = 16 := rfl
   refine ⟨⟨(h_Ld st 1 rfl rfl rfl (by constructor)), (h_Ld st 1 rfl rfl rfl (by constructor)), (h_Ld st 1 rfl rfl rfl (by constructor)), (h_Ld st 1 rfl rfl rfl (by constructor)), (h_Ld st 1 rfl rfl rfl (by constructor)), trivial⟩, ?_⟩
   refine aBld rfl (by repeat constructor) ?_
   refine ⟨?_, trivial⟩
   refine aNewP st rfl rfl (by repeat constructor) fun b6 H4 st => ?_
   refine ⟨⟨(h_Ld st 2 rfl rfl rfl (by constructor)), (h_Ld st 2 rfl rfl rfl (by constructor)), (h_Ld st 2 rfl rfl rfl (by constructor)), (h_Ld st 2 rfl rfl rfl (by constructor)), (h_Ld st 2 rfl rfl rfl (by constructor)), trivial⟩, ?_⟩
   refine ⟨?_, trivial⟩
   refine aSt st 0 rfl rfl rfl rfl (by first | rfl | simp [cellsOf, *]) (by first | decide | (simp [*]; done) | (simp [k8]; done)) (by repeat constructor) fun H5 st => ?_
   refine ⟨trivial, ?_⟩
   refine pE ?_
   show AWl _ _ _ _ _
   refine aN rfl rfl (by constructor) ?_
   refine aLd st 2 rfl rfl rfl (by constructor) ?_
   refine aBinV (.int .u8 0) rfl rfl (rfl) ?_
   refine aBinV (.bool false) rfl rfl rfl ?_
   refine aN rfl rfl (by constructor) ?_
   refine sE ?_
   show AWl _ _ _ _ _
   iterate 3 refine aN rfl rfl (by constructor) ?_
   refine aLdQ st 3 rfl rfl rfl rfl ?_
   refine aLen (st.rowAcc 4 rfl (by decide) (by exact (flat_len' trE_len _).trans (by rw [List.length_range]))) rfl ?_
   refine aN rfl rfl (by constructor) ?_
   refine sE ?_
   show AW _ (.loop _) _ _ _
   refine AW_loopN (fun m t1 H1 => ∃ (j : Nat), m = nx - j ∧ (j ≤ nx) ∧ t1 36 = .int .i64 (j : Int) ∧ Stt ([b] ++ rb.toList) H H1 [⟨some b6, true, ⟨true, 41, [.int .u32 ((100 + nx : Nat) : Int), .int .u8 0, .int .u8 0, .slice (some ⟨bc, 0, none⟩) 16 1, .slice none 0 0, .int .i64 (IntKind.i64.wrap 0), .int .u8 0, .int .u32 0]⟩⟩, ⟨some b3, true, ⟨true, 37, [.int .u8 1, .int .u8 193, .int .u8 0, .int .u8 0, .int .u8 0, .int .u32 ((100 + nx : Nat) : Int), .int .u32 0, .int .u32 w1, .int .u32 0, .int .u32 671088640, .int .u32 0, .int .u32 0, .int .u32 0, .slice none 0 0]⟩⟩, ⟨some b, true, ⟨true, 64, [.string ⟨#[]⟩, .string ⟨#[116]⟩, .bool false, .bool false, .bool false, .int .i64 sg, .int .i64 bu, .int .i64 65536, .bool true, .bool true, .slice none 0 0, .int .u32 cmd, .int .u32 stat, .int .u32 tg, hd, .slice none 0 0, .bool false, accV rb nx 8]⟩⟩, ⟨some bc, true, ⟨true, 5, (w4s [671088640, 0, 0, 0] 4).map (Value.int .u8)⟩⟩, ⟨rb, true, ⟨true, 41, (List.range nx).flatMap trE⟩⟩]) _ ⟨0, rfl, Nat.zero_le _, rfl, (st.sel [0, 2, 3, 1, 4] (by decide))⟩ [4, 5, 9, 36, 37, 38, 39, 40, 41, 42, 43, 44, 45, 46, 47, 48] (by decide) ?_
   rintro m t1 H1 hk hI
   obtain ⟨j, rfl, hj, ht36, st⟩ := hI
   obtain ⟨u, rfl⟩ : ∃ u, t1 = (upd (mix [4, 5, 9, 36, 37, 38, 39, 40, 41, 42, 43, 44, 45, 46, 47, 48] _ u) (some 36) _) := ⟨t1, by rw [← hk, upd_self ht36]⟩
   clear hk ht36
   show AWl _ _ _ _ _
   refine aBinV (.bool (decide (j < nx))) rfl rfl (by exact congrArg (fun q => some (Value.bool q)) (decide_eq_decide.2 (by omega))) ?_
   refine sE ?_
   show AW _ (.cond _ _ _) _ _ _
   refine cC' rfl (fun h6 => ?_) (fun h6 => ?_)
   ·have hjn : j < nx := of_decide_eq_true h6
    show AWl _ _ _ _ _
    refine aIxE trE_len 0 (l := List.range nx) (by rw [List.length_range]; exact (st.rowAcc 4 rfl (by decide) (by exact (flat_len' trE_len _).trans (by rw [List.length_range])))) rfl rfl (by rw [List.length_range]; omega) fun b38 o38 g38 => ?_
    rw [Int.toNat_natCast, range_getD hjn] at g38
    replace g38 : Hp.get H1 b38 o38 8 = some [.int .u32 ((100 + j : Nat) : Int), .int .u8 0, .int .u8 0, .slice none 0 0, .slice none 0 0, .int .i64 (IntKind.i64.wrap 0), .int .u8 64, .int .u32 0] := g38
    refine aLdAG rfl g38 ?_
    refine aNewP st rfl rfl (by repeat constructor) fun b9 H7 st => ?_
    refine aSt st 0 rfl rfl rfl rfl (by first | rfl | simp [cellsOf, *]) (by first | decide | (simp [*]; done) | (simp [k8]; done)) (by repeat constructor) fun H8 st => ?_
    refine sE ?_
    show AWl _ _ _ _ _
    refine aN rfl rfl (by constructor) ?_
    refine aLd st 0 rfl rfl rfl (by constructor) ?_
    refine aN rfl rfl (by constructor) ?_
    refine aLd st 1 rfl rfl rfl (by constructor) ?_
    refine aBinV (.bool false) rfl rfl (eqF (by omega)) ?_
    refine sE ?_
    show AW _ (.cond _ _ _) _ _ _
    refine cF' rfl ?_
    show AWl _ _ _ _ _
    iterate 2 refine aN rfl rfl (by constructor) ?_
    refine sE ?_
    exact ⟨_, by omega, (j + 1), rfl, by omega, congrArg (Value.int .i64) (wi _ (by omega)), (st.sel [1, 2, 3, 4, 5] (by decide))⟩
   ·have hjn : ¬ j < nx := of_decide_eq_false h6
    show AWl _ _ _ _ _
    iterate 4 refine aN rfl rfl (by constructor) ?_
    refine aLd st 2 rfl rfl rfl (by constructor) ?_
    refine aN rfl rfl (by constructor) ?_
    refine sE ?_
    show AW _ (.cond _ _ _) _ _ _
    refine cF' rfl ?_
    show AWp _ _ _ _ _
    refine aN rfl rfl (by constructor) ?_
    refine aLd st 1 rfl rfl rfl (by constructor) ?_
    refine aN (v := .int .i64 0) rfl rfl (by constructor) ?_
    refine aBinV (.bool false) rfl rfl rfl ?_
    refine aN rfl rfl (by constructor) ?_
    refine gF rfl (by decide) ?_
    refine gF rfl (by decide) ?_
    refine gF rfl (by decide) ?_
    refine gU rfl ?_
    refine gU rfl ?_
    refine gU rfl ?_
    refine gU rfl ?_
    refine gU rfl ?_
    refine gU rfl ?_
    refine gF rfl (by decide) ?_
    refine gF rfl (by decide) ?_
    refine gU rfl ?_
    refine gU rfl ?_
    refine gU rfl ?_
    refine gU rfl ?_
    refine gU rfl ?_
    refine gU rfl ?_
    refine gU rfl ?_
    refine gU rfl ?_
    refine gU rfl ?_
    refine gF rfl (by decide) ?_
    refine gF rfl (by decide) ?_
    refine gU rfl ?_
    refine gU rfl ?_
    refine gU rfl ?_
    refine gU rfl ?_
    refine gU rfl ?_
    refine gU rfl ?_
    refine gF rfl (by decide) ?_
    iterate 2 refine aN rfl rfl (by constructor) ?_
    refine pE ?_
    show AW _ (.cond _ _ _) _ _ _
    refine cF' rfl ?_
    show AWl _ _ _ _ _
    iterate 2 refine aN rfl rfl (by constructor) ?_
    refine gF rfl (by decide) ?_
    refine gF rfl (by decide) ?_
    refine gF rfl (by decide) ?_
    iterate 2 refine aN rfl rfl (by constructor) ?_
    refine sE ?_
    show AW _ (.cond _ _ _) _ _ _
    refine cF' rfl ?_
    show AWp _ _ _ _ _
    iterate 4 refine aN rfl rfl (by constructor) ?_
    refine aLdQ st 2 rfl rfl rfl rfl ?_
    refine aN rfl rfl (by constructor) ?_
    refine aLd st 0 rfl rfl rfl (by constructor) ?_
    refine aN rfl rfl (by constructor) ?_
    refine aLd st 0 rfl rfl rfl (by constructor) ?_
    refine aN rfl rfl (by constructor) ?_
    refine aLd st 0 rfl rfl rfl (by constructor) ?_
    refine aN rfl rfl (by constructor) ?_
    refine aLd st 1 rfl rfl rfl (by constructor) ?_
    refine aBinV (.int .u8 64) rfl rfl (rfl) ?_
    refine aBld rfl (by repeat constructor) ?_
    refine ⟨?_, trivial⟩
    refine aLit st rfl (by repeat constructor) fun b122 H9 st => ?_
    refine ⟨⟨(h_Ld st 2 rfl rfl rfl (by constructor)), (h_Ld st 1 rfl rfl rfl (by constructor)), (h_Ld st 1 rfl rfl rfl (by constructor)), (h_Ld st 1 rfl rfl rfl (by constructor)), (h_Ld st 3 rfl rfl rfl (by constructor)), trivial⟩, ?_⟩
    refine ⟨?_, trivial⟩
    refine aAppP st 5 (ob := rb) rfl rfl rfl (by decide) (by exact (flat_len' trE_len _).trans (by rw [List.length_range])) (st.rowAll 0 rfl (by first | rfl | (simp [beB_len, *]; done) | (simp [beB_len, *]; omega))).src (rfl) (by omega) (by omega) (by omega) (.any _) fun b123 H10 st => ?_
    have st := st.recell 5 rfl (cs' := (List.range (nx + 1)).flatMap trE) (flat_snoc List.range_succ rfl)
    refine ⟨⟨(h_Ld st 2 rfl rfl rfl (by constructor)), (h_Ld st 1 rfl rfl rfl (by constructor)), (h_Ld st 1 rfl rfl rfl (by constructor)), (h_Ld st 1 rfl rfl rfl (by constructor)), trivial⟩, ?_⟩
    iterate 2 refine aN rfl rfl (by constructor) ?_
    refine ⟨?_, trivial⟩
    refine aSt st 3 rfl rfl rfl rfl (by first | rfl | simp [cellsOf, *]) (by first | decide | (simp [*]; done) | (simp [k8]; done)) (by repeat constructor) fun H11 st => ?_
    refine ⟨trivial, ?_⟩
    refine pE ?_
    show AWl _ _ _ _ _
    iterate 3 refine aN rfl rfl (by constructor) ?_
    refine gF rfl (by decide) ?_
    refine gF rfl (by decide) ?_
    refine gF rfl (by decide) ?_
    refine gF rfl (by decide) ?_
    refine gF rfl (by decide) ?_
    refine gF rfl (by decide) ?_
    refine aN rfl rfl (by constructor) ?_
    refine sE ?_
    show AW _ (.cond _ _ _) _ _ _
    refine cT rfl ?_
    show AWp _ _ _ _ _
    refine aLdA st 1 rfl rfl (by first | decide | simp [*]) (by repeat constructor) ?_
    refine aN rfl rfl (by constructor) ?_
    refine ⟨?_, trivial⟩
    refine aLit st rfl (by repeat constructor) fun b137 H12 st => ?_
    refine ⟨trivial, ?_⟩
    refine aN rfl rfl (by constructor) ?_
    refine pE ?_
    refine ⟨_, out2 (r_tmp rfl (by constructor)) (r_tmp rfl (by constructor)) ⟨rfl, rfl⟩, ?_⟩
    exact ⟨b137, _, some b123, rfl, st.sel [4, 6, 0] (by decide)⟩
  ·refine ⟨?_, trivial⟩
   refine aNewP st rfl rfl (by repeat constructor) fun b6 H13 st => ?_
   refine ⟨⟨(h_Ld st 1 rfl rfl rfl (by constructor)), (h_Ld st 1 rfl rfl rfl (by constructor)), (h_Ld st 1 rfl rfl rfl (by constructor)), (h_Ld st 1 rfl rfl rfl (by constructor)), (h_Ld st 1 rfl rfl rfl (by constructor)), trivial⟩, ?_⟩
   refine ⟨?_, trivial⟩
   refine aC (wbytes_call (xs := [671088640, 0, 0, 0]) (Stt.cutAt st 1 (o := 9) (n := 4) rfl (by decide) (show 9 + 4 ≤ 14 by decide)) (by decide)) fun v19 H14 ⟨oc19, hv, st1⟩ => ?_
   subst hv
   replace st := st.call st1 rfl
   clear st1
   obtain ⟨bc, rfl⟩ := st.isSome 0 rfl (fun h => by cases h)
   have hw16 : (w4s [671088640, 0, 0, 0] ([671088640, 0, 0, 0] : List Int).length).length = 16 := rfl
   refine ⟨⟨(h_Ld st 2 rfl rfl rfl (by constructor)), (h_Ld st 2 rfl rfl rfl (by constructor)), (h_Ld st 2 rfl rfl rfl (by constructor)), (h_Ld st 2 rfl rfl rfl (by constructor)), (h_Ld st 2 rfl rfl rfl (by constructor)), trivial⟩, ?_⟩
   refine aBld rfl (by repeat constructor) ?_
   refine ⟨?_, trivial⟩
   refine aSt st 1 rfl rfl rfl rfl (by first | rfl | simp [cellsOf, *]) (by first | decide | (simp [*]; done) | (simp [k8]; done)) (by repeat constructor) fun H15 st => ?_
   refine ⟨trivial, ?_⟩
   refine pE ?_
   show AWl _ _ _ _ _
   refine aN rfl rfl (by constructor) ?_
   refine aLd st 2 rfl rfl rfl (by constructor) ?_
   refine aBinV (.int .u8 0) rfl rfl (rfl) ?_
   refine aBinV (.bool false) rfl rfl rfl ?_
   refine aN rfl rfl (by constructor) ?_
   refine sE ?_
   show AWl _ _ _ _ _
   iterate 3 refine aN rfl rfl (by constructor) ?_
   refine aLdQ st 3 rfl rfl rfl rfl ?_
   refine aLen (st.rowAcc 4 rfl (by decide) (by exact (flat_len' trE_len _).trans (by rw [List.length_range]))) rfl ?_
   refine aN rfl rfl (by constructor) ?_
   refine sE ?_
   show AW _ (.loop _) _ _ _
   refine AW_loopN (fun m t1 H1 => ∃ (j : Nat), m = nx - j ∧ (j ≤ nx) ∧ t1 36 = .int .i64 (j : Int) ∧ Stt ([b] ++ rb.toList) H H1 [⟨some b6, true, ⟨true, 41, [.int .u32 ((100 + nx : Nat) : Int), .int .u8 0, .int .u8 0, .slice (some ⟨bc, 0, none⟩) 16 1, .slice none 0 0, .int .i64 (IntKind.i64.wrap 0), .int .u8 0, .int .u32 0]⟩⟩, ⟨some b3, true, ⟨true, 37, [.int .u8 1, .int .u8 193, .int .u8 0, .int .u8 0, .int .u8 0, .int .u32 ((100 + nx : Nat) : Int), .int .u32 0, .int .u32 w1, .int .u32 0, .int .u32 671088640, .int .u32 0, .int .u32 0, .int .u32 0, .slice none 0 0]⟩⟩, ⟨some b, true, ⟨true, 64, [.string ⟨#[]⟩, .string ⟨#[116]⟩, .bool false, .bool false, .bool false, .int .i64 sg, .int .i64 bu, .int .i64 65536, .bool true, .bool true, .slice none 0 0, .int .u32 cmd, .int .u32 stat, .int .u32 tg, hd, .slice none 0 0, .bool false, accV rb nx 8]⟩⟩, ⟨some bc, true, ⟨true, 5, (w4s [671088640, 0, 0, 0] 4).map (Value.int .u8)⟩⟩, ⟨rb, true, ⟨true, 41, (List.range nx).flatMap trE⟩⟩]) _ ⟨0, rfl, Nat.zero_le _, rfl, (st.sel [1, 2, 3, 0, 4] (by decide))⟩ [4, 5, 9, 36, 37, 38, 39, 40, 41, 42, 43, 44, 45, 46, 47, 48] (by decide) ?_
   rintro m t1 H1 hk hI
   obtain ⟨j, rfl, hj, ht36, st⟩ := hI
   obtain ⟨u, rfl⟩ : ∃ u, t1 = (upd (mix [4, 5, 9, 36, 37, 38, 39, 40, 41, 42, 43, 44, 45, 46, 47, 48] _ u) (some 36) _) := ⟨t1, by rw [← hk, upd_self ht36]⟩
   clear hk ht36
   show AWl _ _ _ _ _
   refine aBinV (.bool (decide (j < nx))) rfl rfl (by exact congrArg (fun q => some (Value.bool q)) (decide_eq_decide.2 (by omega))) ?_
   refine sE ?_
   show AW _ (.cond _ _ _) _ _ _
   refine cC' rfl (fun h16 => ?_) (fun h16 => ?_)
   ·have hjn : j < nx := of_decide_eq_true h16
    show AWl _ _ _ _ _
    refine aIxE trE_len 0 (l := List.range nx) (by rw [List.length_range]; exact (st.rowAcc 4 rfl (by decide) (by exact (flat_len' trE_len _).trans (by rw [List.length_range])))) rfl rfl (by rw [List.length_range]; omega) fun b38 o38 g38 => ?_
    rw [Int.toNat_natCast, range_getD hjn] at g38
    replace g38 : Hp.get H1 b38 o38 8 = some [.int .u32 ((100 + j : Nat) : Int), .int .u8 0, .int .u8 0, .slice none 0 0, .slice none 0 0, .int .i64 (IntKind.i64.wrap 0), .int .u8 64, .int .u32 0] := g38
    refine aLdAG rfl g38 ?_
    refine aNewP st rfl rfl (by repeat constructor) fun b9 H17 st => ?_
    refine aSt st 0 rfl rfl rfl rfl (by first | rfl | simp [cellsOf, *]) (by first | decide | (simp [*]; done) | (simp [k8]; done)) (by repeat constructor) fun H18 st => ?_
    refine sE ?_
    show AWl _ _ _ _ _
    refine aN rfl rfl (by constructor) ?_
    refine aLd st 0 rfl rfl rfl (by constructor) ?_
    refine aN rfl rfl (by constructor) ?_
    refine aLd st 1 rfl rfl rfl (by constructor) ?_
    refine aBinV (.bool false) rfl rfl (eqF (by omega)) ?_
    refine sE ?_
    show AW _ (.cond _ _ _) _ _ _
    refine cF' rfl ?_
    show AWl _ _ _ _ _
    iterate 2 refine aN rfl rfl (by constructor) ?_
    refine sE ?_
    exact ⟨_, by omega, (j + 1), rfl, by omega, congrArg (Value.int .i64) (wi _ (by omega)), (st.sel [1, 2, 3, 4, 5] (by decide))⟩
   ·have hjn : ¬ j < nx := of_decide_eq_false h16
    show AWl _ _ _ _ _
    iterate 4 refine aN rfl rfl (by constructor) ?_
    refine aLd st 2 rfl rfl rfl (by constructor) ?_
    refine aN rfl rfl (by constructor) ?_
    refine sE ?_
    show AW _ (.cond _ _ _) _ _ _
    refine cF' rfl ?_
    show AWp _ _ _ _ _
    refine aN rfl rfl (by constructor) ?_
    refine aLd st 1 rfl rfl rfl (by constructor) ?_
    refine aN (v := .int .i64 0) rfl rfl (by constructor) ?_
    refine aBinV (.bool false) rfl rfl rfl ?_
    refine aN rfl rfl (by constructor) ?_
    refine gF rfl (by decide) ?_
    refine gF rfl (by decide) ?_
    refine gF rfl (by decide) ?_
    refine gU rfl ?_
    refine gU rfl ?_
    refine gU rfl ?_
    refine gU rfl ?_
    refine gU rfl ?_
    refine gU rfl ?_
    refine gF rfl (by decide) ?_
    refine gF rfl (by decide) ?_
    refine gU rfl ?_
    refine gU rfl ?_
    refine gU rfl ?_
    refine gU rfl ?_
    refine gU rfl ?_
    refine gU rfl ?_
    refine gU rfl ?_
    refine gU rfl ?_
    refine gU rfl ?_
    refine gF rfl (by decide) ?_
    refine gF rfl (by decide) ?_
    refine gU rfl ?_
    refine gU rfl ?_
    refine gU rfl ?_
    refine gU rfl ?_
    refine gU rfl ?_
    refine gU rfl ?_
    refine gF rfl (by decide) ?_
    iterate 2 refine aN rfl rfl (by constructor) ?_
    refine pE ?_
    show AW _ (.cond _ _ _) _ _ _
    refine cF' rfl ?_
    show AWl _ _ _ _ _
    iterate 2 refine aN rfl rfl (by constructor) ?_
    refine gF rfl (by decide) ?_
    refine gF rfl (by decide) ?_
    refine gF rfl (by decide) ?_
    iterate 2 refine aN rfl rfl (by constructor) ?_
    refine sE ?_
    show AW _ (.cond _ _ _) _ _ _
    refine cF' rfl ?_
    show AWp _ _ _ _ _
    iterate 4 refine aN rfl rfl (by constructor) ?_
    refine aLdQ st 2 rfl rfl rfl rfl ?_
    refine aN rfl rfl (by constructor) ?_
    refine aLd st 0 rfl rfl rfl (by constructor) ?_
    refine aN rfl rfl (by constructor) ?_
    refine aLd st 0 rfl rfl rfl (by constructor) ?_
    refine aN rfl rfl (by constructor) ?_
    refine aLd st 0 rfl rfl rfl (by constructor) ?_
    refine aN rfl rfl (by constructor) ?_
    refine aLd st 1 rfl rfl rfl (by constructor) ?_
    refine aBinV (.int .u8 64) rfl rfl (rfl) ?_
    refine aBld rfl (by repeat constructor) ?_
    refine ⟨?_, trivial⟩
    refine aLit st rfl (by repeat constructor) fun b122 H19 st => ?_
    refine ⟨⟨(h_Ld st 2 rfl rfl rfl (by constructor)), (h_Ld st 1 rfl rfl rfl (by constructor)), (h_Ld st 1 rfl rfl rfl (by constructor)), (h_Ld st 1 rfl rfl rfl (by constructor)), (h_Ld st 3 rfl rfl rfl (by constructor)), trivial⟩, ?_⟩
    refine ⟨?_, trivial⟩
    refine aAppP st 5 (ob := rb) rfl rfl rfl (by decide) (by exact (flat_len' trE_len _).trans (by rw [List.length_range])) (st.rowAll 0 rfl (by first | rfl | (simp [beB_len, *]; done) | (simp [beB_len, *]; omega))).src (rfl) (by omega) (by omega) (by omega) (.any _) fun b123 H20 st => ?_
    have st := st.recell 5 rfl (cs' := (List.range (nx + 1)).flatMap trE) (flat_snoc List.range_succ rfl)
    refine ⟨⟨(h_Ld st 2 rfl rfl rfl (by constructor)), (h_Ld st 1 rfl rfl rfl (by constructor)), (h_Ld st 1 rfl rfl rfl (by constructor)), (h_Ld st 1 rfl rfl rfl (by constructor)), trivial⟩, ?_⟩
    iterate 2 refine aN rfl rfl (by constructor) ?_
    refine ⟨?_, trivial⟩
    refine aSt st 3 rfl rfl rfl rfl (by first | rfl | simp [cellsOf, *]) (by first | decide | (simp [*]; done) | (simp [k8]; done)) (by repeat constructor) fun H21 st => ?_
    refine ⟨trivial, ?_⟩
    refine pE ?_
    show AWl _ _ _ _ _
    iterate 3 refine aN rfl rfl (by constructor) ?_
    refine gF rfl (by decide) ?_
    refine gF rfl (by decide) ?_
    refine gF rfl (by decide) ?_
    refine gF rfl (by decide) ?_
    refine gF rfl (by decide) ?_
    refine gF rfl (by decide) ?_
    refine aN rfl rfl (by constructor) ?_
    refine sE ?_
    show AW _ (.cond _ _ _) _ _ _
    refine cT rfl ?_
    show AWp _ _ _ _ _
    refine aLdA st 1 rfl rfl (by first | decide | simp [*]) (by repeat constructor) ?_
    refine aN rfl rfl (by constructor) ?_
    refine ⟨?_, trivial⟩
    refine aLit st rfl (by repeat constructor) fun b137 H22 st => ?_
    refine ⟨trivial, ?_⟩
    refine aN rfl rfl (by constructor) ?_
    refine pE ?_
    refine ⟨_, out2 (r_tmp rfl (by constructor)) (r_tmp rfl (by constructor)) ⟨rfl, rfl⟩, ?_⟩
    exact ⟨b137, _, some b123, rfl, st.sel [4, 6, 0] (by decide)⟩
 ·refine ⟨?_, trivial⟩
  refine aNewP st rfl rfl (by repeat constructor) fun b6 H23 st => ?_
  refine ⟨⟨(h_Ld st 1 rfl rfl rfl (by constructor)), (h_Ld st 1 rfl rfl rfl (by constructor)), (h_Ld st 1 rfl rfl rfl (by constructor)), (h_Ld st 1 rfl rfl rfl (by constructor)), (h_Ld st 1 rfl rfl rfl (by constructor)), trivial⟩, ?_⟩
  refine ⟨?_, trivial⟩
  refine aC (attr_call) fun v16 H24 ⟨hv, st1⟩ => ?_
  subst hv
  replace st := st.call st1 rfl
  clear st1
  refine ⟨⟨(h_Ld st 1 rfl rfl rfl (by constructor)), (h_Ld st 1 rfl rfl rfl (by constructor)), (h_Ld st 1 rfl rfl rfl (by constructor)), (h_Ld st 1 rfl rfl rfl (by constructor)), trivial⟩, ?_⟩
  refine ⟨?_, trivial⟩
  refine aC (wbytes_call (xs := [671088640, 0, 0, 0]) (Stt.cutAt st 1 (o := 9) (n := 4) rfl (by decide) (show 9 + 4 ≤ 14 by decide)) (by decide)) fun v19 H25 ⟨oc19, hv, st1⟩ => ?_
  subst hv
  replace st := st.call st1 rfl
  clear st1
  obtain ⟨bc, rfl⟩ := st.isSome 0 rfl (fun h => by cases h)
  have hw16 : (w4s [671088640, 0, 0, 0] ([671088640, 0, 0, 0] : List Int).length).length = 16 := rfl
  refine ⟨⟨(h_Ld st 2 rfl rfl rfl (by constructor)), (h_Ld st 2 rfl rfl rfl (by constructor)), (h_Ld st 2 rfl rfl rfl (by constructor)), (h_Ld st 2 rfl rfl rfl (by constructor)), (h_Ld st 2 rfl rfl rfl (by constructor)), trivial⟩, ?_⟩
  refine aBld rfl (by repeat constructor) ?_
  refine ⟨?_, trivial⟩
  refine aSt st 1 rfl rfl rfl rfl (by first | rfl | simp [cellsOf, *]) (by first | decide | (simp [*]; done) | (simp [k8]; done)) (by repeat constructor) fun H26 st => ?_
  refine ⟨trivial, ?_⟩
  refine pE ?_
  show AWl _ _ _ _ _
  refine aN rfl rfl (by constructor) ?_
  refine aLd st 2 rfl rfl rfl (by constructor) ?_
  refine aBinV (.int .u8 0) rfl rfl (rfl) ?_
  refine aBinV (.bool false) rfl rfl rfl ?_
  refine aN rfl rfl (by constructor) ?_
  refine sE ?_
  show AWl _ _ _ _ _
  iterate 3 refine aN rfl rfl (by constructor) ?_
  refine aLdQ st 3 rfl rfl rfl rfl ?_
  refine aLen (st.rowAcc 4 rfl (by decide) (by exact (flat_len' trE_len _).trans (by rw [List.length_range]))) rfl ?_
  refine aN rfl rfl (by constructor) ?_
  refine sE ?_
  show AW _ (.loop _) _ _ _
  refine AW_loopN (fun m t1 H1 => ∃ (j : Nat), m = nx - j ∧ (j ≤ nx) ∧ t1 36 = .int .i64 (j : Int) ∧ Stt ([b] ++ rb.toList) H H1 [⟨some b6, true, ⟨true, 41, [.int .u32 ((100 + nx : Nat) : Int), .int .u8 0, .int .u8 0, .slice (some ⟨bc, 0, none⟩) 16 1, .slice none 0 0, .int .i64 (IntKind.i64.wrap 0), .int .u8 0, .int .u32 0]⟩⟩, ⟨some b3, true, ⟨true, 37, [.int .u8 1, .int .u8 193, .int .u8 0, .int .u8 0, .int .u8 0, .int .u32 ((100 + nx : Nat) : Int), .int .u32 0, .int .u32 w1, .int .u32 0, .int .u32 671088640, .int .u32 0, .int .u32 0, .int .u32 0, .slice none 0 0]⟩⟩, ⟨some b, true, ⟨true, 64, [.string ⟨#[]⟩, .string ⟨#[116]⟩, .bool false, .bool false, .bool false, .int .i64 sg, .int .i64 bu, .int .i64 65536, .bool true, .bool true, .slice none 0 0, .int .u32 cmd, .int .u32 stat, .int .u32 tg, hd, .slice none 0 0, .bool false, accV rb nx 8]⟩⟩, ⟨some bc, true, ⟨true, 5, (w4s [671088640, 0, 0, 0] 4).map (Value.int .u8)⟩⟩, ⟨rb, true, ⟨true, 41, (List.range nx).flatMap trE⟩⟩]) _ ⟨0, rfl, Nat.zero_le _, rfl, (st.sel [1, 2, 3, 0, 4] (by decide))⟩ [4, 5, 9, 36, 37, 38, 39, 40, 41, 42, 43, 44, 45, 46, 47, 48] (by decide) ?_
  rintro m t1 H1 hk hI
  obtain ⟨j, rfl, hj, ht36, st⟩ := hI
  obtain ⟨u, rfl⟩ : ∃ u, t1 = (upd (mix [4, 5, 9, 36, 37, 38, 39, 40, 41, 42, 43, 44, 45, 46, 47, 48] _ u) (some 36) _) := ⟨t1, by rw [← hk, upd_self ht36]⟩
  clear hk ht36
  show AWl _ _ _ _ _
  refine aBinV (.bool (decide (j < nx))) rfl rfl (by exact congrArg (fun q => some (Value.bool q)) (decide_eq_decide.2 (by omega))) ?_
  refine sE ?_
  show AW _ (.cond _ _ _) _ _ _
  refine cC' rfl (fun h27 => ?_) (fun h27 => ?_)
  ·have hjn : j < nx := of_decide_eq_true h27
   show AWl _ _ _ _ _
   refine aIxE trE_len 0 (l := List.range nx) (by rw [List.length_range]; exact (st.rowAcc 4 rfl (by decide) (by exact (flat_len' trE_len _).trans (by rw [List.length_range])))) rfl rfl (by rw [List.length_range]; omega) fun b38 o38 g38 => ?_
   rw [Int.toNat_natCast, range_getD hjn] at g38
   replace g38 : Hp.get H1 b38 o38 8 = some [.int .u32 ((100 + j : Nat) : Int), .int .u8 0, .int .u8 0, .slice none 0 0, .slice none 0 0, .int .i64 (IntKind.i64.wrap 0), .int .u8 64, .int .u32 0] := g38
   refine aLdAG rfl g38 ?_
   refine aNewP st rfl rfl (by repeat constructor) fun b9 H28 st => ?_
   refine aSt st 0 rfl rfl rfl rfl (by first | rfl | simp [cellsOf, *]) (by first | decide | (simp [*]; done) | (simp [k8]; done)) (by repeat constructor) fun H29 st => ?_
   refine sE ?_
   show AWl _ _ _ _ _
   refine aN rfl rfl (by constructor) ?_
   refine aLd st 0 rfl rfl rfl (by constructor) ?_
   refine aN rfl rfl (by constructor) ?_
   refine aLd st 1 rfl rfl rfl (by constructor) ?_
   refine aBinV (.bool false) rfl rfl (eqF (by omega)) ?_
   refine sE ?_
   show AW _ (.cond _ _ _) _ _ _
   refine cF' rfl ?_
   show AWl _ _ _ _ _
   iterate 2 refine aN rfl rfl (by constructor) ?_
   refine sE ?_
   exact ⟨_, by omega, (j + 1), rfl, by omega, congrArg (Value.int .i64) (wi _ (by omega)), (st.sel [1, 2, 3, 4, 5] (by decide))⟩
  ·have hjn : ¬ j < nx := of_decide_eq_false h27
   show AWl _ _ _ _ _
   iterate 4 refine aN rfl rfl (by constructor) ?_
   refine aLd st 2 rfl rfl rfl (by constructor) ?_
   refine aN rfl rfl (by constructor) ?_
   refine sE ?_
   show AW _ (.cond _ _ _) _ _ _
   refine cF' rfl ?_
   show AWp _ _ _ _ _
   refine aN rfl rfl (by constructor) ?_
   refine aLd st 1 rfl rfl rfl (by constructor) ?_
   refine aN (v := .int .i64 0) rfl rfl (by constructor) ?_
   refine aBinV (.bool false) rfl rfl rfl ?_
   refine aN rfl rfl (by constructor) ?_
   refine gF rfl (by decide) ?_
   refine gF rfl (by decide) ?_
   refine gF rfl (by decide) ?_
   refine gU rfl ?_
   refine gU rfl ?_
   refine gU rfl ?_
   refine gU rfl ?_
   refine gU rfl ?_
   refine gU rfl ?_
   refine gF rfl (by decide) ?_
   refine gF rfl (by decide) ?_
   refine gU rfl ?_
   refine gU rfl ?_
   refine gU rfl ?_
   refine gU rfl ?_
   refine gU rfl ?_
   refine gU rfl ?_
   refine gU rfl ?_
   refine gU rfl ?_
   refine gU rfl ?_
   refine gF rfl (by decide) ?_
   refine gF rfl (by decide) ?_
   refine gU rfl ?_
   refine gU rfl ?_
   refine gU rfl ?_
   refine gU rfl ?_
   refine gU rfl ?_
   refine gU rfl ?_
   refine gF rfl (by decide) ?_
   iterate 2 refine aN rfl rfl (by constructor) ?_
   refine pE ?_
   show AW _ (.cond _ _ _) _ _ _
   refine cF' rfl ?_
   show AWl _ _ _ _ _
   iterate 2 refine aN rfl rfl (by constructor) ?_
   refine gF rfl (by decide) ?_
   refine gF rfl (by decide) ?_
   refine gF rfl (by decide) ?_
   iterate 2 refine aN rfl rfl (by constructor) ?_
   refine sE ?_
   show AW _ (.cond _ _ _) _ _ _
   refine cF' rfl ?_
   show AWp _ _ _ _ _
   iterate 4 refine aN rfl rfl (by constructor) ?_
   refine aLdQ st 2 rfl rfl rfl rfl ?_
   refine aN rfl rfl (by constructor) ?_
   refine aLd st 0 rfl rfl rfl (by constructor) ?_
   refine aN rfl rfl (by constructor) ?_
   refine aLd st 0 rfl rfl rfl (by constructor) ?_
   refine aN rfl rfl (by constructor) ?_
   refine aLd st 0 rfl rfl rfl (by constructor) ?_
   refine aN rfl rfl (by constructor) ?_
   refine aLd st 1 rfl rfl rfl (by constructor) ?_
   refine aBinV (.int .u8 64) rfl rfl (rfl) ?_
   refine aBld rfl (by repeat constructor) ?_
   refine ⟨?_, trivial⟩
   refine aLit st rfl (by repeat constructor) fun b122 H30 st => ?_
   refine ⟨⟨(h_Ld st 2 rfl rfl rfl (by constructor)), (h_Ld st 1 rfl rfl rfl (by constructor)), (h_Ld st 1 rfl rfl rfl (by constructor)), (h_Ld st 1 rfl rfl rfl (by constructor)), (h_Ld st 3 rfl rfl rfl (by constructor)), trivial⟩, ?_⟩
   refine ⟨?_, trivial⟩
   refine aAppP st 5 (ob := rb) rfl rfl rfl (by decide) (by exact (flat_len' trE_len _).trans (by rw [List.length_range])) (st.rowAll 0 rfl (by first | rfl | (simp [beB_len, *]; done) | (simp [beB_len, *]; omega))).src (rfl) (by omega) (by omega) (by omega) (.any _) fun b123 H31 st => ?_
   have st := st.recell 5 rfl (cs' := (List.range (nx + 1)).flatMap trE) (flat_snoc List.range_succ rfl)
   refine ⟨⟨(h_Ld st 2 rfl rfl rfl (by constructor)), (h_Ld st 1 rfl rfl rfl (by constructor)), (h_Ld st 1 rfl rfl rfl (by constructor)), (h_Ld st 1 rfl rfl rfl (by constructor)), trivial⟩, ?_⟩
   iterate 2 refine aN rfl rfl (by constructor) ?_
   refine ⟨?_, trivial⟩
   refine aSt st 3 rfl rfl rfl rfl (by first | rfl | simp [cellsOf, *]) (by first | decide | (simp [*]; done) | (simp [k8]; done)) (by repeat constructor) fun H32 st => ?_
   refine ⟨trivial, ?_⟩
   refine pE ?_
   show AWl _ _ _ _ _
   iterate 3 refine aN rfl rfl (by constructor) ?_
   refine gF rfl (by decide) ?_
   refine gF rfl (by decide) ?_
   refine gF rfl (by decide) ?_
   refine gF rfl (by decide) ?_
   refine gF rfl (by decide) ?_
   refine gF rfl (by decide) ?_
   refine aN rfl rfl (by constructor) ?_
   refine sE ?_
   show AW _ (.cond _ _ _) _ _ _
   refine cT rfl ?_
   show AWp _ _ _ _ _
   refine aLdA st 1 rfl rfl (by first | decide | simp [*]) (by repeat constructor) ?_
   refine aN rfl rfl (by constructor) ?_
   refine ⟨?_, trivial⟩
   refine aLit st rfl (by repeat constructor) fun b137 H33 st => ?_
   refine ⟨trivial, ?_⟩
   refine aN rfl rfl (by constructor) ?_
   refine pE ?_
   refine ⟨_, out2 (r_tmp rfl (by constructor)) (r_tmp rfl (by constructor)) ⟨rfl, rfl⟩, ?_⟩
   exact ⟨b137, _, some b123, rfl, st.sel [4, 6, 0] (by decide)⟩
theorem do_o {H : Hp} {b nx : Nat} {rb : Option Nat} {cmd stat w1 : Int} {hd : Value} (st0 : Stt ([b] ++ rb.toList) H H [⟨some b, true, ⟨true, 64, [.string ⟨#[]⟩, .string ⟨#[116]⟩, .bool false, .bool false, .bool false, .int .i64 sg, .int .i64 bu, .int .i64 65536, .bool true, .bool true, .slice none 0 0, .int .u32 cmd, .int .u32 stat, .int .u32 tg, hd, .slice none 0 0, .bool false, accV rb nx 8]⟩⟩, ⟨rb, true, ⟨true, 41, (List.range nx).flatMap trE⟩⟩]) (hnx : nx ≤ 15) :
  ACalls Try.prog 23 [.pointer (some ⟨b, 0, none⟩), .agg #[.int .u8 1, .int .u8 193, .int .u8 0, .int .u8 0, .int .u8 0, .int .u32 ((100 + nx : Nat) : Int), .int .u32 0, .int .u32 w1, .int .u32 0, .int .u32 671088640, .int .u32 0, .int .u32 0, .int .u32 0, .slice none 0 0]] H (fun v H' => ∃ (c : Nat) (cdb : Value) (rb1 : Option Nat), v = .tuple #[.slice none 0 0, .slice (some ⟨c, 0, none⟩) 1 8] ∧ Stt ([b] ++ rb.toList) H H' [⟨some b, true, ⟨true, 64, [.string ⟨#[]⟩, .string ⟨#[116]⟩, .bool false, .bool false, .bool false, .int .i64 sg, .int .i64 bu, .int .i64 65536, .bool true, .bool true, .slice none 0 0, .int .u32 cmd, .int .u32 stat, .int .u32 tg, hd, .slice none 0 0, .bool false, accV rb1 (nx + 1) 8]⟩⟩, ⟨rb1, true, ⟨true, 41, (List.range (nx + 1)).flatMap trE⟩⟩, ⟨some c, true, ⟨true, 41, [.int .u32 ((100 + nx : Nat) : Int), .int .u8 0, .int .u8 0, cdb, .slice none 0 0, .int .i64 (IntKind.i64.wrap 0), .int .u8 0, .int .u32 0]⟩⟩]) := by
 refine acallsW Try.func23 f23_ok (Nat.le_of_ble_eq_true rfl) fun hw => ?_
 have st : Stt ([b] ++ rb.toList) H H [] := Stt.start hw
 replace st := st0
 unfold f23c
 show AWl _ _ _ _ _
 refine aBoxN st rfl rfl (by repeat constructor) rfl fun b3 H1 st => ?_
 iterate 2 refine aN rfl rfl (by constructor) ?_
 refine sE ?_
 show AWl _ _ _ _ _
 refine aN rfl rfl (by constructor) ?_
 refine aLd st 0 rfl rfl rfl (by constructor) ?_
 refine aBinV (.int .u8 1) rfl rfl (rfl) ?_
 refine sE ?_
 show AWl _ _ _ _ _
 refine aBinV (.bool false) rfl rfl rfl ?_
 refine aN rfl rfl (by constructor) ?_
 refine sE ?_
 show AW _ (.cond _ _ _) _ _ _
 refine cF' rfl ?_
 show AWl _ _ _ _ _
 refine aBinV (.bool false) rfl rfl rfl ?_
 refine aN rfl rfl (by constructor) ?_
 refine sE ?_
 show AW _ (.cond _ _ _) _ _ _
 refine cF' rfl ?_
 show AWl _ _ _ _ _
 refine aBinV (.bool false) rfl rfl rfl ?_
 refine aN rfl rfl (by constructor) ?_
 refine sE ?_
 show AW _ (.cond _ _ _) _ _ _
 refine cF' rfl ?_
 show AWl _ _ _ _ _
 refine aBinV (.bool false) rfl rfl rfl ?_
 refine aN rfl rfl (by constructor) ?_
 refine sE ?_
 show AW _ (.cond _ _ _) _ _ _
 refine cF' rfl ?_
 show AWl _ _ _ _ _
 refine aN rfl rfl (by constructor) ?_
 refine aLdA st 0 rfl rfl (by first | decide | simp [*]) (by repeat constructor) ?_
 refine aC (command_o (st.take2 (o1 := some b) 1 2 rfl rfl (by decide)) hnx) fun v67 H2 ⟨c67, cdb, rb67, hv, st1⟩ => ?_
 subst hv
 replace st := st.call2 (o1 := some b) 1 1 rfl rfl st1 rfl
 clear st1
 iterate 4 refine aN rfl rfl (by constructor) ?_
 refine sE ?_
 refine ⟨_, out2 (r_tmp rfl (by constructor)) (r_tmp rfl (by constructor)) ⟨rfl, rfl⟩, ?_⟩
 exact ⟨c67, cdb, rb67, rfl, st.sel [0, 1, 2] (by decide)⟩
theorem without_k {H : Hp} {F : Int} {l : List Nat} {i : Nat} {x : Value} (hx : Sl H 14 l.length (l.flatMap (rdE F)) x) (hi : i < l.length) (hl : l.length ≤ 100) :
  ACalls Try.prog 24 [x, .int .i64 (i : Int)] H (fun v H' => ∃ o, v = accV o (l.eraseIdx i).length 14 ∧ Stt [] H H' [⟨o, true, ⟨true, 37, (l.eraseIdx i).flatMap (rdE F)⟩⟩]) := by
 refine acallsW Try.func24 f24_ok (Nat.le_of_ble_eq_true rfl) fun hw => ?_
 have st : Stt [] H H [] := Stt.start hw
 obtain ⟨px, cx, rfl⟩ := hx.shape
 unfold f24c
 show AWl _ _ _ _ _
 refine aN rfl rfl (by constructor) ?_
 refine sE ?_
 show AWp _ _ _ _ _
 iterate 2 refine aN rfl rfl (by constructor) ?_
 refine aCut (st.slc hx) rfl (bound_h (by omega)) fun v7 s7 => ?_
 replace s7 : ∀ H1, Sl H1 14 l.length (l.flatMap (rdE F)) (.slice px l.length cx) → Sl H1 14 (l.take i).length ((l.take i).flatMap (rdE F)) v7 := fun H1 h1 => by
  have h9 := s7 H1 h1
  rw [Int.toNat_natCast, Nat.zero_mul, List.drop_zero, Nat.sub_zero, flat_take rdE_len] at h9
  rwa [List.length_take, Nat.min_eq_left (by omega)]
 iterate 2 refine aN rfl rfl (by constructor) ?_
 refine aBinV (.int .i64 ((i + 1 : Nat) : Int)) rfl rfl (addI (by omega) (by omega)) ?_
 refine aCut (st.slc hx) rfl (bound_l (by omega)) fun v12 s12 => ?_
 replace s12 : ∀ H1, Sl H1 14 l.length (l.flatMap (rdE F)) (.slice px l.length cx) → Sl H1 14 (l.drop (i + 1)).length ((l.drop (i + 1)).flatMap (rdE F)) v12 := fun H1 h1 => by
  have h9 := s12 H1 h1
  rw [Int.toNat_natCast, flat_drop rdE_len, List.take_of_length_le (by rw [flat_len' rdE_len, List.length_drop]; exact Nat.le_refl _)] at h9
  rwa [List.length_drop]
 refine ⟨?_, trivial⟩
 have st := st.nil 37
 have hnil : (Value.slice none 0 0) = accV none 0 14 := rfl
 refine aApp st 0 (ob := none) (n := 0) rfl rfl rfl (by decide) (rfl) (s7 _ (st.slc hx)).src (flat_len' rdE_len _) (by rw [List.length_take]; omega) (by rw [List.length_take]; omega) fun b8 H1 hp8 st => ?_
 refine ⟨trivial, ?_⟩
 refine ⟨?_, trivial⟩
 refine aApp st 0 (ob := b8) rfl rfl rfl (by decide) (by rw [List.nil_append, Nat.zero_add]; exact flat_len' rdE_len _) (s12 _ (st.slc hx)).src (flat_len' rdE_len _) (by rw [List.length_take, List.length_drop]; omega) (by rw [List.length_take, List.length_drop]; omega) fun b13 H2 hp13 st => ?_
 refine ⟨trivial, ?_⟩
 refine aMovA rfl ?_
 refine pE ?_
 refine ⟨_, out1 (r_acc rfl), ?_⟩
 have st := st.recell 0 rfl (cs' := (l.eraseIdx i).flatMap (rdE F)) (by rw [List.nil_append, erase_flat])
 exact ⟨b13, congrArg (fun n => accV _ n 14) (by rw [List.length_take, List.length_drop, List.length_eraseIdx, if_pos hi]; omega), st.sel [0] (by decide)⟩
theorem in_o {H : Hp} {b nx k : Nat} {ho rb : Option Nat} {F stat : Int} {hs : List Nat} (st0 : Stt ([b] ++ ho.toList ++ rb.toList) H H [⟨some b, true, ⟨true, 64, [.string ⟨#[]⟩, .string ⟨#[116]⟩, .bool false, .bool false, .bool false, .int .i64 sg, .int .i64 bu, .int .i64 65536, .bool true, .bool true, .slice none 0 0, .int .u32 (IntKind.u32.wrap (F + ((nx : Nat) : Int))), .int .u32 stat, .int .u32 tg, accV ho hs.length 14, .slice none 0 0, .bool false, accV rb nx 8]⟩⟩, ⟨ho, true, ⟨true, 37, hs.flatMap (rdE F)⟩⟩, ⟨rb, true, ⟨true, 41, (List.range nx).flatMap trE⟩⟩]) (hk15 : k ≤ 15) (hnx : nx ≤ 16) (h15 : ∀ j ∈ hs, j ≤ 15) (hnm : nx ∉ hs) (hhl : hs.length ≤ 80) :
  ACalls Try.prog 13 [.pointer (some ⟨b, 0, none⟩), .agg #[.int .u8 1, .int .u8 193, .int .u8 0, .int .u8 0, .int .u8 0, .int .u32 ((100 + k : Nat) : Int), .int .u32 0, .int .u32 (IntKind.u32.wrap (F + ((k : Nat) : Int))), .int .u32 0, .int .u32 671088640, .int .u32 0, .int .u32 0, .int .u32 0, .slice none 0 0]] H (fun v H' => ∃ (hs1 : List Nat) (zs : List TZ) (ho1 rb1 ot : Option Nat), v = .tuple #[.slice none 0 0, accV ot zs.length 8] ∧ zs.map (·.1) = List.range' nx zs.length ∧ (∀ j, (j ∈ hs1 ∨ j < (nx + zs.length)) ↔ (j ∈ hs ∨ j < nx ∨ j = k)) ∧ (nx + zs.length) ∉ hs1 ∧ (∀ j ∈ hs1, j ≤ 15) ∧ (nx + zs.length) ≤ 16 ∧ hs1.length ≤ hs.length + 1 ∧ (k < nx ∨ k ∈ hs → zs = []) ∧ Stt ([b] ++ ho.toList ++ rb.toList) H H' [⟨some b, true, ⟨true, 64, [.string ⟨#[]⟩, .string ⟨#[116]⟩, .bool false, .bool false, .bool false, .int .i64 sg, .int .i64 bu, .int .i64 65536, .bool true, .bool true, .slice none 0 0, .int .u32 (IntKind.u32.wrap (F + (((nx + zs.length) : Nat) : Int))), .int .u32 stat, .int .u32 tg, accV ho1 hs1.length 14, .slice none 0 0, .bool false, accV rb1 (nx + zs.length) 8]⟩⟩, ⟨ho1, true, ⟨true, 37, hs1.flatMap (rdE F)⟩⟩, ⟨rb1, true, ⟨true, 41, (List.range (nx + zs.length)).flatMap trE⟩⟩, ⟨ot, true, ⟨true, 41, zs.flatMap tkE⟩⟩]) := by
 refine acallsW Try.func13 f13_ok (Nat.le_of_ble_eq_true rfl) fun hw => ?_
 have st : Stt ([b] ++ ho.toList ++ rb.toList) H H [] := Stt.start hw
 replace st := st0
 unfold f13c
 show AWl _ _ _ _ _
 refine aBoxN st rfl rfl (by repeat constructor) rfl fun b3 H1 st => ?_
 iterate 2 refine aN rfl rfl (by constructor) ?_
 refine sE ?_
 show AWl _ _ _ _ _
 refine aN rfl rfl (by constructor) ?_
 refine aBinV (.bool false) rfl rfl rfl ?_
 refine aN rfl rfl (by constructor) ?_
 refine gT rfl ?_
 refine aN rfl rfl (by constructor) ?_
 refine gT rfl ?_
 refine aN rfl rfl (by constructor) ?_
 refine gT rfl ?_
 refine aN rfl rfl (by constructor) ?_
 refine gT rfl ?_
 refine aLd st 1 rfl rfl rfl (by constructor) ?_
 refine aN rfl rfl (by constructor) ?_
 refine sE ?_
 show AW _ (.cond _ _ _) _ _ _
 refine cF' rfl ?_
 show AWp _ _ _ _ _
 refine aN rfl rfl (by constructor) ?_
 refine aLd st 0 rfl rfl rfl (by constructor) ?_
 refine aBinV (.int .u8 1) rfl rfl (rfl) ?_
 refine aN rfl rfl (by constructor) ?_
 refine aLd st 0 rfl rfl rfl (by constructor) ?_
 refine aBinV (.int .u8 0) rfl rfl (rfl) ?_
 refine aBinV (.bool false) rfl rfl rfl ?_
 iterate 2 refine aN rfl rfl (by constructor) ?_
 refine pE ?_
 show AWl _ _ _ _ _
 refine aN rfl rfl (by constructor) ?_
 refine aBinV (.bool false) rfl rfl rfl ?_
 refine aN rfl rfl (by constructor) ?_
 refine sE ?_
 show AW _ (.cond _ _ _) _ _ _
 refine cF' rfl ?_
 show AWl _ _ _ _ _
 refine aN rfl rfl (by constructor) ?_
 refine aBinV (.bool true) rfl rfl rfl ?_
 refine aN rfl rfl (by constructor) ?_
 refine gT rfl ?_
 refine aN rfl rfl (by constructor) ?_
 refine gT rfl ?_
 refine aBinV (.bool false) rfl rfl rfl ?_
 iterate 2 refine aN rfl rfl (by constructor) ?_
 refine gF rfl (by decide) ?_
 refine gF rfl (by decide) ?_
 iterate 2 refine aN rfl rfl (by constructor) ?_
 refine gF rfl (by decide) ?_
 refine gF rfl (by decide) ?_
 iterate 2 refine aN rfl rfl (by constructor) ?_
 refine gF rfl (by decide) ?_
 refine gF rfl (by decide) ?_
 iterate 2 refine aN rfl rfl (by constructor) ?_
 refine gT rfl ?_
 refine aN rfl rfl (by constructor) ?_
 refine gT rfl ?_
 refine aLd st 0 rfl rfl rfl (by constructor) ?_
 refine gT rfl ?_
 refine aBinV (.int .u8 0) rfl rfl (rfl) ?_
 refine gT rfl ?_
 refine aBinV (.bool false) rfl rfl rfl ?_
 iterate 2 refine aN rfl rfl (by constructor) ?_
 refine sE ?_
 show AW _ (.cond _ _ _) _ _ _
 refine cF' rfl ?_
 show AWl _ _ _ _ _
 iterate 2 refine aN rfl rfl (by constructor) ?_
 refine sE ?_
 show AW _ (.cond _ _ _) _ _ _
 refine cF' rfl ?_
 show AWp _ _ _ _ _
 iterate 2 refine aN rfl rfl (by constructor) ?_
 refine aLd st 0 rfl rfl rfl (by constructor) ?_
 iterate 3 refine aN rfl rfl (by constructor) ?_
 refine aLd st 1 rfl rfl rfl (by constructor) ?_
 refine aN rfl rfl (by constructor) ?_
 refine aBinV (.bool (decide (k < nx))) rfl rfl (by exact congrArg (fun q => some (Value.bool q)) (decide_eq_decide.2 (cv_sub hk15 hnx))) ?_
 refine aN rfl rfl (by constructor) ?_
 refine pE ?_
 show AW _ (.cond _ _ _) _ _ _
 refine cC' rfl (fun h2 => ?_) (fun h2 => ?_)
 ·have hkn : k < nx := of_decide_eq_true h2
  show AWl _ _ _ _ _
  iterate 2 refine aN rfl rfl (by constructor) ?_
  refine sE ?_
  refine ⟨_, out2 (r_tmp rfl (by constructor)) (r_tmp rfl (by constructor)) ⟨rfl, rfl⟩, ?_⟩
  have st := st.nil 41
  refine ⟨hs, [], ho, rb, none, rfl, rfl, fun j => ?_, hnm, h15, hnx, by omega, fun _ => rfl, st.sel [2, 3, 4, 0] (by decide)⟩
  constructor
  ·rintro (h | h)
   ·exact .inl h
   ·exact .inr (.inl h)
  ·rintro (h | h | rfl)
   ·exact .inl h
   ·exact .inr h
   ·exact .inr hkn
 ·have hkn : ¬ k < nx := of_decide_eq_false h2
  show AWl _ _ _ _ _
  iterate 3 refine aN rfl rfl (by constructor) ?_
  refine aLdQ st 1 rfl rfl rfl rfl ?_
  refine aLen (st.rowAcc 2 rfl (by decide) (by exact flat_len' rdE_len _)) rfl ?_
  refine aN rfl rfl (by constructor) ?_
  refine sE ?_
  show AW _ (.loop _) _ _ _
  refine AW_loopN (fun m t1 H1 => ∃ (j : Nat), m = hs.length - j ∧ (j ≤ hs.length) ∧ (∀ i, i < j → hs.getD i 0 ≠ k) ∧ t1 89 = .int .i64 (j : Int) ∧ Stt ([b] ++ ho.toList ++ rb.toList) H H1 [⟨some b3, true, ⟨true, 37, [.int .u8 1, .int .u8 193, .int .u8 0, .int .u8 0, .int .u8 0, .int .u32 ((100 + k : Nat) : Int), .int .u32 0, .int .u32 (IntKind.u32.wrap (F + ((k : Nat) : Int))), .int .u32 0, .int .u32 671088640, .int .u32 0, .int .u32 0, .int .u32 0, .slice none 0 0]⟩⟩, ⟨some b, true, ⟨true, 64, [.string ⟨#[]⟩, .string ⟨#[116]⟩, .bool false, .bool false, .bool false, .int .i64 sg, .int .i64 bu, .int .i64 65536, .bool true, .bool true, .slice none 0 0, .int .u32 (IntKind.u32.wrap (F + ((nx : Nat) : Int))), .int .u32 stat, .int .u32 tg, accV ho hs.length 14, .slice none 0 0, .bool false, accV rb nx 8]⟩⟩, ⟨ho, true, ⟨true, 37, hs.flatMap (rdE F)⟩⟩, ⟨rb, true, ⟨true, 41, (List.range nx).flatMap trE⟩⟩]) _ ⟨0, rfl, Nat.zero_le _, fun i h => absurd h (Nat.not_lt_zero i), rfl, (st.sel [0, 1, 2, 3] (by decide))⟩ [4, 5, 9, 89, 90, 91, 92, 93, 94, 95, 96, 97, 98, 99, 100] (by decide) ?_
  rintro m t1 H1 hk hI
  obtain ⟨j, rfl, hj, hne, ht89, st⟩ := hI
  obtain ⟨u, rfl⟩ : ∃ u, t1 = (upd (mix [4, 5, 9, 89, 90, 91, 92, 93, 94, 95, 96, 97, 98, 99, 100] _ u) (some 89) _) := ⟨t1, by rw [← hk, upd_self ht89]⟩
  clear hk ht89
  show AWl _ _ _ _ _
  refine aBinV (.bool (decide (j < hs.length))) rfl rfl (by exact congrArg (fun q => some (Value.bool q)) (decide_eq_decide.2 (by omega))) ?_
  refine sE ?_
  show AW _ (.cond _ _ _) _ _ _
  refine cC' rfl (fun h3 => ?_) (fun h3 => ?_)
  ·have hjn : j < hs.length := of_decide_eq_true h3
   show AWl _ _ _ _ _
   refine aIxE rdE_len 0 (l := hs) (st.rowAcc 2 rfl (by decide) (by exact flat_len' rdE_len _)) rfl rfl (by omega) fun b91 o91 g91 => ?_
   obtain ⟨q, hq⟩ : ∃ q, hs.getD j 0 = q := ⟨_, rfl⟩
   have hq15 : q ≤ 15 := hq ▸ getD_le h15 j
   rw [Int.toNat_natCast, hq] at g91
   replace g91 : Hp.get H1 b91 o91 14 = some [.int .u8 1, .int .u8 193, .int .u8 0, .int .u8 0, .int .u8 0, .int .u32 ((100 + q : Nat) : Int), .int .u32 0, .int .u32 (IntKind.u32.wrap (F + ((q : Nat) : Int))), .int .u32 0, .int .u32 671088640, .int .u32 0, .int .u32 0, .int .u32 0, .slice none 0 0] := g91
   refine aLdAG rfl g91 ?_
   refine aNewP st rfl rfl (by repeat constructor) fun b9 H4 st => ?_
   refine aSt st 0 rfl rfl rfl rfl (by first | rfl | simp [cellsOf, *]) (by first | decide | (simp [*]; done) | (simp [k8]; done)) (by repeat constructor) fun H5 st => ?_
   refine sE ?_
   show AWl _ _ _ _ _
   iterate 2 refine aN rfl rfl (by constructor) ?_
   refine aLd st 0 rfl rfl rfl (by constructor) ?_
   iterate 2 refine aN rfl rfl (by constructor) ?_
   refine aLd st 1 rfl rfl rfl (by constructor) ?_
   refine aBinV (.bool (decide (q = k))) rfl rfl (eqB _ (by rw [decide_eq_true_iff]; exact cv_eq (by omega) (by omega))) ?_
   refine sE ?_
   show AW _ (.cond _ _ _) _ _ _
   refine cC' rfl (fun h6 => ?_) (fun h6 => ?_)
   ·have hqk : q = k := of_decide_eq_true h6
    have hkm : k ∈ hs := by
     have e : hs.getD j 0 = hs[j] := by simp [List.getD, List.getElem?_eq_getElem hjn]
     rw [← hqk, ← hq, e]
     exact List.getElem_mem hjn
    show AWl _ _ _ _ _
    iterate 2 refine aN rfl rfl (by constructor) ?_
    refine sE ?_
    refine ⟨_, out2 (r_tmp rfl (by constructor)) (r_tmp rfl (by constructor)) ⟨rfl, rfl⟩, ?_⟩
    have st := st.nil 41
    refine ⟨hs, [], ho, rb, none, rfl, rfl, fun j => ?_, hnm, h15, hnx, by omega, fun _ => rfl, st.sel [3, 4, 5, 0] (by decide)⟩
    constructor
    ·rintro (h | h)
     ·exact .inl h
     ·exact .inr (.inl h)
    ·rintro (h | h | rfl)
     ·exact .inl h
     ·exact .inr h
     ·exact .inl hkm
   ·have hqk : ¬ q = k := of_decide_eq_false h6
    show AWl _ _ _ _ _
    iterate 2 refine aN rfl rfl (by constructor) ?_
    refine sE ?_
    exact ⟨_, by omega, (j + 1), rfl, by omega, fun i h => by
     by_cases h9 : i < j
     ·exact hne i h9
     ·rw [show i = j by omega, hq]; exact hqk, congrArg (Value.int .i64) (wi _ (by omega)), (st.sel [1, 2, 3, 4] (by decide))⟩
  ·have hjn : ¬ j < hs.length := of_decide_eq_false h3
   have hkh : k ∉ hs := mem_getD (fun i h => hne i (by omega))
   show AWp _ _ _ _ _
   iterate 4 refine aN rfl rfl (by constructor) ?_
   refine aLdQ st 1 rfl rfl rfl rfl ?_
   refine aLdA st 0 rfl rfl (by first | decide | simp [*]) (by repeat constructor) ?_
   refine ⟨?_, trivial⟩
   refine aLit st rfl (by repeat constructor) fun b107 H7 st => ?_
   refine ⟨⟨(h_Ld st 2 rfl rfl rfl (by constructor)), trivial⟩, ?_⟩
   refine ⟨?_, trivial⟩
   refine aAppP st 3 (ob := ho) rfl rfl rfl (by decide) (by exact flat_len' rdE_len _) (st.rowAll 0 rfl (by first | rfl | (simp [beB_len, *]; done) | (simp [beB_len, *]; omega))).src (rfl) (by omega) (by omega) (by omega) (.any _) fun b108 H8 st => ?_
   have st := st.recell 3 rfl (cs' := (hs ++ [k]).flatMap (rdE F)) (flat_snoc rfl rfl)
   refine ⟨⟨(h_LdA st 1 rfl rfl (by first | decide | simp [*]) (by repeat constructor)), trivial⟩, ?_⟩
   iterate 2 refine aN rfl rfl (by constructor) ?_
   refine ⟨?_, trivial⟩
   refine aSt st 2 rfl rfl rfl rfl (by first | rfl | simp [cellsOf, *]) (by first | decide | (simp [*]; done) | (simp [k8]; done)) (by repeat constructor) fun H9 st => ?_
   refine ⟨trivial, ?_⟩
   refine pE ?_
   show AWl _ _ _ _ _
   refine aN rfl rfl (by constructor) ?_
   refine sE ?_
   show AWl _ _ _ _ _
   refine aN rfl rfl (by constructor) ?_
   refine sE ?_
   show AW _ (.loop _) _ _ _
   have st := st.nil 41
   refine AW_loopN (fun m t1 H1 => ∃ (hs1 : List Nat) (zs : List TZ) (ho1 rb1 ot : Option Nat), m = hs1.length ∧ (zs.map (·.1) = List.range' nx zs.length) ∧ (∀ j, (j ∈ hs1 ∨ j < (nx + zs.length)) ↔ (j ∈ hs ∨ j < nx ∨ j = k)) ∧ (∀ j ∈ hs1, j ≤ 15) ∧ ((nx + zs.length) ≤ 16) ∧ (hs1.length ≤ hs.length + 1) ∧ t1 10 = .slice none 0 0 ∧ t1 11 = accV ot zs.length 8 ∧ Stt ([b] ++ ho.toList ++ rb.toList) H H1 [⟨some b, true, ⟨true, 64, [.string ⟨#[]⟩, .string ⟨#[116]⟩, .bool false, .bool false, .bool false, .int .i64 sg, .int .i64 bu, .int .i64 65536, .bool true, .bool true, .slice none 0 0, .int .u32 (IntKind.u32.wrap (F + (((nx + zs.length) : Nat) : Int))), .int .u32 stat, .int .u32 tg, accV ho1 hs1.length 14, .slice none 0 0, .bool false, accV rb1 (nx + zs.length) 8]⟩⟩, ⟨ho1, true, ⟨true, 37, hs1.flatMap (rdE F)⟩⟩, ⟨rb1, true, ⟨true, 41, (List.range (nx + zs.length)).flatMap trE⟩⟩, ⟨ot, true, ⟨true, 41, zs.flatMap tkE⟩⟩]) _ ⟨(hs ++ [k]), [], some b108, rb, none, rfl, rfl, fun j => by simp [or_assoc, or_comm, or_left_comm], fun j hj => by
    rcases List.mem_append.1 hj with h | h
    ·exact h15 j h
    ·rw [List.mem_singleton.1 h]; exact hk15, hnx, by simp, rfl, rfl, (by rw [List.length_append, List.length_singleton]; exact (st.sel [3, 4, 5, 0] (by decide)))⟩ [4, 5, 10, 11, 12, 13, 14, 15, 111, 112, 113, 114, 115, 116, 117, 118, 119, 120, 121, 122, 123, 124, 125, 126, 127, 128, 129, 130, 131, 132, 133, 134, 135, 136, 137, 138, 139, 140, 141, 142, 143, 144, 145, 146, 147, 148, 149, 150, 151, 152, 153, 154, 155, 156, 157, 158, 159, 160, 161, 162, 163, 164, 165] (by decide) ?_
   rintro m t1 H1 hk hI
   obtain ⟨hs1, zs, ho1, rb1, ot, rfl, hz, hR, h151, hn16, hl1, ht10, ht11, st⟩ := hI
   obtain ⟨u, rfl⟩ : ∃ u, t1 = (upd (upd (mix [4, 5, 10, 11, 12, 13, 14, 15, 111, 112, 113, 114, 115, 116, 117, 118, 119, 120, 121, 122, 123, 124, 125, 126, 127, 128, 129, 130, 131, 132, 133, 134, 135, 136, 137, 138, 139, 140, 141, 142, 143, 144, 145, 146, 147, 148, 149, 150, 151, 152, 153, 154, 155, 156, 157, 158, 159, 160, 161, 162, 163, 164, 165] _ u) (some 10) _) (some 11) _) := ⟨t1, by rw [← hk, upd_self ht10, upd_self ht11]⟩
   clear hk ht10 ht11
   show AWl _ _ _ _ _
   iterate 3 refine aN rfl rfl (by constructor) ?_
   refine aLdQ st 0 rfl rfl rfl rfl ?_
   refine aLen (st.rowAcc 1 rfl (by decide) (by exact flat_len' rdE_len _)) rfl ?_
   refine aN rfl rfl (by constructor) ?_
   refine sE ?_
   show AW _ (.loop _) _ _ _
   refine AW_loopN (fun m t1 H1 => ∃ (i : Nat), m = hs1.length - i ∧ (i ≤ hs1.length) ∧ (∀ j, j < i → hs1.getD j 0 ≠ (nx + zs.length)) ∧ t1 116 = .int .i64 (i : Int) ∧ t1 10 = .slice none 0 0 ∧ t1 11 = accV ot zs.length 8 ∧ Stt ([b] ++ ho.toList ++ rb.toList) H H1 [⟨some b, true, ⟨true, 64, [.string ⟨#[]⟩, .string ⟨#[116]⟩, .bool false, .bool false, .bool false, .int .i64 sg, .int .i64 bu, .int .i64 65536, .bool true, .bool true, .slice none 0 0, .int .u32 (IntKind.u32.wrap (F + (((nx + zs.length) : Nat) : Int))), .int .u32 stat, .int .u32 tg, accV ho1 hs1.length 14, .slice none 0 0, .bool false, accV rb1 (nx + zs.length) 8]⟩⟩, ⟨ho1, true, ⟨true, 37, hs1.flatMap (rdE F)⟩⟩, ⟨rb1, true, ⟨true, 41, (List.range (nx + zs.length)).flatMap trE⟩⟩, ⟨ot, true, ⟨true, 41, zs.flatMap tkE⟩⟩]) _ ⟨0, rfl, Nat.zero_le _, fun i h => absurd h (Nat.not_lt_zero i), rfl, rfl, rfl, (st.sel [0, 1, 2, 3] (by decide))⟩ [10, 11, 12, 13, 14, 15, 116, 117, 118, 119, 120, 121, 122, 123, 124, 125, 126, 127, 128, 129, 130, 131, 132, 133, 134, 135, 136, 137, 138, 139, 140, 141, 142, 143, 144, 145, 146, 147, 148, 149, 150, 151, 152, 153, 154, 155, 156, 157, 158, 159, 160, 161, 162, 163] (by decide) ?_
   rintro m t1 H1 hk hI
   obtain ⟨i, rfl, hi, hni, ht116, ht10, ht11, st⟩ := hI
   obtain ⟨u, rfl⟩ : ∃ u, t1 = (upd (upd (upd (mix [10, 11, 12, 13, 14, 15, 116, 117, 118, 119, 120, 121, 122, 123, 124, 125, 126, 127, 128, 129, 130, 131, 132, 133, 134, 135, 136, 137, 138, 139, 140, 141, 142, 143, 144, 145, 146, 147, 148, 149, 150, 151, 152, 153, 154, 155, 156, 157, 158, 159, 160, 161, 162, 163] _ u) (some 116) _) (some 10) _) (some 11) _) := ⟨t1, by rw [← hk, upd_self ht116, upd_self ht10, upd_self ht11]⟩
   clear hk ht116 ht10 ht11
   show AWl _ _ _ _ _
   refine aBinV (.bool (decide (i < hs1.length))) rfl rfl (by exact congrArg (fun q => some (Value.bool q)) (decide_eq_decide.2 (by omega))) ?_
   refine sE ?_
   show AW _ (.cond _ _ _) _ _ _
   refine cC' rfl (fun h10 => ?_) (fun h10 => ?_)
   ·have hin : i < hs1.length := of_decide_eq_true h10
    show AWl _ _ _ _ _
    refine aN rfl rfl (by constructor) ?_
    refine aIxE rdE_len 0 (l := hs1) (st.rowAcc 1 rfl (by decide) (by exact flat_len' rdE_len _)) rfl rfl (by omega) fun b119 o119 g119 => ?_
    obtain ⟨q, hq⟩ : ∃ q, hs1.getD i 0 = q := ⟨_, rfl⟩
    have hq15 : q ≤ 15 := hq ▸ getD_le h151 i
    rw [Int.toNat_natCast, hq] at g119
    replace g119 : Hp.get H1 b119 o119 14 = some [.int .u8 1, .int .u8 193, .int .u8 0, .int .u8 0, .int .u8 0, .int .u32 ((100 + q : Nat) : Int), .int .u32 0, .int .u32 (IntKind.u32.wrap (F + ((q : Nat) : Int))), .int .u32 0, .int .u32 671088640, .int .u32 0, .int .u32 0, .int .u32 0, .slice none 0 0] := g119
    refine aLdAG rfl g119 ?_
    refine aNewP st rfl rfl (by repeat constructor) fun b13 H11 st => ?_
    refine aN rfl rfl (by constructor) ?_
    refine aSt st 0 rfl rfl rfl rfl (by first | rfl | simp [cellsOf, *]) (by first | decide | (simp [*]; done) | (simp [k8]; done)) (by repeat constructor) fun H12 st => ?_
    refine sE ?_
    show AWp _ _ _ _ _
    iterate 2 refine aN rfl rfl (by constructor) ?_
    refine aLd st 0 rfl rfl rfl (by constructor) ?_
    iterate 3 refine aN rfl rfl (by constructor) ?_
    refine aLd st 1 rfl rfl rfl (by constructor) ?_
    by_cases hqn : q = (nx + zs.length)
    ·subst hqn
     refine aBinV (.bool false) rfl rfl (neF rfl) ?_
     refine aN rfl rfl (by constructor) ?_
     refine gT rfl ?_
     refine aN rfl rfl (by constructor) ?_
     refine gT rfl ?_
     refine aN rfl rfl (by constructor) ?_
     refine gT rfl ?_
     refine aN rfl rfl (by constructor) ?_
     refine gT rfl ?_
     refine aLd st 1 rfl rfl rfl (by constructor) ?_
     refine aN rfl rfl (by constructor) ?_
     refine pE ?_
     show AW _ (.cond _ _ _) _ _ _
     refine cF' rfl ?_
     show AWl _ _ _ _ _
     iterate 4 refine aN rfl rfl (by constructor) ?_
     refine aLdQ st 1 rfl rfl rfl rfl ?_
     refine aN rfl rfl (by constructor) ?_
     refine aC (without_k (l := hs1) (i := i) (st.rowAcc 2 rfl (by decide) (by exact flat_len' rdE_len _)) hin (by omega)) fun v141 H13 ⟨o141, hv, st1⟩ => ?_
     subst hv
     replace st := st.call st1 rfl
     clear st1
     iterate 2 refine aN rfl rfl (by constructor) ?_
     refine aStS (st.rowAcc 0 rfl (by decide) (by exact flat_len' rdE_len _)) st 2 rfl rfl rfl (by first | decide | simp) fun H14 st => ?_
     refine sE ?_
     show AWl _ _ _ _ _
     iterate 3 refine aN rfl rfl (by constructor) ?_
     refine aLd st 2 rfl rfl rfl (by constructor) ?_
     refine aBinV (.int .u32 (IntKind.u32.wrap (F + (((nx + zs.length) + 1 : Nat) : Int)))) rfl rfl (by exact congrArg (fun q => some (Value.int .u32 q)) cv_step) ?_
     iterate 2 refine aN rfl rfl (by constructor) ?_
     refine aSt st 2 rfl rfl rfl rfl (by first | rfl | simp [cellsOf, *]) (by first | decide | (simp [*]; done) | (simp [k8]; done)) (by repeat constructor) fun H15 st => ?_
     refine sE ?_
     show AWl _ _ _ _ _
     refine aN rfl rfl (by constructor) ?_
     refine aLdA st 1 rfl rfl (by first | decide | simp [*]) (by repeat constructor) ?_
     refine aC (do_o (st.take2 (o1 := some b) 2 4 rfl rfl (by decide)) (by omega)) fun v154 H16 ⟨c154, cdb, rb154, hv, st1⟩ => ?_
     subst hv
     replace st := st.call2 (o1 := some b) 2 3 rfl rfl st1 rfl
     clear st1
     iterate 5 refine aN rfl rfl (by constructor) ?_
     refine sE ?_
     show AWl _ _ _ _ _
     iterate 2 refine aN rfl rfl (by constructor) ?_
     refine aN (v := .slice none 0 0) rfl rfl (by constructor) ?_
     refine aMovA rfl ?_
     refine aN rfl rfl (by constructor) ?_
     refine aAppP st 6 (ob := ot) rfl rfl rfl (by decide) (by exact flat_len' tkE_len _) (st.rowAll 2 rfl (rfl)).src (rfl) (by omega) (by omega) (by omega) (.any _) fun b162 H17 st => ?_
     have st := st.recell 6 rfl (cs' := (zs ++ [((nx + zs.length), cdb)]).flatMap tkE) (flat_snoc rfl rfl)
     iterate 2 refine aN rfl rfl (by constructor) ?_
     refine sE ?_
     obtain ⟨d1, d2, d3, d4⟩ := drain_step (cdb := cdb) hz hR h151 hin hq
     refine ⟨_, ?_, hs1.eraseIdx i, zs ++ [((nx + zs.length), cdb)], o141, rb154, some b162, rfl, d1, d2, d3, d4, ?_, rfl, ?_, ?_⟩
     ·rw [List.length_eraseIdx, if_pos hin]; omega
     ·rw [List.length_eraseIdx, if_pos hin]; omega
     ·exact congrArg (fun n => accV (some b162) n 8) (show zs.length + 1 = (zs ++ [((nx + zs.length), cdb)]).length by rw [List.length_append, List.length_singleton])
     ·rw [show nx + (zs ++ [((nx + zs.length), cdb)]).length = (nx + zs.length) + 1 by rw [List.length_append, List.length_singleton]; omega]; exact st.sel [0, 3, 1, 6] (by decide)
    ·refine aBinV (.bool true) rfl rfl (neT (fun e => hqn ((cv_eq (by omega) (by omega)).1 e))) ?_
     refine aN rfl rfl (by constructor) ?_
     refine gF rfl (by decide) ?_
     refine gF rfl (by decide) ?_
     refine gF rfl (by decide) ?_
     refine gF rfl (by decide) ?_
     refine aN rfl rfl (by constructor) ?_
     refine pE ?_
     show AW _ (.cond _ _ _) _ _ _
     refine cT rfl ?_
     show AWl _ _ _ _ _
     iterate 2 refine aN rfl rfl (by constructor) ?_
     refine sE ?_
     exact ⟨_, by omega, (i + 1), rfl, by omega, fun j h => by
      by_cases h9 : j < i
      ·exact hni j h9
      ·rw [show j = i by omega, hq]; exact hqn, congrArg (Value.int .i64) (wi _ (by omega)), rfl, rfl, (st.sel [1, 2, 3, 4] (by decide))⟩
   ·have hin : ¬ i < hs1.length := of_decide_eq_false h10
    have hnm : (nx + zs.length) ∉ hs1 := mem_getD (fun j h => hni j (by omega))
    show AWl _ _ _ _ _
    refine aN rfl rfl (by constructor) ?_
    refine aMovA rfl ?_
    refine aN rfl rfl (by constructor) ?_
    refine aMovA rfl ?_
    refine sE ?_
    refine ⟨_, out2 (r_tmp rfl (by constructor)) (r_acc rfl) ⟨rfl, notTup_acc⟩, ?_⟩
    exact ⟨hs1, zs, ho1, rb1, ot, rfl, hz, hR, hnm, h151, hn16, hl1, fun h => absurd h (not_or.2 ⟨hkn, hkh⟩), st.sel [0, 1, 2, 3] (by decide)⟩
end Go.Proofs.Ytloeadlmcdddnaa.Abs
