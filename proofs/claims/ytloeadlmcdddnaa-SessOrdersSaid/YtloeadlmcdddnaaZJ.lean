/- Sessions: data that were asked for. -/
import Derived.Test.YtloeadlmcdddnaaZE
import Derived.Test.YtloeadlmcdddnaaZH
import Derived.Test.YtloeadlmcdddnaaZA
set_option linter.unusedVariables false
set_option linter.unusedSimpArgs false
set_option maxRecDepth 100000
namespace Go.Proofs.Ytloeadlmcdddnaa.Abs
open Go Go.RowKit
variable {tg sg bu : Int}
theorem Stt.slcY {Y : List Nat} {H0 H : Hp} {L : List Ent} {sz n : Nat} {cs : List Value} {u : Value} (st : Stt Y H0 H L) (h : Sl H0 sz n cs u) (ha : ∀ c ∈ Y, Apart c u) : Sl H sz n cs u := by
  obtain ⟨hl, h | ⟨hn, c, o, m, e, hg⟩⟩ := h
  · exact ⟨hl, .inl h⟩
  · refine ⟨hl, .inr ⟨hn, c, o, m, e, ?_⟩⟩
    have hlt := get_lt st.wf0 hg
    have he := st.frm c hlt (fun hc => ha c hc c o n m e hn rfl)
    unfold Hp.get at hg ⊢
    rw [he]; exact hg
theorem ap2 {b c : Nat} {u : Value} (h1 : Apart b u) (h2 : Apart c u) : ∀ d ∈ [b, c], Apart d u := by
  intro d hd
  rcases List.mem_cons.1 hd with rfl | hd
  · exact h1
  · rw [List.mem_singleton.1 hd]; exact h2
/-- A slice of the caller's, told by its block. -/
theorem Stt.held {H0 H : Hp} {L : List Ent} {n : Nat} {cs : List Value} {u : Value} (st : Stt [] H0 H L) (ho : L.all (·.ok) = true) (h : Sl H0 1 n cs u) : ∃ (ob : Option Nat) (kb : Blk), Stt [] H0 H (⟨ob, false, kb⟩ :: L) ∧ (∀ H2 : Hp, (∀ q, ob = some q → H2.m q = some kb) → Sl H2 1 n cs u) ∧ ∀ q, ob ≠ some q → Apart q u := by
  obtain ⟨hl, h | ⟨hn, c, o, m, e, hg⟩⟩ := h
  · refine ⟨none, ⟨true, 5, []⟩, (st.nil 5).weak 0 rfl, fun H2 _ => ⟨hl, .inl h⟩, fun q _ c o n' m e hn => ?_⟩
    obtain ⟨h0, e1 | ⟨c', o', m', e1⟩⟩ := h
    · rw [e] at e1; cases e1
    · rw [e] at e1; injection e1 with e1 e2; omega
  · have hlt := get_lt st.wf0 hg
    have hkb : ∃ kb, H0.m c = some kb := by
      unfold Hp.get at hg
      rcases hk : H0.m c with _ | k
      · rw [hk] at hg; cases hg
      · exact ⟨k, rfl⟩
    obtain ⟨kb, hkb⟩ := hkb
    have hc : H.m c = some kb := by rw [st.frm c hlt (by simp)]; exact hkb
    refine ⟨some c, kb, st.ro hc (fun p hp hk => ?_), fun H2 h2 => ⟨hl, .inr ⟨hn, c, o, m, e, ?_⟩⟩, fun q hq d o' n' m' e' hn' hd => ?_⟩
    · rcases (st.own p hp (List.all_eq_true.1 ho p hp)).2 c hk with h1 | h1
      · omega
      · cases h1
    · have h3 := h2 c rfl
      unfold Hp.get at hg ⊢
      rw [h3]
      rw [hkb] at hg
      exact hg
    · rw [e] at e'
      injection e' with e1 e2 e3
      injection e1 with e1
      injection e1 with e1
      exact hq (by rw [e1, hd])
theorem held_own {b n : Nat} {cs : List Value} (hn : cs.length = n) (h0 : 0 < n) : ∀ H2 : Hp, (∀ q, some b = some q → H2.m q = some ⟨true, 5, cs⟩) → Sl H2 1 n cs (.slice (some ⟨b, 0, none⟩) n 1) := fun H2 h => by
  have h1 := h b rfl
  refine ⟨by omega, .inr ⟨h0, b, 0, 1, rfl, ?_⟩⟩
  rw [get_of (k := ⟨true, 5, cs⟩) h1 (by simp only; omega)]
  simp only [List.drop_zero, Nat.mul_one]
  rw [List.take_of_length_le (by omega)]
theorem ap_own {b n : Nat} (q : Nat) (h : some b ≠ some q) : Apart q (.slice (some ⟨b, 0, none⟩) n 1) := acc_apart h
theorem moE {g N a : Nat} (hg : 1 ≤ g) (h : a ≤ N) (hN : N ≤ 65536) : (if IntKind.i64.wrap ((N : Int) - (a : Int)) < (if (g : Int) < 1 then 1 else (g : Int)) then IntKind.i64.wrap ((N : Int) - (a : Int)) else (if (g : Int) < 1 then 1 else (g : Int))) = ((min g (N - a) : Nat) : Int) := by
  rw [if_neg (show ¬ ((g : Int) < 1) by omega), wi _ (by omega)]
  split <;> omega
theorem data_a {H : Hp} {b wb g N kn q e : Nat} {cmd stat tag rdy fr mo ak : Int} {hd rd cdb u y : Value} {ls ys : List Int} (hk : H.m b = some ⟨true, 64, [.string ⟨#[]⟩, .string ⟨#[116]⟩, .bool false, .bool false, .bool false, .int .i64 sg, .int .i64 (g : Int), .int .i64 65536, .bool true, .bool true, .slice none 0 0, .int .u32 cmd, .int .u32 stat, .int .u32 tg, hd, .slice (some ⟨wb, 0, none⟩) 1 12, .bool false, rd]⟩) (hkw : H.m wb = some ⟨true, 76, [.int .u32 tag, .int .u8 0, .int .u8 0, cdb, u, .int .i64 (N : Int), .int .u8 0, .int .u32 0, .int .u32 rdy, .int .i64 fr, .int .i64 mo, .int .u32 ak]⟩) (hwb : wb ≠ b) (hu : Sl H 1 kn (ls.map (Value.int .u8)) u) (hau : Apart b u) (hau' : Apart wb u) (hy : Sl H 1 q (ys.map (Value.int .u8)) y) (hay : Apart b y) (hay' : Apart wb y) (hfe : fr + mo = (e : Int)) (hq : kn + q < e) (hN : e ≤ N ∧ N ≤ 3000) (hq1 : 1 ≤ q) (hg : 1 ≤ g) :
  ACalls Try.prog 21 [.pointer (some ⟨b, 0, none⟩), .agg #[.int .u8 5, .int .u8 0, .int .u8 0, .int .u8 0, .int .u8 0, .int .u32 tag, .int .u32 rdy, .int .u32 0, .int .u32 0, .int .u32 0, .int .u32 0, .int .u32 (kn : Int), .int .u32 0, y]] H (fun v H' => ∃ bo, v = .tuple #[.slice none 0 0, .slice none 0 0] ∧ Stt [b, wb] H H' [⟨some b, true, ⟨true, 64, [.string ⟨#[]⟩, .string ⟨#[116]⟩, .bool false, .bool false, .bool false, .int .i64 sg, .int .i64 (g : Int), .int .i64 65536, .bool true, .bool true, .slice none 0 0, .int .u32 cmd, .int .u32 stat, .int .u32 tg, hd, .slice (some ⟨wb, 0, none⟩) 1 12, .bool false, rd]⟩⟩, ⟨some wb, true, ⟨true, 76, [.int .u32 tag, .int .u8 0, .int .u8 0, cdb, .slice (some ⟨bo, 0, none⟩) (kn + q) 1, .int .i64 (N : Int), .int .u8 0, .int .u32 0, .int .u32 rdy, .int .i64 fr, .int .i64 mo, .int .u32 ak]⟩⟩, ⟨some bo, true, ⟨true, 5, (ls ++ ys).map (Value.int .u8)⟩⟩]) := by
 refine acallsW Try.func21 f21_ok (Nat.le_of_ble_eq_true rfl) fun hw => ?_
 have st : Stt [b, wb] H H [] := Stt.start hw
 replace st := st.mine hkw rfl (by simp) (by simp)
 replace st := st.mine hk rfl (by simp) (by simpa using hwb)
 obtain ⟨pu, cu, rfl⟩ := hu.shape
 obtain ⟨py, cy, rfl⟩ := hy.shape
 have hll := hu.1
 have hyl := hy.1
 rw [List.length_map, Nat.mul_one] at hll hyl
 unfold f21c
 show AWl _ _ _ _ _
 refine aBoxN st rfl rfl (by repeat constructor) rfl fun b3 H1 st => ?_
 iterate 2 refine aN rfl rfl (by constructor) ?_
 refine sE ?_
 show AWl _ _ _ _ _
 iterate 3 refine aN rfl rfl (by constructor) ?_
 refine aLd st 1 rfl rfl rfl (by constructor) ?_
 refine aN (v := .int .i64 1) rfl rfl (by constructor) ?_
 refine aN rfl rfl (by constructor) ?_
 refine sE ?_
 show AW _ (.loop _) _ _ _
 refine AW_loopN (fun m t1 H1 => m = 0 ∧ t1 15 = .int .i64 0 ∧ Stt [b, wb] H H1 [⟨some b3, true, ⟨true, 37, [.int .u8 5, .int .u8 0, .int .u8 0, .int .u8 0, .int .u8 0, .int .u32 tag, .int .u32 rdy, .int .u32 0, .int .u32 0, .int .u32 0, .int .u32 0, .int .u32 (kn : Int), .int .u32 0, .slice py q cy]⟩⟩, ⟨some b, true, ⟨true, 64, [.string ⟨#[]⟩, .string ⟨#[116]⟩, .bool false, .bool false, .bool false, .int .i64 sg, .int .i64 (g : Int), .int .i64 65536, .bool true, .bool true, .slice none 0 0, .int .u32 cmd, .int .u32 stat, .int .u32 tg, hd, .slice (some ⟨wb, 0, none⟩) 1 12, .bool false, rd]⟩⟩, ⟨some wb, true, ⟨true, 76, [.int .u32 tag, .int .u8 0, .int .u8 0, cdb, .slice pu kn cu, .int .i64 (N : Int), .int .u8 0, .int .u32 0, .int .u32 rdy, .int .i64 fr, .int .i64 mo, .int .u32 ak]⟩⟩]) 0 ⟨rfl, rfl, (st.sel [0, 1, 2] (by decide))⟩ [4, 5, 6, 7, 8, 9, 15, 16, 17, 18, 19, 20, 21, 22, 23, 24, 25, 26, 27, 28, 29, 30, 31, 32, 33, 34, 35, 36, 37, 38, 39, 40, 41, 42, 43, 44, 45, 46, 47, 48, 49, 50, 51, 52, 53, 54, 55, 56, 57, 58, 59, 60, 61, 62, 63, 64, 65, 66, 67, 68, 69, 70, 71, 72, 73, 74, 75, 76, 77, 78, 79, 80, 81, 82, 83, 84, 85, 86, 87, 88, 89, 90, 91, 92, 93, 94, 95, 96, 97, 98, 99, 100, 101, 102, 103, 104, 105, 106, 107, 108, 109, 110, 111, 112, 113, 114, 115, 116, 117, 118, 119, 120, 121, 122, 123, 124, 125, 126, 127, 128, 129, 130, 131, 132, 133, 134, 135, 136, 137, 138, 139, 140, 141, 142, 143] (by decide) ?_
 rintro m t1 H1 hk hI
 obtain ⟨rfl, ht15, st⟩ := hI
 obtain ⟨u, rfl⟩ : ∃ u, t1 = (upd (mix [4, 5, 6, 7, 8, 9, 15, 16, 17, 18, 19, 20, 21, 22, 23, 24, 25, 26, 27, 28, 29, 30, 31, 32, 33, 34, 35, 36, 37, 38, 39, 40, 41, 42, 43, 44, 45, 46, 47, 48, 49, 50, 51, 52, 53, 54, 55, 56, 57, 58, 59, 60, 61, 62, 63, 64, 65, 66, 67, 68, 69, 70, 71, 72, 73, 74, 75, 76, 77, 78, 79, 80, 81, 82, 83, 84, 85, 86, 87, 88, 89, 90, 91, 92, 93, 94, 95, 96, 97, 98, 99, 100, 101, 102, 103, 104, 105, 106, 107, 108, 109, 110, 111, 112, 113, 114, 115, 116, 117, 118, 119, 120, 121, 122, 123, 124, 125, 126, 127, 128, 129, 130, 131, 132, 133, 134, 135, 136, 137, 138, 139, 140, 141, 142, 143] _ u) (some 15) _) := ⟨t1, by rw [← hk, upd_self ht15]⟩
 clear hk ht15
 show AWl _ _ _ _ _
 refine aBinV (.bool true) rfl rfl rfl ?_
 refine sE ?_
 show AW _ (.cond _ _ _) _ _ _
 refine cT rfl ?_
 show AWl _ _ _ _ _
 iterate 2 refine aN rfl rfl (by constructor) ?_
 refine sE ?_
 show AWl _ _ _ _ _
 iterate 3 refine aN rfl rfl (by constructor) ?_
 refine aLd st 1 rfl rfl rfl (by constructor) ?_
 iterate 3 refine aN rfl rfl (by constructor) ?_
 refine sE ?_
 show AWp _ _ _ _ _
 iterate 4 refine aN rfl rfl (by constructor) ?_
 refine aLd st 2 rfl rfl rfl (by constructor) ?_
 refine aN rfl rfl (by constructor) ?_
 refine aLd st 0 rfl rfl rfl (by constructor) ?_
 refine aBinV (.bool false) rfl rfl (ne_int) ?_
 refine aN rfl rfl (by constructor) ?_
 refine gT rfl ?_
 refine aN rfl rfl (by constructor) ?_
 refine gT rfl ?_
 refine aN rfl rfl (by constructor) ?_
 refine gT rfl ?_
 refine aN rfl rfl (by constructor) ?_
 refine gT rfl ?_
 refine aLd st 2 rfl rfl rfl (by constructor) ?_
 refine gT rfl ?_
 refine aN rfl rfl (by constructor) ?_
 refine gT rfl ?_
 refine aN rfl rfl (by constructor) ?_
 refine gT rfl ?_
 refine aLd st 0 rfl rfl rfl (by constructor) ?_
 refine gT rfl ?_
 refine aBinV (.bool false) rfl rfl (ne_int) ?_
 refine aN rfl rfl (by constructor) ?_
 refine pE ?_
 show AW _ (.cond _ _ _) _ _ _
 refine cF' rfl ?_
 show AWl _ _ _ _ _
 iterate 4 refine aN rfl rfl (by constructor) ?_
 refine aLdQ st 2 rfl rfl rfl (rfl : (Value.slice pu kn cu) = _) ?_
 refine aLen (st.slcY hu (ap2 hau hau')) rfl ?_
 refine aN rfl rfl (by constructor) ?_
 refine sE ?_
 show AWp _ _ _ _ _
 iterate 2 refine aN rfl rfl (by constructor) ?_
 refine aLd st 0 rfl rfl rfl (by constructor) ?_
 refine aConvV (n' := (kn : Int)) rfl (c64 (by omega)) ?_
 refine aN rfl rfl (by constructor) ?_
 refine aBinV (.bool false) rfl rfl (neF rfl) ?_
 refine aN rfl rfl (by constructor) ?_
 refine gT rfl ?_
 refine aN rfl rfl (by constructor) ?_
 refine gT rfl ?_
 refine aLdQ st 0 rfl rfl rfl (rfl : (Value.slice py q cy) = _) ?_
 refine gT rfl ?_
 refine aLen (st.slcY hy (ap2 hay hay')) rfl ?_
 refine gT rfl ?_
 refine aN rfl rfl (by constructor) ?_
 refine gT rfl ?_
 refine aN rfl rfl (by constructor) ?_
 refine gT rfl ?_
 refine aN rfl rfl (by constructor) ?_
 refine gT rfl ?_
 refine aLd st 2 rfl rfl rfl (by constructor) ?_
 refine gT rfl ?_
 refine aN rfl rfl (by constructor) ?_
 refine gT rfl ?_
 refine aN rfl rfl (by constructor) ?_
 refine gT rfl ?_
 refine aN rfl rfl (by constructor) ?_
 refine gT rfl ?_
 refine aLd st 2 rfl rfl rfl (by constructor) ?_
 refine gT rfl ?_
 refine aBinV (.int .i64 (e : Int)) rfl rfl (addI hfe (by omega)) ?_
 refine gT rfl ?_
 refine aN rfl rfl (by constructor) ?_
 refine gT rfl ?_
 refine aBinV (.int .i64 ((e - kn : Nat) : Int)) rfl rfl (subI (by omega) (by omega)) ?_
 refine gT rfl ?_
 refine aBinV (.bool false) rfl rfl (gtF (by omega)) ?_
 refine aN rfl rfl (by constructor) ?_
 refine pE ?_
 show AW _ (.cond _ _ _) _ _ _
 refine cF' rfl ?_
 show AWp _ _ _ _ _
 iterate 5 refine aN rfl rfl (by constructor) ?_
 refine aLdQ st 2 rfl rfl rfl (rfl : (Value.slice pu kn cu) = _) ?_
 refine aN rfl rfl (by constructor) ?_
 refine aLdQ st 0 rfl rfl rfl (rfl : (Value.slice py q cy) = _) ?_
 refine ⟨?_, trivial⟩
 have st := st.nil 5
 have hnil : (Value.slice none 0 0) = accV none 0 1 := rfl
 refine aApp st 0 (ob := none) (n := 0) rfl rfl rfl (by decide) (rfl) (st.slcY hu (ap2 hau hau')).src (by rw [List.length_map]; omega) (by omega) (by omega) fun b80 H2 hp80 st => ?_
 rw [Nat.zero_add kn]
 refine ⟨⟨(h_Ld st 1 rfl rfl rfl (by constructor)), trivial⟩, ?_⟩
 refine ⟨?_, trivial⟩
 refine aApp st 0 (ob := b80) rfl rfl rfl (by decide) (by rw [List.nil_append, List.length_map]; omega) (st.slcY hy (ap2 hay hay')).src (by rw [List.length_map]; omega) (by omega) (by omega) fun b83 H3 hp83 st => ?_
 have st := st.recell 0 rfl (cs' := (ls ++ ys).map (Value.int .u8)) (by simp)
 obtain ⟨bo, rfl⟩ := hp83 (by omega)
 refine ⟨⟨(h_Ld st 3 rfl rfl rfl (by constructor)), trivial⟩, ?_⟩
 iterate 3 refine aN rfl rfl (by constructor) ?_
 refine ⟨?_, trivial⟩
 refine aSt st 3 rfl rfl rfl rfl (by first | rfl | simp [cellsOf, *]) (by first | decide | (simp [*]; done) | (simp [k8]; done)) (by repeat constructor) fun H4 st => ?_
 refine ⟨trivial, ?_⟩
 refine pE ?_
 show AWp _ _ _ _ _
 iterate 4 refine aN rfl rfl (by constructor) ?_
 refine aLd st 3 rfl rfl rfl (by constructor) ?_
 refine aN (v := .int .i64 ((kn + q : Nat) : Int)) rfl rfl (by constructor) ?_
 iterate 3 refine aN rfl rfl (by constructor) ?_
 refine aLd st 3 rfl rfl rfl (by constructor) ?_
 iterate 3 refine aN rfl rfl (by constructor) ?_
 refine aLd st 3 rfl rfl rfl (by constructor) ?_
 refine aBinV (.int .i64 (e : Int)) rfl rfl (addI hfe (by omega)) ?_
 refine aBinV (.bool true) rfl rfl (ltT (by omega)) ?_
 refine aN rfl rfl (by constructor) ?_
 refine pE ?_
 show AW _ (.cond _ _ _) _ _ _
 refine cT rfl ?_
 show AWl _ _ _ _ _
 refine aN rfl rfl (by constructor) ?_
 refine aLd st 1 rfl rfl rfl (by constructor) ?_
 refine aBinV (.int .u8 0) rfl rfl (rfl) ?_
 refine aBinV (.bool false) rfl rfl rfl ?_
 refine sE ?_
 show AW _ (.cond _ _ _) _ _ _
 refine cF' rfl ?_
 show AWl _ _ _ _ _
 iterate 2 refine aN rfl rfl (by constructor) ?_
 refine sE ?_
 refine ⟨_, out2 (r_tmp rfl (by constructor)) (r_tmp rfl (by constructor)) ⟨rfl, rfl⟩, ?_⟩
 exact ⟨bo, rfl, st.sel [2, 3, 0] (by decide)⟩
theorem in_data_a {H : Hp} {b wb g N kn q e : Nat} {cmd stat tag rdy fr mo ak : Int} {hd rd cdb u y : Value} {ls ys : List Int} (hk : H.m b = some ⟨true, 64, [.string ⟨#[]⟩, .string ⟨#[116]⟩, .bool false, .bool false, .bool false, .int .i64 sg, .int .i64 (g : Int), .int .i64 65536, .bool true, .bool true, .slice none 0 0, .int .u32 cmd, .int .u32 stat, .int .u32 tg, hd, .slice (some ⟨wb, 0, none⟩) 1 12, .bool false, rd]⟩) (hkw : H.m wb = some ⟨true, 76, [.int .u32 tag, .int .u8 0, .int .u8 0, cdb, u, .int .i64 (N : Int), .int .u8 0, .int .u32 0, .int .u32 rdy, .int .i64 fr, .int .i64 mo, .int .u32 ak]⟩) (hwb : wb ≠ b) (hu : Sl H 1 kn (ls.map (Value.int .u8)) u) (hau : Apart b u) (hau' : Apart wb u) (hy : Sl H 1 q (ys.map (Value.int .u8)) y) (hay : Apart b y) (hay' : Apart wb y) (hfe : fr + mo = (e : Int)) (hq : kn + q < e) (hN : e ≤ N ∧ N ≤ 3000) (hq1 : 1 ≤ q) (hg : 1 ≤ g) :
  ACalls Try.prog 13 [.pointer (some ⟨b, 0, none⟩), .agg #[.int .u8 5, .int .u8 0, .int .u8 0, .int .u8 0, .int .u8 0, .int .u32 tag, .int .u32 rdy, .int .u32 0, .int .u32 0, .int .u32 0, .int .u32 0, .int .u32 (kn : Int), .int .u32 0, y]] H (fun v H' => ∃ bo, v = .tuple #[.slice none 0 0, .slice none 0 0] ∧ Stt [b, wb] H H' [⟨some b, true, ⟨true, 64, [.string ⟨#[]⟩, .string ⟨#[116]⟩, .bool false, .bool false, .bool false, .int .i64 sg, .int .i64 (g : Int), .int .i64 65536, .bool true, .bool true, .slice none 0 0, .int .u32 cmd, .int .u32 stat, .int .u32 tg, hd, .slice (some ⟨wb, 0, none⟩) 1 12, .bool false, rd]⟩⟩, ⟨some wb, true, ⟨true, 76, [.int .u32 tag, .int .u8 0, .int .u8 0, cdb, .slice (some ⟨bo, 0, none⟩) (kn + q) 1, .int .i64 (N : Int), .int .u8 0, .int .u32 0, .int .u32 rdy, .int .i64 fr, .int .i64 mo, .int .u32 ak]⟩⟩, ⟨some bo, true, ⟨true, 5, (ls ++ ys).map (Value.int .u8)⟩⟩]) := by
 refine acallsW Try.func13 f13_ok (Nat.le_of_ble_eq_true rfl) fun hw => ?_
 have st : Stt [b, wb] H H [] := Stt.start hw
 replace st := st.mine hkw rfl (by simp) (by simp)
 replace st := st.mine hk rfl (by simp) (by simpa using hwb)
 obtain ⟨pu, cu, rfl⟩ := hu.shape
 obtain ⟨py, cy, rfl⟩ := hy.shape
 have hll := hu.1
 have hyl := hy.1
 rw [List.length_map, Nat.mul_one] at hll hyl
 unfold f13c
 show AWl _ _ _ _ _
 refine aBoxN st rfl rfl (by repeat constructor) rfl fun b3 H1 st => ?_
 iterate 2 refine aN rfl rfl (by constructor) ?_
 refine sE ?_
 show AWl _ _ _ _ _
 refine aN rfl rfl (by constructor) ?_
 refine aBinV (.bool false) rfl rfl rfl ?_
 refine aN rfl rfl (by constructor) ?_
 refine gT rfl ?_
 refine aN rfl rfl (by constructor) ?_
 refine gT rfl ?_
 refine aN rfl rfl (by constructor) ?_
 refine gT rfl ?_
 refine aN rfl rfl (by constructor) ?_
 refine gT rfl ?_
 refine aLd st 1 rfl rfl rfl (by constructor) ?_
 refine aN rfl rfl (by constructor) ?_
 refine sE ?_
 show AW _ (.cond _ _ _) _ _ _
 refine cF' rfl ?_
 show AWp _ _ _ _ _
 refine aN rfl rfl (by constructor) ?_
 refine aLd st 0 rfl rfl rfl (by constructor) ?_
 refine aBinV (.int .u8 5) rfl rfl (rfl) ?_
 refine aN rfl rfl (by constructor) ?_
 refine aLd st 0 rfl rfl rfl (by constructor) ?_
 refine aBinV (.int .u8 0) rfl rfl (rfl) ?_
 refine aBinV (.bool false) rfl rfl rfl ?_
 iterate 2 refine aN rfl rfl (by constructor) ?_
 refine pE ?_
 show AWl _ _ _ _ _
 refine aN rfl rfl (by constructor) ?_
 refine aBinV (.bool true) rfl rfl rfl ?_
 refine aN rfl rfl (by constructor) ?_
 refine sE ?_
 show AW _ (.cond _ _ _) _ _ _
 refine cT rfl ?_
 show AWl _ _ _ _ _
 refine aN rfl rfl (by constructor) ?_
 refine aLdA st 0 rfl rfl (by first | decide | simp [*]) (by repeat constructor) ?_
 refine aC (data_a (st.get (j := 1) rfl) (st.get (j := 2) rfl) (by have := st.ne 2 1 rfl rfl (by decide); simpa using this) (st.slcY hu (ap2 hau hau')) hau hau' (st.slcY hy (ap2 hay hay')) hay hay' hfe hq hN hq1 hg) fun v36 H2 ⟨bo, hv, st1⟩ => ?_
 subst hv
 replace st := st.call2 (o1 := some b) (o2 := some wb) 1 1 rfl rfl st1 rfl
 clear st1
 iterate 4 refine aN rfl rfl (by constructor) ?_
 refine sE ?_
 refine ⟨_, out2 (r_tmp rfl (by constructor)) (r_tmp rfl (by constructor)) ⟨rfl, rfl⟩, ?_⟩
 exact ⟨bo, rfl, st.sel [0, 1, 2] (by decide)⟩
theorem data_b {H : Hp} {b wb g N kn q e : Nat} {cmd stat tag rdy fr mo ak : Int} {hd rd cdb u y : Value} {ls ys : List Int} (hk : H.m b = some ⟨true, 64, [.string ⟨#[]⟩, .string ⟨#[116]⟩, .bool false, .bool false, .bool false, .int .i64 sg, .int .i64 (g : Int), .int .i64 65536, .bool true, .bool true, .slice none 0 0, .int .u32 cmd, .int .u32 stat, .int .u32 tg, hd, .slice (some ⟨wb, 0, none⟩) 1 12, .bool false, rd]⟩) (hkw : H.m wb = some ⟨true, 76, [.int .u32 tag, .int .u8 0, .int .u8 0, cdb, u, .int .i64 (N : Int), .int .u8 0, .int .u32 0, .int .u32 rdy, .int .i64 fr, .int .i64 mo, .int .u32 ak]⟩) (hwb : wb ≠ b) (hu : Sl H 1 kn (ls.map (Value.int .u8)) u) (hau : Apart b u) (hau' : Apart wb u) (hy : Sl H 1 q (ys.map (Value.int .u8)) y) (hay : Apart b y) (hay' : Apart wb y) (hfe : fr + mo = (e : Int)) (hq : kn + q = e) (heN : e < N) (hN : e ≤ N ∧ N ≤ 3000) (hq1 : 1 ≤ q) (hg : 1 ≤ g) :
  ACalls Try.prog 21 [.pointer (some ⟨b, 0, none⟩), .agg #[.int .u8 5, .int .u8 128, .int .u8 0, .int .u8 0, .int .u8 0, .int .u32 tag, .int .u32 rdy, .int .u32 0, .int .u32 0, .int .u32 0, .int .u32 0, .int .u32 (kn : Int), .int .u32 0, y]] H (fun v H' => ∃ (c bo : Nat), v = .tuple #[.slice (some ⟨c, 0, none⟩) 1 14, .slice none 0 0] ∧ Stt [b, wb] H H' [⟨some b, true, ⟨true, 64, [.string ⟨#[]⟩, .string ⟨#[116]⟩, .bool false, .bool false, .bool false, .int .i64 sg, .int .i64 (g : Int), .int .i64 65536, .bool true, .bool true, .slice none 0 0, .int .u32 cmd, .int .u32 stat, .int .u32 (IntKind.u32.wrap (tg + 1)), hd, .slice (some ⟨wb, 0, none⟩) 1 12, .bool false, rd]⟩⟩, ⟨some wb, true, ⟨true, 76, [.int .u32 tag, .int .u8 0, .int .u8 0, cdb, .slice (some ⟨bo, 0, none⟩) (kn + q) 1, .int .i64 (N : Int), .int .u8 0, .int .u32 0, .int .u32 (IntKind.u32.wrap (tg + 1)), .int .i64 ((kn + q : Nat) : Int), .int .i64 ((min g (N - (kn + q)) : Nat) : Int), .int .u32 (IntKind.u32.wrap (ak + 1))]⟩⟩, ⟨some c, true, ⟨true, 37, [.int .u8 49, .int .u8 128, .int .u8 0, .int .u8 0, .int .u8 0, .int .u32 tag, .int .u32 (IntKind.u32.wrap (tg + 1)), .int .u32 stat, .int .u32 cmd, .int .u32 (IntKind.u32.wrap (IntKind.u32.wrap (cmd + 16) - 1)), .int .u32 ak, .int .u32 ((kn + q : Nat) : Int), .int .u32 ((min g (N - ((kn + q : Nat))) : Nat) : Int), .slice none 0 0]⟩⟩, ⟨some bo, true, ⟨true, 5, (ls ++ ys).map (Value.int .u8)⟩⟩]) := by
 refine acallsW Try.func21 f21_ok (Nat.le_of_ble_eq_true rfl) fun hw => ?_
 have st : Stt [b, wb] H H [] := Stt.start hw
 replace st := st.mine hkw rfl (by simp) (by simp)
 replace st := st.mine hk rfl (by simp) (by simpa using hwb)
 obtain ⟨pu, cu, rfl⟩ := hu.shape
 obtain ⟨py, cy, rfl⟩ := hy.shape
 have hll := hu.1
 have hyl := hy.1
 rw [List.length_map, Nat.mul_one] at hll hyl
 unfold f21c
 show AWl _ _ _ _ _
 refine aBoxN st rfl rfl (by repeat constructor) rfl fun b3 H1 st => ?_
 iterate 2 refine aN rfl rfl (by constructor) ?_
 refine sE ?_
 show AWl _ _ _ _ _
 iterate 3 refine aN rfl rfl (by constructor) ?_
 refine aLd st 1 rfl rfl rfl (by constructor) ?_
 refine aN (v := .int .i64 1) rfl rfl (by constructor) ?_
 refine aN rfl rfl (by constructor) ?_
 refine sE ?_
 show AW _ (.loop _) _ _ _
 refine AW_loopN (fun m t1 H1 => m = 0 ∧ t1 15 = .int .i64 0 ∧ Stt [b, wb] H H1 [⟨some b3, true, ⟨true, 37, [.int .u8 5, .int .u8 128, .int .u8 0, .int .u8 0, .int .u8 0, .int .u32 tag, .int .u32 rdy, .int .u32 0, .int .u32 0, .int .u32 0, .int .u32 0, .int .u32 (kn : Int), .int .u32 0, .slice py q cy]⟩⟩, ⟨some b, true, ⟨true, 64, [.string ⟨#[]⟩, .string ⟨#[116]⟩, .bool false, .bool false, .bool false, .int .i64 sg, .int .i64 (g : Int), .int .i64 65536, .bool true, .bool true, .slice none 0 0, .int .u32 cmd, .int .u32 stat, .int .u32 tg, hd, .slice (some ⟨wb, 0, none⟩) 1 12, .bool false, rd]⟩⟩, ⟨some wb, true, ⟨true, 76, [.int .u32 tag, .int .u8 0, .int .u8 0, cdb, .slice pu kn cu, .int .i64 (N : Int), .int .u8 0, .int .u32 0, .int .u32 rdy, .int .i64 fr, .int .i64 mo, .int .u32 ak]⟩⟩]) 0 ⟨rfl, rfl, (st.sel [0, 1, 2] (by decide))⟩ [4, 5, 6, 7, 8, 9, 15, 16, 17, 18, 19, 20, 21, 22, 23, 24, 25, 26, 27, 28, 29, 30, 31, 32, 33, 34, 35, 36, 37, 38, 39, 40, 41, 42, 43, 44, 45, 46, 47, 48, 49, 50, 51, 52, 53, 54, 55, 56, 57, 58, 59, 60, 61, 62, 63, 64, 65, 66, 67, 68, 69, 70, 71, 72, 73, 74, 75, 76, 77, 78, 79, 80, 81, 82, 83, 84, 85, 86, 87, 88, 89, 90, 91, 92, 93, 94, 95, 96, 97, 98, 99, 100, 101, 102, 103, 104, 105, 106, 107, 108, 109, 110, 111, 112, 113, 114, 115, 116, 117, 118, 119, 120, 121, 122, 123, 124, 125, 126, 127, 128, 129, 130, 131, 132, 133, 134, 135, 136, 137, 138, 139, 140, 141, 142, 143] (by decide) ?_
 rintro m t1 H1 hk hI
 obtain ⟨rfl, ht15, st⟩ := hI
 obtain ⟨u, rfl⟩ : ∃ u, t1 = (upd (mix [4, 5, 6, 7, 8, 9, 15, 16, 17, 18, 19, 20, 21, 22, 23, 24, 25, 26, 27, 28, 29, 30, 31, 32, 33, 34, 35, 36, 37, 38, 39, 40, 41, 42, 43, 44, 45, 46, 47, 48, 49, 50, 51, 52, 53, 54, 55, 56, 57, 58, 59, 60, 61, 62, 63, 64, 65, 66, 67, 68, 69, 70, 71, 72, 73, 74, 75, 76, 77, 78, 79, 80, 81, 82, 83, 84, 85, 86, 87, 88, 89, 90, 91, 92, 93, 94, 95, 96, 97, 98, 99, 100, 101, 102, 103, 104, 105, 106, 107, 108, 109, 110, 111, 112, 113, 114, 115, 116, 117, 118, 119, 120, 121, 122, 123, 124, 125, 126, 127, 128, 129, 130, 131, 132, 133, 134, 135, 136, 137, 138, 139, 140, 141, 142, 143] _ u) (some 15) _) := ⟨t1, by rw [← hk, upd_self ht15]⟩
 clear hk ht15
 show AWl _ _ _ _ _
 refine aBinV (.bool true) rfl rfl rfl ?_
 refine sE ?_
 show AW _ (.cond _ _ _) _ _ _
 refine cT rfl ?_
 show AWl _ _ _ _ _
 iterate 2 refine aN rfl rfl (by constructor) ?_
 refine sE ?_
 show AWl _ _ _ _ _
 iterate 3 refine aN rfl rfl (by constructor) ?_
 refine aLd st 1 rfl rfl rfl (by constructor) ?_
 iterate 3 refine aN rfl rfl (by constructor) ?_
 refine sE ?_
 show AWp _ _ _ _ _
 iterate 4 refine aN rfl rfl (by constructor) ?_
 refine aLd st 2 rfl rfl rfl (by constructor) ?_
 refine aN rfl rfl (by constructor) ?_
 refine aLd st 0 rfl rfl rfl (by constructor) ?_
 refine aBinV (.bool false) rfl rfl (ne_int) ?_
 refine aN rfl rfl (by constructor) ?_
 refine gT rfl ?_
 refine aN rfl rfl (by constructor) ?_
 refine gT rfl ?_
 refine aN rfl rfl (by constructor) ?_
 refine gT rfl ?_
 refine aN rfl rfl (by constructor) ?_
 refine gT rfl ?_
 refine aLd st 2 rfl rfl rfl (by constructor) ?_
 refine gT rfl ?_
 refine aN rfl rfl (by constructor) ?_
 refine gT rfl ?_
 refine aN rfl rfl (by constructor) ?_
 refine gT rfl ?_
 refine aLd st 0 rfl rfl rfl (by constructor) ?_
 refine gT rfl ?_
 refine aBinV (.bool false) rfl rfl (ne_int) ?_
 refine aN rfl rfl (by constructor) ?_
 refine pE ?_
 show AW _ (.cond _ _ _) _ _ _
 refine cF' rfl ?_
 show AWl _ _ _ _ _
 iterate 4 refine aN rfl rfl (by constructor) ?_
 refine aLdQ st 2 rfl rfl rfl (rfl : (Value.slice pu kn cu) = _) ?_
 refine aLen (st.slcY hu (ap2 hau hau')) rfl ?_
 refine aN rfl rfl (by constructor) ?_
 refine sE ?_
 show AWp _ _ _ _ _
 iterate 2 refine aN rfl rfl (by constructor) ?_
 refine aLd st 0 rfl rfl rfl (by constructor) ?_
 refine aConvV (n' := (kn : Int)) rfl (c64 (by omega)) ?_
 refine aN rfl rfl (by constructor) ?_
 refine aBinV (.bool false) rfl rfl (neF rfl) ?_
 refine aN rfl rfl (by constructor) ?_
 refine gT rfl ?_
 refine aN rfl rfl (by constructor) ?_
 refine gT rfl ?_
 refine aLdQ st 0 rfl rfl rfl (rfl : (Value.slice py q cy) = _) ?_
 refine gT rfl ?_
 refine aLen (st.slcY hy (ap2 hay hay')) rfl ?_
 refine gT rfl ?_
 refine aN rfl rfl (by constructor) ?_
 refine gT rfl ?_
 refine aN rfl rfl (by constructor) ?_
 refine gT rfl ?_
 refine aN rfl rfl (by constructor) ?_
 refine gT rfl ?_
 refine aLd st 2 rfl rfl rfl (by constructor) ?_
 refine gT rfl ?_
 refine aN rfl rfl (by constructor) ?_
 refine gT rfl ?_
 refine aN rfl rfl (by constructor) ?_
 refine gT rfl ?_
 refine aN rfl rfl (by constructor) ?_
 refine gT rfl ?_
 refine aLd st 2 rfl rfl rfl (by constructor) ?_
 refine gT rfl ?_
 refine aBinV (.int .i64 (e : Int)) rfl rfl (addI hfe (by omega)) ?_
 refine gT rfl ?_
 refine aN rfl rfl (by constructor) ?_
 refine gT rfl ?_
 refine aBinV (.int .i64 ((e - kn : Nat) : Int)) rfl rfl (subI (by omega) (by omega)) ?_
 refine gT rfl ?_
 refine aBinV (.bool false) rfl rfl (gtF (by omega)) ?_
 refine aN rfl rfl (by constructor) ?_
 refine pE ?_
 show AW _ (.cond _ _ _) _ _ _
 refine cF' rfl ?_
 show AWp _ _ _ _ _
 iterate 5 refine aN rfl rfl (by constructor) ?_
 refine aLdQ st 2 rfl rfl rfl (rfl : (Value.slice pu kn cu) = _) ?_
 refine aN rfl rfl (by constructor) ?_
 refine aLdQ st 0 rfl rfl rfl (rfl : (Value.slice py q cy) = _) ?_
 refine ⟨?_, trivial⟩
 have st := st.nil 5
 have hnil : (Value.slice none 0 0) = accV none 0 1 := rfl
 refine aApp st 0 (ob := none) (n := 0) rfl rfl rfl (by decide) (rfl) (st.slcY hu (ap2 hau hau')).src (by rw [List.length_map]; omega) (by omega) (by omega) fun b80 H2 hp80 st => ?_
 rw [Nat.zero_add kn]
 refine ⟨⟨(h_Ld st 1 rfl rfl rfl (by constructor)), trivial⟩, ?_⟩
 refine ⟨?_, trivial⟩
 refine aApp st 0 (ob := b80) rfl rfl rfl (by decide) (by rw [List.nil_append, List.length_map]; omega) (st.slcY hy (ap2 hay hay')).src (by rw [List.length_map]; omega) (by omega) (by omega) fun b83 H3 hp83 st => ?_
 have st := st.recell 0 rfl (cs' := (ls ++ ys).map (Value.int .u8)) (by simp)
 obtain ⟨bo, rfl⟩ := hp83 (by omega)
 refine ⟨⟨(h_Ld st 3 rfl rfl rfl (by constructor)), trivial⟩, ?_⟩
 iterate 3 refine aN rfl rfl (by constructor) ?_
 refine ⟨?_, trivial⟩
 refine aSt st 3 rfl rfl rfl rfl (by first | rfl | simp [cellsOf, *]) (by first | decide | (simp [*]; done) | (simp [k8]; done)) (by repeat constructor) fun H4 st => ?_
 refine ⟨trivial, ?_⟩
 refine pE ?_
 show AWp _ _ _ _ _
 iterate 4 refine aN rfl rfl (by constructor) ?_
 refine aLd st 3 rfl rfl rfl (by constructor) ?_
 refine aN (v := .int .i64 ((kn + q : Nat) : Int)) rfl rfl (by constructor) ?_
 iterate 3 refine aN rfl rfl (by constructor) ?_
 refine aLd st 3 rfl rfl rfl (by constructor) ?_
 iterate 3 refine aN rfl rfl (by constructor) ?_
 refine aLd st 3 rfl rfl rfl (by constructor) ?_
 refine aBinV (.int .i64 (e : Int)) rfl rfl (addI hfe (by omega)) ?_
 refine aBinV (.bool false) rfl rfl (ltF (by omega)) ?_
 refine aN rfl rfl (by constructor) ?_
 refine pE ?_
 show AW _ (.cond _ _ _) _ _ _
 refine cF' rfl ?_
 show AWp _ _ _ _ _
 iterate 4 refine aN rfl rfl (by constructor) ?_
 refine aLd st 3 rfl rfl rfl (by constructor) ?_
 refine aN (v := .int .i64 ((kn + q : Nat) : Int)) rfl rfl (by constructor) ?_
 iterate 4 refine aN rfl rfl (by constructor) ?_
 refine aLd st 3 rfl rfl rfl (by constructor) ?_
 refine aBinV (.bool true) rfl rfl (ltT (by omega)) ?_
 refine aN rfl rfl (by constructor) ?_
 refine pE ?_
 show AW _ (.cond _ _ _) _ _ _
 refine cT rfl ?_
 show AWl _ _ _ _ _
 iterate 2 refine aN rfl rfl (by constructor) ?_
 refine aC (ask_call (st.get (j := 2) rfl) (st.get (j := 3) rfl) (by have := st.ne 3 2 rfl rfl (by decide); simpa using this)) fun v126 H5 ⟨hv, st1⟩ => ?_
 subst hv
 replace st := st.call2 (o1 := some b) (o2 := some wb) 2 2 rfl rfl st1 rfl
 clear st1
 refine aLit st rfl (by repeat constructor) fun b127 H6 st => ?_
 iterate 2 refine aN rfl rfl (by constructor) ?_
 refine sE ?_
 refine ⟨_, out2 (r_tmp rfl (by constructor)) (r_tmp rfl (by constructor)) ⟨rfl, rfl⟩, ?_⟩
 rw [moE hg (by omega) (by omega)] at st
 rw [c32w (a := ((kn + q : Nat) : Int)) (by omega), c32w (a := ((min g (N - (kn + q)) : Nat) : Int)) (by omega)] at st
 exact ⟨b127, bo, rfl, st.sel [1, 2, 0, 3] (by decide)⟩
theorem in_data_b {H : Hp} {b wb g N kn q e : Nat} {cmd stat tag rdy fr mo ak : Int} {hd rd cdb u y : Value} {ls ys : List Int} (hk : H.m b = some ⟨true, 64, [.string ⟨#[]⟩, .string ⟨#[116]⟩, .bool false, .bool false, .bool false, .int .i64 sg, .int .i64 (g : Int), .int .i64 65536, .bool true, .bool true, .slice none 0 0, .int .u32 cmd, .int .u32 stat, .int .u32 tg, hd, .slice (some ⟨wb, 0, none⟩) 1 12, .bool false, rd]⟩) (hkw : H.m wb = some ⟨true, 76, [.int .u32 tag, .int .u8 0, .int .u8 0, cdb, u, .int .i64 (N : Int), .int .u8 0, .int .u32 0, .int .u32 rdy, .int .i64 fr, .int .i64 mo, .int .u32 ak]⟩) (hwb : wb ≠ b) (hu : Sl H 1 kn (ls.map (Value.int .u8)) u) (hau : Apart b u) (hau' : Apart wb u) (hy : Sl H 1 q (ys.map (Value.int .u8)) y) (hay : Apart b y) (hay' : Apart wb y) (hfe : fr + mo = (e : Int)) (hq : kn + q = e) (heN : e < N) (hN : e ≤ N ∧ N ≤ 3000) (hq1 : 1 ≤ q) (hg : 1 ≤ g) :
  ACalls Try.prog 13 [.pointer (some ⟨b, 0, none⟩), .agg #[.int .u8 5, .int .u8 128, .int .u8 0, .int .u8 0, .int .u8 0, .int .u32 tag, .int .u32 rdy, .int .u32 0, .int .u32 0, .int .u32 0, .int .u32 0, .int .u32 (kn : Int), .int .u32 0, y]] H (fun v H' => ∃ (c bo : Nat), v = .tuple #[.slice (some ⟨c, 0, none⟩) 1 14, .slice none 0 0] ∧ Stt [b, wb] H H' [⟨some b, true, ⟨true, 64, [.string ⟨#[]⟩, .string ⟨#[116]⟩, .bool false, .bool false, .bool false, .int .i64 sg, .int .i64 (g : Int), .int .i64 65536, .bool true, .bool true, .slice none 0 0, .int .u32 cmd, .int .u32 stat, .int .u32 (IntKind.u32.wrap (tg + 1)), hd, .slice (some ⟨wb, 0, none⟩) 1 12, .bool false, rd]⟩⟩, ⟨some wb, true, ⟨true, 76, [.int .u32 tag, .int .u8 0, .int .u8 0, cdb, .slice (some ⟨bo, 0, none⟩) (kn + q) 1, .int .i64 (N : Int), .int .u8 0, .int .u32 0, .int .u32 (IntKind.u32.wrap (tg + 1)), .int .i64 ((kn + q : Nat) : Int), .int .i64 ((min g (N - (kn + q)) : Nat) : Int), .int .u32 (IntKind.u32.wrap (ak + 1))]⟩⟩, ⟨some c, true, ⟨true, 37, [.int .u8 49, .int .u8 128, .int .u8 0, .int .u8 0, .int .u8 0, .int .u32 tag, .int .u32 (IntKind.u32.wrap (tg + 1)), .int .u32 stat, .int .u32 cmd, .int .u32 (IntKind.u32.wrap (IntKind.u32.wrap (cmd + 16) - 1)), .int .u32 ak, .int .u32 ((kn + q : Nat) : Int), .int .u32 ((min g (N - ((kn + q : Nat))) : Nat) : Int), .slice none 0 0]⟩⟩, ⟨some bo, true, ⟨true, 5, (ls ++ ys).map (Value.int .u8)⟩⟩]) := by
 refine acallsW Try.func13 f13_ok (Nat.le_of_ble_eq_true rfl) fun hw => ?_
 have st : Stt [b, wb] H H [] := Stt.start hw
 replace st := st.mine hkw rfl (by simp) (by simp)
 replace st := st.mine hk rfl (by simp) (by simpa using hwb)
 obtain ⟨pu, cu, rfl⟩ := hu.shape
 obtain ⟨py, cy, rfl⟩ := hy.shape
 have hll := hu.1
 have hyl := hy.1
 rw [List.length_map, Nat.mul_one] at hll hyl
 unfold f13c
 show AWl _ _ _ _ _
 refine aBoxN st rfl rfl (by repeat constructor) rfl fun b3 H1 st => ?_
 iterate 2 refine aN rfl rfl (by constructor) ?_
 refine sE ?_
 show AWl _ _ _ _ _
 refine aN rfl rfl (by constructor) ?_
 refine aBinV (.bool false) rfl rfl rfl ?_
 refine aN rfl rfl (by constructor) ?_
 refine gT rfl ?_
 refine aN rfl rfl (by constructor) ?_
 refine gT rfl ?_
 refine aN rfl rfl (by constructor) ?_
 refine gT rfl ?_
 refine aN rfl rfl (by constructor) ?_
 refine gT rfl ?_
 refine aLd st 1 rfl rfl rfl (by constructor) ?_
 refine aN rfl rfl (by constructor) ?_
 refine sE ?_
 show AW _ (.cond _ _ _) _ _ _
 refine cF' rfl ?_
 show AWp _ _ _ _ _
 refine aN rfl rfl (by constructor) ?_
 refine aLd st 0 rfl rfl rfl (by constructor) ?_
 refine aBinV (.int .u8 5) rfl rfl (rfl) ?_
 refine aN rfl rfl (by constructor) ?_
 refine aLd st 0 rfl rfl rfl (by constructor) ?_
 refine aBinV (.int .u8 0) rfl rfl (rfl) ?_
 refine aBinV (.bool false) rfl rfl rfl ?_
 iterate 2 refine aN rfl rfl (by constructor) ?_
 refine pE ?_
 show AWl _ _ _ _ _
 refine aN rfl rfl (by constructor) ?_
 refine aBinV (.bool true) rfl rfl rfl ?_
 refine aN rfl rfl (by constructor) ?_
 refine sE ?_
 show AW _ (.cond _ _ _) _ _ _
 refine cT rfl ?_
 show AWl _ _ _ _ _
 refine aN rfl rfl (by constructor) ?_
 refine aLdA st 0 rfl rfl (by first | decide | simp [*]) (by repeat constructor) ?_
 refine aC (data_b (st.get (j := 1) rfl) (st.get (j := 2) rfl) (by have := st.ne 2 1 rfl rfl (by decide); simpa using this) (st.slcY hu (ap2 hau hau')) hau hau' (st.slcY hy (ap2 hay hay')) hay hay' hfe hq heN hN hq1 hg) fun v36 H2 ⟨c, bo, hv, st1⟩ => ?_
 subst hv
 replace st := st.call2 (o1 := some b) (o2 := some wb) 1 1 rfl rfl st1 rfl
 clear st1
 iterate 4 refine aN rfl rfl (by constructor) ?_
 refine sE ?_
 refine ⟨_, out2 (r_tmp rfl (by constructor)) (r_tmp rfl (by constructor)) ⟨rfl, rfl⟩, ?_⟩
 exact ⟨c, bo, rfl, st.sel [0, 1, 2, 3] (by decide)⟩
theorem data_c {H : Hp} {b wb g N kn q e : Nat} {cmd stat tag rdy fr mo ak : Int} {hd rd cdb u y : Value} {ls ys : List Int} (hk : H.m b = some ⟨true, 64, [.string ⟨#[]⟩, .string ⟨#[116]⟩, .bool false, .bool false, .bool false, .int .i64 sg, .int .i64 (g : Int), .int .i64 65536, .bool true, .bool true, .slice none 0 0, .int .u32 cmd, .int .u32 stat, .int .u32 tg, hd, .slice (some ⟨wb, 0, none⟩) 1 12, .bool false, rd]⟩) (hkw : H.m wb = some ⟨true, 76, [.int .u32 tag, .int .u8 0, .int .u8 0, cdb, u, .int .i64 (N : Int), .int .u8 0, .int .u32 0, .int .u32 rdy, .int .i64 fr, .int .i64 mo, .int .u32 ak]⟩) (hwb : wb ≠ b) (hu : Sl H 1 kn (ls.map (Value.int .u8)) u) (hau : Apart b u) (hau' : Apart wb u) (hy : Sl H 1 q (ys.map (Value.int .u8)) y) (hay : Apart b y) (hay' : Apart wb y) (hfe : fr + mo = (e : Int)) (hq : kn + q = e) (heN : e = N) (hN : e ≤ N ∧ N ≤ 3000) (hq1 : 1 ≤ q) (hg : 1 ≤ g) :
  ACalls Try.prog 21 [.pointer (some ⟨b, 0, none⟩), .agg #[.int .u8 5, .int .u8 128, .int .u8 0, .int .u8 0, .int .u8 0, .int .u32 tag, .int .u32 rdy, .int .u32 0, .int .u32 0, .int .u32 0, .int .u32 0, .int .u32 (kn : Int), .int .u32 0, y]] H (fun v H' => ∃ (c bo : Nat), v = .tuple #[.slice none 0 0, .slice (some ⟨c, 0, none⟩) 1 8] ∧ Stt [b, wb] H H' [⟨some b, true, ⟨true, 64, [.string ⟨#[]⟩, .string ⟨#[116]⟩, .bool false, .bool false, .bool false, .int .i64 sg, .int .i64 (g : Int), .int .i64 65536, .bool true, .bool true, .slice none 0 0, .int .u32 cmd, .int .u32 stat, .int .u32 tg, hd, .slice none 0 0, .bool false, rd]⟩⟩, ⟨some c, true, ⟨true, 41, [.int .u32 tag, .int .u8 0, .int .u8 0, cdb, .slice (some ⟨bo, 0, none⟩) (kn + q) 1, .int .i64 (N : Int), .int .u8 0, .int .u32 0]⟩⟩, ⟨some bo, true, ⟨true, 5, (ls ++ ys).map (Value.int .u8)⟩⟩]) := by
 refine acallsW Try.func21 f21_ok (Nat.le_of_ble_eq_true rfl) fun hw => ?_
 have st : Stt [b, wb] H H [] := Stt.start hw
 replace st := st.mine hkw rfl (by simp) (by simp)
 replace st := st.mine hk rfl (by simp) (by simpa using hwb)
 obtain ⟨pu, cu, rfl⟩ := hu.shape
 obtain ⟨py, cy, rfl⟩ := hy.shape
 have hll := hu.1
 have hyl := hy.1
 rw [List.length_map, Nat.mul_one] at hll hyl
 unfold f21c
 show AWl _ _ _ _ _
 refine aBoxN st rfl rfl (by repeat constructor) rfl fun b3 H1 st => ?_
 iterate 2 refine aN rfl rfl (by constructor) ?_
 refine sE ?_
 show AWl _ _ _ _ _
 iterate 3 refine aN rfl rfl (by constructor) ?_
 refine aLd st 1 rfl rfl rfl (by constructor) ?_
 refine aN (v := .int .i64 1) rfl rfl (by constructor) ?_
 refine aN rfl rfl (by constructor) ?_
 refine sE ?_
 show AW _ (.loop _) _ _ _
 refine AW_loopN (fun m t1 H1 => m = 0 ∧ t1 15 = .int .i64 0 ∧ Stt [b, wb] H H1 [⟨some b3, true, ⟨true, 37, [.int .u8 5, .int .u8 128, .int .u8 0, .int .u8 0, .int .u8 0, .int .u32 tag, .int .u32 rdy, .int .u32 0, .int .u32 0, .int .u32 0, .int .u32 0, .int .u32 (kn : Int), .int .u32 0, .slice py q cy]⟩⟩, ⟨some b, true, ⟨true, 64, [.string ⟨#[]⟩, .string ⟨#[116]⟩, .bool false, .bool false, .bool false, .int .i64 sg, .int .i64 (g : Int), .int .i64 65536, .bool true, .bool true, .slice none 0 0, .int .u32 cmd, .int .u32 stat, .int .u32 tg, hd, .slice (some ⟨wb, 0, none⟩) 1 12, .bool false, rd]⟩⟩, ⟨some wb, true, ⟨true, 76, [.int .u32 tag, .int .u8 0, .int .u8 0, cdb, .slice pu kn cu, .int .i64 (N : Int), .int .u8 0, .int .u32 0, .int .u32 rdy, .int .i64 fr, .int .i64 mo, .int .u32 ak]⟩⟩]) 0 ⟨rfl, rfl, (st.sel [0, 1, 2] (by decide))⟩ [4, 5, 6, 7, 8, 9, 15, 16, 17, 18, 19, 20, 21, 22, 23, 24, 25, 26, 27, 28, 29, 30, 31, 32, 33, 34, 35, 36, 37, 38, 39, 40, 41, 42, 43, 44, 45, 46, 47, 48, 49, 50, 51, 52, 53, 54, 55, 56, 57, 58, 59, 60, 61, 62, 63, 64, 65, 66, 67, 68, 69, 70, 71, 72, 73, 74, 75, 76, 77, 78, 79, 80, 81, 82, 83, 84, 85, 86, 87, 88, 89, 90, 91, 92, 93, 94, 95, 96, 97, 98, 99, 100, 101, 102, 103, 104, 105, 106, 107, 108, 109, 110, 111, 112, 113, 114, 115, 116, 117, 118, 119, 120, 121, 122, 123, 124, 125, 126, 127, 128, 129, 130, 131, 132, 133, 134, 135, 136, 137, 138, 139, 140, 141, 142, 143] (by decide) ?_
 rintro m t1 H1 hk hI
 obtain ⟨rfl, ht15, st⟩ := hI
 obtain ⟨u, rfl⟩ : ∃ u, t1 = (upd (mix [4, 5, 6, 7, 8, 9, 15, 16, 17, 18, 19, 20, 21, 22, 23, 24, 25, 26, 27, 28, 29, 30, 31, 32, 33, 34, 35, 36, 37, 38, 39, 40, 41, 42, 43, 44, 45, 46, 47, 48, 49, 50, 51, 52, 53, 54, 55, 56, 57, 58, 59, 60, 61, 62, 63, 64, 65, 66, 67, 68, 69, 70, 71, 72, 73, 74, 75, 76, 77, 78, 79, 80, 81, 82, 83, 84, 85, 86, 87, 88, 89, 90, 91, 92, 93, 94, 95, 96, 97, 98, 99, 100, 101, 102, 103, 104, 105, 106, 107, 108, 109, 110, 111, 112, 113, 114, 115, 116, 117, 118, 119, 120, 121, 122, 123, 124, 125, 126, 127, 128, 129, 130, 131, 132, 133, 134, 135, 136, 137, 138, 139, 140, 141, 142, 143] _ u) (some 15) _) := ⟨t1, by rw [← hk, upd_self ht15]⟩
 clear hk ht15
 show AWl _ _ _ _ _
 refine aBinV (.bool true) rfl rfl rfl ?_
 refine sE ?_
 show AW _ (.cond _ _ _) _ _ _
 refine cT rfl ?_
 show AWl _ _ _ _ _
 iterate 2 refine aN rfl rfl (by constructor) ?_
 refine sE ?_
 show AWl _ _ _ _ _
 iterate 3 refine aN rfl rfl (by constructor) ?_
 refine aLd st 1 rfl rfl rfl (by constructor) ?_
 iterate 3 refine aN rfl rfl (by constructor) ?_
 refine sE ?_
 show AWp _ _ _ _ _
 iterate 4 refine aN rfl rfl (by constructor) ?_
 refine aLd st 2 rfl rfl rfl (by constructor) ?_
 refine aN rfl rfl (by constructor) ?_
 refine aLd st 0 rfl rfl rfl (by constructor) ?_
 refine aBinV (.bool false) rfl rfl (ne_int) ?_
 refine aN rfl rfl (by constructor) ?_
 refine gT rfl ?_
 refine aN rfl rfl (by constructor) ?_
 refine gT rfl ?_
 refine aN rfl rfl (by constructor) ?_
 refine gT rfl ?_
 refine aN rfl rfl (by constructor) ?_
 refine gT rfl ?_
 refine aLd st 2 rfl rfl rfl (by constructor) ?_
 refine gT rfl ?_
 refine aN rfl rfl (by constructor) ?_
 refine gT rfl ?_
 refine aN rfl rfl (by constructor) ?_
 refine gT rfl ?_
 refine aLd st 0 rfl rfl rfl (by constructor) ?_
 refine gT rfl ?_
 refine aBinV (.bool false) rfl rfl (ne_int) ?_
 refine aN rfl rfl (by constructor) ?_
 refine pE ?_
 show AW _ (.cond _ _ _) _ _ _
 refine cF' rfl ?_
 show AWl _ _ _ _ _
 iterate 4 refine aN rfl rfl (by constructor) ?_
 refine aLdQ st 2 rfl rfl rfl (rfl : (Value.slice pu kn cu) = _) ?_
 refine aLen (st.slcY hu (ap2 hau hau')) rfl ?_
 refine aN rfl rfl (by constructor) ?_
 refine sE ?_
 show AWp _ _ _ _ _
 iterate 2 refine aN rfl rfl (by constructor) ?_
 refine aLd st 0 rfl rfl rfl (by constructor) ?_
 refine aConvV (n' := (kn : Int)) rfl (c64 (by omega)) ?_
 refine aN rfl rfl (by constructor) ?_
 refine aBinV (.bool false) rfl rfl (neF rfl) ?_
 refine aN rfl rfl (by constructor) ?_
 refine gT rfl ?_
 refine aN rfl rfl (by constructor) ?_
 refine gT rfl ?_
 refine aLdQ st 0 rfl rfl rfl (rfl : (Value.slice py q cy) = _) ?_
 refine gT rfl ?_
 refine aLen (st.slcY hy (ap2 hay hay')) rfl ?_
 refine gT rfl ?_
 refine aN rfl rfl (by constructor) ?_
 refine gT rfl ?_
 refine aN rfl rfl (by constructor) ?_
 refine gT rfl ?_
 refine aN rfl rfl (by constructor) ?_
 refine gT rfl ?_
 refine aLd st 2 rfl rfl rfl (by constructor) ?_
 refine gT rfl ?_
 refine aN rfl rfl (by constructor) ?_
 refine gT rfl ?_
 refine aN rfl rfl (by constructor) ?_
 refine gT rfl ?_
 refine aN rfl rfl (by constructor) ?_
 refine gT rfl ?_
 refine aLd st 2 rfl rfl rfl (by constructor) ?_
 refine gT rfl ?_
 refine aBinV (.int .i64 (e : Int)) rfl rfl (addI hfe (by omega)) ?_
 refine gT rfl ?_
 refine aN rfl rfl (by constructor) ?_
 refine gT rfl ?_
 refine aBinV (.int .i64 ((e - kn : Nat) : Int)) rfl rfl (subI (by omega) (by omega)) ?_
 refine gT rfl ?_
 refine aBinV (.bool false) rfl rfl (gtF (by omega)) ?_
 refine aN rfl rfl (by constructor) ?_
 refine pE ?_
 show AW _ (.cond _ _ _) _ _ _
 refine cF' rfl ?_
 show AWp _ _ _ _ _
 iterate 5 refine aN rfl rfl (by constructor) ?_
 refine aLdQ st 2 rfl rfl rfl (rfl : (Value.slice pu kn cu) = _) ?_
 refine aN rfl rfl (by constructor) ?_
 refine aLdQ st 0 rfl rfl rfl (rfl : (Value.slice py q cy) = _) ?_
 refine ⟨?_, trivial⟩
 have st := st.nil 5
 have hnil : (Value.slice none 0 0) = accV none 0 1 := rfl
 refine aApp st 0 (ob := none) (n := 0) rfl rfl rfl (by decide) (rfl) (st.slcY hu (ap2 hau hau')).src (by rw [List.length_map]; omega) (by omega) (by omega) fun b80 H2 hp80 st => ?_
 rw [Nat.zero_add kn]
 refine ⟨⟨(h_Ld st 1 rfl rfl rfl (by constructor)), trivial⟩, ?_⟩
 refine ⟨?_, trivial⟩
 refine aApp st 0 (ob := b80) rfl rfl rfl (by decide) (by rw [List.nil_append, List.length_map]; omega) (st.slcY hy (ap2 hay hay')).src (by rw [List.length_map]; omega) (by omega) (by omega) fun b83 H3 hp83 st => ?_
 have st := st.recell 0 rfl (cs' := (ls ++ ys).map (Value.int .u8)) (by simp)
 obtain ⟨bo, rfl⟩ := hp83 (by omega)
 refine ⟨⟨(h_Ld st 3 rfl rfl rfl (by constructor)), trivial⟩, ?_⟩
 iterate 3 refine aN rfl rfl (by constructor) ?_
 refine ⟨?_, trivial⟩
 refine aSt st 3 rfl rfl rfl rfl (by first | rfl | simp [cellsOf, *]) (by first | decide | (simp [*]; done) | (simp [k8]; done)) (by repeat constructor) fun H4 st => ?_
 refine ⟨trivial, ?_⟩
 refine pE ?_
 show AWp _ _ _ _ _
 iterate 4 refine aN rfl rfl (by constructor) ?_
 refine aLd st 3 rfl rfl rfl (by constructor) ?_
 refine aN (v := .int .i64 ((kn + q : Nat) : Int)) rfl rfl (by constructor) ?_
 iterate 3 refine aN rfl rfl (by constructor) ?_
 refine aLd st 3 rfl rfl rfl (by constructor) ?_
 iterate 3 refine aN rfl rfl (by constructor) ?_
 refine aLd st 3 rfl rfl rfl (by constructor) ?_
 refine aBinV (.int .i64 (e : Int)) rfl rfl (addI hfe (by omega)) ?_
 refine aBinV (.bool false) rfl rfl (ltF (by omega)) ?_
 refine aN rfl rfl (by constructor) ?_
 refine pE ?_
 show AW _ (.cond _ _ _) _ _ _
 refine cF' rfl ?_
 show AWp _ _ _ _ _
 iterate 4 refine aN rfl rfl (by constructor) ?_
 refine aLd st 3 rfl rfl rfl (by constructor) ?_
 refine aN (v := .int .i64 ((kn + q : Nat) : Int)) rfl rfl (by constructor) ?_
 iterate 4 refine aN rfl rfl (by constructor) ?_
 refine aLd st 3 rfl rfl rfl (by constructor) ?_
 refine aBinV (.bool false) rfl rfl (ltF (by omega)) ?_
 refine aN rfl rfl (by constructor) ?_
 refine pE ?_
 show AW _ (.cond _ _ _) _ _ _
 refine cF' rfl ?_
 show AWl _ _ _ _ _
 iterate 3 refine aN rfl rfl (by constructor) ?_
 refine aLdA st 3 rfl rfl (by first | decide | simp [*]) (by repeat constructor) ?_
 refine aNewP st rfl rfl (by repeat constructor) fun b9 H5 st => ?_
 refine aSt st 0 rfl rfl rfl rfl (by first | rfl | simp [cellsOf, *]) (by first | decide | (simp [*]; done) | (simp [k8]; done)) (by repeat constructor) fun H6 st => ?_
 refine sE ?_
 show AWl _ _ _ _ _
 iterate 4 refine aN rfl rfl (by constructor) ?_
 refine aLd st 3 rfl rfl rfl (by constructor) ?_
 refine aN rfl rfl (by constructor) ?_
 refine aC (without_write) fun v138 H7 ⟨hv, st1⟩ => ?_
 subst hv
 replace st := st.call st1 rfl
 clear st1
 iterate 2 refine aN rfl rfl (by constructor) ?_
 refine aSt st 3 rfl rfl rfl rfl (by first | rfl | simp [cellsOf, *]) (by first | decide | (simp [*]; done) | (simp [k8]; done)) (by repeat constructor) fun H8 st => ?_
 refine sE ?_
 show AWp _ _ _ _ _
 refine aLdA st 0 rfl rfl (by first | decide | simp [*]) (by repeat constructor) ?_
 refine aN rfl rfl (by constructor) ?_
 refine ⟨?_, trivial⟩
 refine aLit st rfl (by repeat constructor) fun b142 H9 st => ?_
 refine ⟨trivial, ?_⟩
 refine aN rfl rfl (by constructor) ?_
 refine pE ?_
 refine ⟨_, out2 (r_tmp rfl (by constructor)) (r_tmp rfl (by constructor)) ⟨rfl, rfl⟩, ?_⟩
 exact ⟨b142, bo, rfl, st.sel [4, 0, 2] (by decide)⟩
theorem in_data_c {H : Hp} {b wb g N kn q e : Nat} {cmd stat tag rdy fr mo ak : Int} {hd rd cdb u y : Value} {ls ys : List Int} (hk : H.m b = some ⟨true, 64, [.string ⟨#[]⟩, .string ⟨#[116]⟩, .bool false, .bool false, .bool false, .int .i64 sg, .int .i64 (g : Int), .int .i64 65536, .bool true, .bool true, .slice none 0 0, .int .u32 cmd, .int .u32 stat, .int .u32 tg, hd, .slice (some ⟨wb, 0, none⟩) 1 12, .bool false, rd]⟩) (hkw : H.m wb = some ⟨true, 76, [.int .u32 tag, .int .u8 0, .int .u8 0, cdb, u, .int .i64 (N : Int), .int .u8 0, .int .u32 0, .int .u32 rdy, .int .i64 fr, .int .i64 mo, .int .u32 ak]⟩) (hwb : wb ≠ b) (hu : Sl H 1 kn (ls.map (Value.int .u8)) u) (hau : Apart b u) (hau' : Apart wb u) (hy : Sl H 1 q (ys.map (Value.int .u8)) y) (hay : Apart b y) (hay' : Apart wb y) (hfe : fr + mo = (e : Int)) (hq : kn + q = e) (heN : e = N) (hN : e ≤ N ∧ N ≤ 3000) (hq1 : 1 ≤ q) (hg : 1 ≤ g) :
  ACalls Try.prog 13 [.pointer (some ⟨b, 0, none⟩), .agg #[.int .u8 5, .int .u8 128, .int .u8 0, .int .u8 0, .int .u8 0, .int .u32 tag, .int .u32 rdy, .int .u32 0, .int .u32 0, .int .u32 0, .int .u32 0, .int .u32 (kn : Int), .int .u32 0, y]] H (fun v H' => ∃ (c bo : Nat), v = .tuple #[.slice none 0 0, .slice (some ⟨c, 0, none⟩) 1 8] ∧ Stt [b, wb] H H' [⟨some b, true, ⟨true, 64, [.string ⟨#[]⟩, .string ⟨#[116]⟩, .bool false, .bool false, .bool false, .int .i64 sg, .int .i64 (g : Int), .int .i64 65536, .bool true, .bool true, .slice none 0 0, .int .u32 cmd, .int .u32 stat, .int .u32 tg, hd, .slice none 0 0, .bool false, rd]⟩⟩, ⟨some c, true, ⟨true, 41, [.int .u32 tag, .int .u8 0, .int .u8 0, cdb, .slice (some ⟨bo, 0, none⟩) (kn + q) 1, .int .i64 (N : Int), .int .u8 0, .int .u32 0]⟩⟩, ⟨some bo, true, ⟨true, 5, (ls ++ ys).map (Value.int .u8)⟩⟩]) := by
 refine acallsW Try.func13 f13_ok (Nat.le_of_ble_eq_true rfl) fun hw => ?_
 have st : Stt [b, wb] H H [] := Stt.start hw
 replace st := st.mine hkw rfl (by simp) (by simp)
 replace st := st.mine hk rfl (by simp) (by simpa using hwb)
 obtain ⟨pu, cu, rfl⟩ := hu.shape
 obtain ⟨py, cy, rfl⟩ := hy.shape
 have hll := hu.1
 have hyl := hy.1
 rw [List.length_map, Nat.mul_one] at hll hyl
 unfold f13c
 show AWl _ _ _ _ _
 refine aBoxN st rfl rfl (by repeat constructor) rfl fun b3 H1 st => ?_
 iterate 2 refine aN rfl rfl (by constructor) ?_
 refine sE ?_
 show AWl _ _ _ _ _
 refine aN rfl rfl (by constructor) ?_
 refine aBinV (.bool false) rfl rfl rfl ?_
 refine aN rfl rfl (by constructor) ?_
 refine gT rfl ?_
 refine aN rfl rfl (by constructor) ?_
 refine gT rfl ?_
 refine aN rfl rfl (by constructor) ?_
 refine gT rfl ?_
 refine aN rfl rfl (by constructor) ?_
 refine gT rfl ?_
 refine aLd st 1 rfl rfl rfl (by constructor) ?_
 refine aN rfl rfl (by constructor) ?_
 refine sE ?_
 show AW _ (.cond _ _ _) _ _ _
 refine cF' rfl ?_
 show AWp _ _ _ _ _
 refine aN rfl rfl (by constructor) ?_
 refine aLd st 0 rfl rfl rfl (by constructor) ?_
 refine aBinV (.int .u8 5) rfl rfl (rfl) ?_
 refine aN rfl rfl (by constructor) ?_
 refine aLd st 0 rfl rfl rfl (by constructor) ?_
 refine aBinV (.int .u8 0) rfl rfl (rfl) ?_
 refine aBinV (.bool false) rfl rfl rfl ?_
 iterate 2 refine aN rfl rfl (by constructor) ?_
 refine pE ?_
 show AWl _ _ _ _ _
 refine aN rfl rfl (by constructor) ?_
 refine aBinV (.bool true) rfl rfl rfl ?_
 refine aN rfl rfl (by constructor) ?_
 refine sE ?_
 show AW _ (.cond _ _ _) _ _ _
 refine cT rfl ?_
 show AWl _ _ _ _ _
 refine aN rfl rfl (by constructor) ?_
 refine aLdA st 0 rfl rfl (by first | decide | simp [*]) (by repeat constructor) ?_
 refine aC (data_c (st.get (j := 1) rfl) (st.get (j := 2) rfl) (by have := st.ne 2 1 rfl rfl (by decide); simpa using this) (st.slcY hu (ap2 hau hau')) hau hau' (st.slcY hy (ap2 hay hay')) hay hay' hfe hq heN hN hq1 hg) fun v36 H2 ⟨c, bo, hv, st1⟩ => ?_
 subst hv
 replace st := st.call2 (o1 := some b) (o2 := some wb) 1 1 rfl rfl st1 rfl
 clear st1
 iterate 4 refine aN rfl rfl (by constructor) ?_
 refine sE ?_
 refine ⟨_, out2 (r_tmp rfl (by constructor)) (r_tmp rfl (by constructor)) ⟨rfl, rfl⟩, ?_⟩
 exact ⟨c, bo, rfl, st.sel [0, 1, 2] (by decide)⟩
theorem command_wf {H : Hp} {b kn cx : Nat} {cmd stat tag n w1 w3 : Int} {hd : Value} {px : Option Addr} (hk : H.m b = some ⟨true, 64, [.string ⟨#[]⟩, .string ⟨#[116]⟩, .bool false, .bool false, .bool false, .int .i64 sg, .int .i64 bu, .int .i64 65536, .bool true, .bool true, .slice none 0 0, .int .u32 cmd, .int .u32 stat, .int .u32 tg, hd, .slice none 0 0, .bool false, .slice none 0 0]⟩) (hn : (kn : Int) = n ∧ n ≤ 65536) :
  ACalls Try.prog 34 [.pointer (some ⟨b, 0, none⟩), .agg #[.int .u8 1, .int .u8 161, .int .u8 0, .int .u8 0, .int .u8 0, .int .u32 tag, .int .u32 n, .int .u32 w1, .int .u32 0, .int .u32 w3, .int .u32 0, .int .u32 0, .int .u32 0, .slice px kn cx]] H (fun v H' => ∃ (c rb : Nat) (cdb : Value), v = .tuple #[.slice none 0 0, .slice (some ⟨c, 0, none⟩) 1 8] ∧ Stt [b] H H' [⟨some b, true, ⟨true, 64, [.string ⟨#[]⟩, .string ⟨#[116]⟩, .bool false, .bool false, .bool false, .int .i64 sg, .int .i64 bu, .int .i64 65536, .bool true, .bool true, .slice none 0 0, .int .u32 cmd, .int .u32 stat, .int .u32 tg, hd, .slice none 0 0, .bool false, .slice (some ⟨rb, 0, none⟩) 1 8]⟩⟩, ⟨some c, true, ⟨true, 41, [.int .u32 tag, .int .u8 0, .int .u8 0, cdb, .slice px kn cx, .int .i64 n, .int .u8 0, .int .u32 0]⟩⟩, ⟨some rb, true, ⟨true, 41, [.int .u32 tag, .int .u8 0, .int .u8 0, .slice none 0 0, .slice none 0 0, .int .i64 n, .int .u8 32, .int .u32 0]⟩⟩]) := by
 refine acallsW Try.func34 f34_ok (Nat.le_of_ble_eq_true rfl) fun hw => ?_
 have st : Stt [b] H H [] := Stt.start hw
 replace st := st.mine hk rfl (by simp) (by simp)
 unfold f34c
 show AWl _ _ _ _ _
 refine aBoxN st rfl rfl (by repeat constructor) rfl fun b3 H1 st => ?_
 iterate 2 refine aN rfl rfl (by constructor) ?_
 refine sE ?_
 show AWp _ _ _ _ _
 refine aN rfl rfl (by constructor) ?_
 refine aLd st 0 rfl rfl rfl (by constructor) ?_
 refine aN rfl rfl (by constructor) ?_
 refine aLd st 0 rfl rfl rfl (by constructor) ?_
 refine aN rfl rfl (by constructor) ?_
 refine aLd st 0 rfl rfl rfl (by constructor) ?_
 iterate 3 refine aN rfl rfl (by constructor) ?_
 refine aLd st 0 rfl rfl rfl (by constructor) ?_
 iterate 2 refine aN rfl rfl (by constructor) ?_
 refine aLd st 0 rfl rfl rfl (by constructor) ?_
 refine aConvV (n' := n) rfl (wi _ (by omega)) ?_
 refine ⟨?_, ?_⟩
 ·refine aC (attr_w) fun v16 H2 ⟨hv, st1⟩ => ?_
  subst hv
  replace st := st.call st1 rfl
  clear st1
  refine ⟨⟨(h_Ld st 0 rfl rfl rfl (by constructor)), (h_Ld st 0 rfl rfl rfl (by constructor)), (h_Ld st 0 rfl rfl rfl (by constructor)), (h_Ld st 0 rfl rfl rfl (by constructor)), trivial⟩, ?_⟩
  refine ⟨?_, ?_⟩
  ·refine aC (wbytes_call (xs := [w3, 0, 0, 0]) (Stt.cutAt st 0 (o := 9) (n := 4) rfl (by decide) (show 9 + 4 ≤ 14 by decide)) (show 4 ≤ 1000 by decide)) fun v19 H3 ⟨oc19, hv, st1⟩ => ?_
   subst hv
   replace st := st.call st1 rfl
   clear st1
   obtain ⟨bc, rfl⟩ := st.isSome 0 rfl (fun h => by cases h)
   have hw16 : (w4s [w3, 0, 0, 0] ([w3, 0, 0, 0] : List Int).length).length = 16 := rfl
   refine ⟨⟨(h_Ld st 1 rfl rfl rfl (by constructor)), (h_Ld st 1 rfl rfl rfl (by constructor)), (h_Ld st 1 rfl rfl rfl (by constructor)), (h_Ld st 1 rfl rfl rfl (by constructor)), (h_Ld st 1 rfl rfl rfl (by constructor)), trivial⟩, ?_⟩
   refine aBld rfl (by repeat constructor) ?_
   refine ⟨?_, trivial⟩
   refine aNewP st rfl rfl (by repeat constructor) fun b6 H4 st => ?_
   refine ⟨⟨(h_Ld st 2 rfl rfl rfl (by constructor)), (h_Ld st 2 rfl rfl rfl (by constructor)), (h_Ld st 2 rfl rfl rfl (by constructor)), (h_Ld st 2 rfl rfl rfl (by constructor)), (h_Ld st 2 rfl rfl rfl (by constructor)), trivial⟩, ?_⟩
   refine ⟨?_, trivial⟩
   refine aSt st 0 rfl rfl rfl rfl (by first | rfl | simp [cellsOf, *]) (by first | decide | (simp [*]; done) | (simp [k8]; done)) (by repeat constructor) fun H5 st => ?_
   refine ⟨trivial, ?_⟩
   refine pE ?_
   show AWl _ _ _ _ _
   refine aN rfl rfl (by constructor) ?_
   refine aLd st 2 rfl rfl rfl (by constructor) ?_
   refine aBinV (.int .u8 32) rfl rfl (rfl) ?_
   refine aBinV (.bool true) rfl rfl rfl ?_
   refine aN rfl rfl (by constructor) ?_
   refine sE ?_
   show AWl _ _ _ _ _
   iterate 3 refine aN rfl rfl (by constructor) ?_
   refine aLd st 3 rfl rfl rfl (by constructor) ?_
   refine aN (v := .int .i64 0) rfl rfl (by constructor) ?_
   refine aN rfl rfl (by constructor) ?_
   refine sE ?_
   show AW _ (.loop _) _ _ _
   refine AW_loopN (fun m t1 H1 => m = 0 ∧ t1 36 = .int .i64 0 ∧ Stt [b] H H1 [⟨some b6, true, ⟨true, 41, [.int .u32 tag, .int .u8 0, .int .u8 0, .slice (some ⟨bc, 0, none⟩) 16 1, .slice px kn cx, .int .i64 n, .int .u8 0, .int .u32 0]⟩⟩, ⟨some b3, true, ⟨true, 37, [.int .u8 1, .int .u8 161, .int .u8 0, .int .u8 0, .int .u8 0, .int .u32 tag, .int .u32 n, .int .u32 w1, .int .u32 0, .int .u32 w3, .int .u32 0, .int .u32 0, .int .u32 0, .slice px kn cx]⟩⟩, ⟨some b, true, ⟨true, 64, [.string ⟨#[]⟩, .string ⟨#[116]⟩, .bool false, .bool false, .bool false, .int .i64 sg, .int .i64 bu, .int .i64 65536, .bool true, .bool true, .slice none 0 0, .int .u32 cmd, .int .u32 stat, .int .u32 tg, hd, .slice none 0 0, .bool false, .slice none 0 0]⟩⟩, ⟨some bc, true, ⟨true, 5, (w4s [w3, 0, 0, 0] 4).map (Value.int .u8)⟩⟩]) 0 ⟨rfl, rfl, (st.sel [0, 2, 3, 1] (by decide))⟩ [4, 5, 9, 36, 37, 38, 39, 40, 41, 42, 43, 44, 45, 46, 47, 48] (by decide) ?_
   rintro m t1 H1 hk hI
   obtain ⟨rfl, ht36, st⟩ := hI
   obtain ⟨u, rfl⟩ : ∃ u, t1 = (upd (mix [4, 5, 9, 36, 37, 38, 39, 40, 41, 42, 43, 44, 45, 46, 47, 48] _ u) (some 36) _) := ⟨t1, by rw [← hk, upd_self ht36]⟩
   clear hk ht36
   show AWl _ _ _ _ _
   refine aBinV (.bool false) rfl rfl rfl ?_
   refine sE ?_
   show AW _ (.cond _ _ _) _ _ _
   refine cF' rfl ?_
   show AWl _ _ _ _ _
   iterate 4 refine aN rfl rfl (by constructor) ?_
   refine aLd st 2 rfl rfl rfl (by constructor) ?_
   refine aN rfl rfl (by constructor) ?_
   refine sE ?_
   show AW _ (.cond _ _ _) _ _ _
   refine cF' rfl ?_
   show AWp _ _ _ _ _
   refine aN rfl rfl (by constructor) ?_
   refine aLd st 1 rfl rfl rfl (by constructor) ?_
   refine aN (v := .int .i64 (kn : Int)) rfl rfl (by constructor) ?_
   iterate 2 refine aN rfl rfl (by constructor) ?_
   refine gCase 63 rfl (fun h6 => ?_) (fun h6 => ?_)
   ·refine gT rfl ?_
    refine aN rfl rfl (by constructor) ?_
    refine gT rfl ?_
    refine aN rfl rfl (by constructor) ?_
    refine gT rfl ?_
    refine aN rfl rfl (by constructor) ?_
    refine gT rfl ?_
    refine aN rfl rfl (by constructor) ?_
    refine gT rfl ?_
    refine aN rfl rfl (by constructor) ?_
    refine gT rfl ?_
    refine aN rfl rfl (by constructor) ?_
    refine gT rfl ?_
    refine aN rfl rfl (by constructor) ?_
    refine gT rfl ?_
    refine aLd st 2 rfl rfl rfl (by constructor) ?_
    refine gT rfl ?_
    refine aN rfl rfl (by constructor) ?_
    refine gT rfl ?_
    refine aN rfl rfl (by constructor) ?_
    refine gT rfl ?_
    refine aN rfl rfl (by constructor) ?_
    refine gT rfl ?_
    refine aN rfl rfl (by constructor) ?_
    refine gT rfl ?_
    refine aLd st 1 rfl rfl rfl (by constructor) ?_
    refine gT rfl ?_
    refine aN (v := .int .i64 (kn : Int)) rfl rfl (by constructor) ?_
    refine gT rfl ?_
    refine aN rfl rfl (by constructor) ?_
    refine gT rfl ?_
    refine aN rfl rfl (by constructor) ?_
    refine gT rfl ?_
    refine aN rfl rfl (by constructor) ?_
    refine gT rfl ?_
    refine aN rfl rfl (by constructor) ?_
    refine gT rfl ?_
    refine aLd st 2 rfl rfl rfl (by constructor) ?_
    refine gT rfl ?_
    refine aBinV (.bool false) rfl rfl (by exact congrArg (fun q => some (Value.bool q)) (decide_eq_false (by omega))) ?_
    refine gT rfl ?_
    refine aN rfl rfl (by constructor) ?_
    refine gT rfl ?_
    refine aN rfl rfl (by constructor) ?_
    refine gT rfl ?_
    refine aN rfl rfl (by constructor) ?_
    refine gT rfl ?_
    refine aLd st 1 rfl rfl rfl (by constructor) ?_
    refine gT rfl ?_
    refine aN (v := .int .i64 (kn : Int)) rfl rfl (by constructor) ?_
    refine gT rfl ?_
    refine aN rfl rfl (by constructor) ?_
    refine gT rfl ?_
    refine aLd st 0 rfl rfl rfl (by constructor) ?_
    refine gT rfl ?_
    refine aBinV (.bool false) rfl rfl (by exact congrArg (fun q => some (Value.bool q)) (decide_eq_false (by omega))) ?_
    refine gT rfl ?_
    iterate 3 refine aN rfl rfl (by constructor) ?_
    refine pE ?_
    show AW _ (.cond _ _ _) _ _ _
    refine cF' rfl ?_
    show AWl _ _ _ _ _
    iterate 2 refine aN rfl rfl (by constructor) ?_
    refine gT rfl ?_
    refine aN rfl rfl (by constructor) ?_
    refine gT rfl ?_
    refine aLd st 0 rfl rfl rfl (by constructor) ?_
    refine gT rfl ?_
    refine aBinV (.bool false) rfl rfl (by exact congrArg (fun q => some (Value.bool q)) (decide_eq_false (by omega))) ?_
    iterate 2 refine aN rfl rfl (by constructor) ?_
    refine sE ?_
    show AW _ (.cond _ _ _) _ _ _
    refine cF' rfl ?_
    show AWp _ _ _ _ _
    iterate 4 refine aN rfl rfl (by constructor) ?_
    refine aLd st 2 rfl rfl rfl (by constructor) ?_
    refine aN rfl rfl (by constructor) ?_
    refine aLd st 0 rfl rfl rfl (by constructor) ?_
    refine aN rfl rfl (by constructor) ?_
    refine aLd st 0 rfl rfl rfl (by constructor) ?_
    refine aN rfl rfl (by constructor) ?_
    refine aLd st 0 rfl rfl rfl (by constructor) ?_
    refine aN rfl rfl (by constructor) ?_
    refine aLd st 1 rfl rfl rfl (by constructor) ?_
    refine aBinV (.int .u8 32) rfl rfl (rfl) ?_
    refine aBld rfl (by repeat constructor) ?_
    refine ⟨?_, trivial⟩
    refine aLit st rfl (by repeat constructor) fun b122 H7 st => ?_
    refine ⟨⟨(h_Ld st 2 rfl rfl rfl (by constructor)), (h_Ld st 1 rfl rfl rfl (by constructor)), (h_Ld st 1 rfl rfl rfl (by constructor)), (h_Ld st 1 rfl rfl rfl (by constructor)), (h_Ld st 3 rfl rfl rfl (by constructor)), trivial⟩, ?_⟩
    refine ⟨?_, trivial⟩
    have st := st.nil 41
    have hnil : (Value.slice none 0 0) = accV none 0 8 := rfl
    refine aAppP st 0 (ob := none) (n := 0) rfl rfl rfl (by decide) (rfl) (st.rowAll 1 rfl (by first | rfl | (simp [beB_len, *]; done) | (simp [beB_len, *]; omega))).src (rfl) (by decide) (by decide) (by decide) (by repeat constructor) fun b123 H8 st => ?_
    refine ⟨⟨(h_Ld st 3 rfl rfl rfl (by constructor)), (h_Ld st 2 rfl rfl rfl (by constructor)), (h_Ld st 2 rfl rfl rfl (by constructor)), (h_Ld st 2 rfl rfl rfl (by constructor)), trivial⟩, ?_⟩
    iterate 2 refine aN rfl rfl (by constructor) ?_
    refine ⟨?_, trivial⟩
    refine aSt st 4 rfl rfl rfl rfl (by first | rfl | simp [cellsOf, *]) (by first | decide | (simp [*]; done) | (simp [k8]; done)) (by repeat constructor) fun H9 st => ?_
    refine ⟨trivial, ?_⟩
    refine pE ?_
    show AWl _ _ _ _ _
    iterate 3 refine aN rfl rfl (by constructor) ?_
    refine gT rfl ?_
    refine aN rfl rfl (by constructor) ?_
    refine gT rfl ?_
    refine aLd st 3 rfl rfl rfl (by constructor) ?_
    refine gT rfl ?_
    refine aN (v := .int .i64 (kn : Int)) rfl rfl (by constructor) ?_
    refine gT rfl ?_
    refine aN rfl rfl (by constructor) ?_
    refine gT rfl ?_
    refine aLd st 2 rfl rfl rfl (by constructor) ?_
    refine gT rfl ?_
    refine aBinV (.bool true) rfl rfl (eqT (by omega)) ?_
    refine aN rfl rfl (by constructor) ?_
    refine sE ?_
    show AW _ (.cond _ _ _) _ _ _
    refine cT rfl ?_
    show AWp _ _ _ _ _
    refine aLdA st 2 rfl rfl (by first | decide | simp [*]) (by repeat constructor) ?_
    refine aN rfl rfl (by constructor) ?_
    refine ⟨?_, trivial⟩
    refine aLit st rfl (by repeat constructor) fun b137 H10 st => ?_
    refine ⟨trivial, ?_⟩
    refine aN rfl rfl (by constructor) ?_
    refine pE ?_
    refine ⟨_, out2 (r_tmp rfl (by constructor)) (r_tmp rfl (by constructor)) ⟨rfl, rfl⟩, ?_⟩
    exact ⟨b137, b123, _, rfl, st.sel [5, 0, 1] (by decide)⟩
   ·refine gF rfl (by decide) ?_
    refine gF rfl (by decide) ?_
    refine gF rfl (by decide) ?_
    refine gU rfl ?_
    refine gU rfl ?_
    refine gU rfl ?_
    refine gU rfl ?_
    refine gU rfl ?_
    refine gU rfl ?_
    refine gF rfl (by decide) ?_
    refine gF rfl (by decide) ?_
    refine gU rfl ?_
    refine gU rfl ?_
    refine gU rfl ?_
    refine gU rfl ?_
    refine gU rfl ?_
    refine gU rfl ?_
    refine gU rfl ?_
    refine gU rfl ?_
    refine gU rfl ?_
    refine gF rfl (by decide) ?_
    refine gF rfl (by decide) ?_
    refine gU rfl ?_
    refine gU rfl ?_
    refine gU rfl ?_
    refine gU rfl ?_
    refine gU rfl ?_
    refine gU rfl ?_
    refine gF rfl (by decide) ?_
    iterate 2 refine aN rfl rfl (by constructor) ?_
    refine pE ?_
    show AW _ (.cond _ _ _) _ _ _
    refine cF' rfl ?_
    show AWl _ _ _ _ _
    iterate 2 refine aN rfl rfl (by constructor) ?_
    refine gT rfl ?_
    refine aN rfl rfl (by constructor) ?_
    refine gT rfl ?_
    refine aLd st 0 rfl rfl rfl (by constructor) ?_
    refine gT rfl ?_
    refine aBinV (.bool false) rfl rfl (by exact congrArg (fun q => some (Value.bool q)) (decide_eq_false (by omega))) ?_
    iterate 2 refine aN rfl rfl (by constructor) ?_
    refine sE ?_
    show AW _ (.cond _ _ _) _ _ _
    refine cF' rfl ?_
    show AWp _ _ _ _ _
    iterate 4 refine aN rfl rfl (by constructor) ?_
    refine aLd st 2 rfl rfl rfl (by constructor) ?_
    refine aN rfl rfl (by constructor) ?_
    refine aLd st 0 rfl rfl rfl (by constructor) ?_
    refine aN rfl rfl (by constructor) ?_
    refine aLd st 0 rfl rfl rfl (by constructor) ?_
    refine aN rfl rfl (by constructor) ?_
    refine aLd st 0 rfl rfl rfl (by constructor) ?_
    refine aN rfl rfl (by constructor) ?_
    refine aLd st 1 rfl rfl rfl (by constructor) ?_
    refine aBinV (.int .u8 32) rfl rfl (rfl) ?_
    refine aBld rfl (by repeat constructor) ?_
    refine ⟨?_, trivial⟩
    refine aLit st rfl (by repeat constructor) fun b122 H11 st => ?_
    refine ⟨⟨(h_Ld st 2 rfl rfl rfl (by constructor)), (h_Ld st 1 rfl rfl rfl (by constructor)), (h_Ld st 1 rfl rfl rfl (by constructor)), (h_Ld st 1 rfl rfl rfl (by constructor)), (h_Ld st 3 rfl rfl rfl (by constructor)), trivial⟩, ?_⟩
    refine ⟨?_, trivial⟩
    have st := st.nil 41
    have hnil : (Value.slice none 0 0) = accV none 0 8 := rfl
    refine aAppP st 0 (ob := none) (n := 0) rfl rfl rfl (by decide) (rfl) (st.rowAll 1 rfl (by first | rfl | (simp [beB_len, *]; done) | (simp [beB_len, *]; omega))).src (rfl) (by decide) (by decide) (by decide) (by repeat constructor) fun b123 H12 st => ?_
    refine ⟨⟨(h_Ld st 3 rfl rfl rfl (by constructor)), (h_Ld st 2 rfl rfl rfl (by constructor)), (h_Ld st 2 rfl rfl rfl (by constructor)), (h_Ld st 2 rfl rfl rfl (by constructor)), trivial⟩, ?_⟩
    iterate 2 refine aN rfl rfl (by constructor) ?_
    refine ⟨?_, trivial⟩
    refine aSt st 4 rfl rfl rfl rfl (by first | rfl | simp [cellsOf, *]) (by first | decide | (simp [*]; done) | (simp [k8]; done)) (by repeat constructor) fun H13 st => ?_
    refine ⟨trivial, ?_⟩
    refine pE ?_
    show AWl _ _ _ _ _
    iterate 3 refine aN rfl rfl (by constructor) ?_
    refine gT rfl ?_
    refine aN rfl rfl (by constructor) ?_
    refine gT rfl ?_
    refine aLd st 3 rfl rfl rfl (by constructor) ?_
    refine gT rfl ?_
    refine aN (v := .int .i64 (kn : Int)) rfl rfl (by constructor) ?_
    refine gT rfl ?_
    refine aN rfl rfl (by constructor) ?_
    refine gT rfl ?_
    refine aLd st 2 rfl rfl rfl (by constructor) ?_
    refine gT rfl ?_
    refine aBinV (.bool true) rfl rfl (eqT (by omega)) ?_
    refine aN rfl rfl (by constructor) ?_
    refine sE ?_
    show AW _ (.cond _ _ _) _ _ _
    refine cT rfl ?_
    show AWp _ _ _ _ _
    refine aLdA st 2 rfl rfl (by first | decide | simp [*]) (by repeat constructor) ?_
    refine aN rfl rfl (by constructor) ?_
    refine ⟨?_, trivial⟩
    refine aLit st rfl (by repeat constructor) fun b137 H14 st => ?_
    refine ⟨trivial, ?_⟩
    refine aN rfl rfl (by constructor) ?_
    refine pE ?_
    refine ⟨_, out2 (r_tmp rfl (by constructor)) (r_tmp rfl (by constructor)) ⟨rfl, rfl⟩, ?_⟩
    exact ⟨b137, b123, _, rfl, st.sel [5, 0, 1] (by decide)⟩
  ·refine ⟨?_, trivial⟩
   refine aNewP st rfl rfl (by repeat constructor) fun b6 H15 st => ?_
   refine ⟨⟨(h_Ld st 1 rfl rfl rfl (by constructor)), (h_Ld st 1 rfl rfl rfl (by constructor)), (h_Ld st 1 rfl rfl rfl (by constructor)), (h_Ld st 1 rfl rfl rfl (by constructor)), (h_Ld st 1 rfl rfl rfl (by constructor)), trivial⟩, ?_⟩
   refine ⟨?_, trivial⟩
   refine aC (wbytes_call (xs := [w3, 0, 0, 0]) (Stt.cutAt st 1 (o := 9) (n := 4) rfl (by decide) (show 9 + 4 ≤ 14 by decide)) (show 4 ≤ 1000 by decide)) fun v19 H16 ⟨oc19, hv, st1⟩ => ?_
   subst hv
   replace st := st.call st1 rfl
   clear st1
   obtain ⟨bc, rfl⟩ := st.isSome 0 rfl (fun h => by cases h)
   have hw16 : (w4s [w3, 0, 0, 0] ([w3, 0, 0, 0] : List Int).length).length = 16 := rfl
   refine ⟨⟨(h_Ld st 2 rfl rfl rfl (by constructor)), (h_Ld st 2 rfl rfl rfl (by constructor)), (h_Ld st 2 rfl rfl rfl (by constructor)), (h_Ld st 2 rfl rfl rfl (by constructor)), (h_Ld st 2 rfl rfl rfl (by constructor)), trivial⟩, ?_⟩
   refine aBld rfl (by repeat constructor) ?_
   refine ⟨?_, trivial⟩
   refine aSt st 1 rfl rfl rfl rfl (by first | rfl | simp [cellsOf, *]) (by first | decide | (simp [*]; done) | (simp [k8]; done)) (by repeat constructor) fun H17 st => ?_
   refine ⟨trivial, ?_⟩
   refine pE ?_
   show AWl _ _ _ _ _
   refine aN rfl rfl (by constructor) ?_
   refine aLd st 2 rfl rfl rfl (by constructor) ?_
   refine aBinV (.int .u8 32) rfl rfl (rfl) ?_
   refine aBinV (.bool true) rfl rfl rfl ?_
   refine aN rfl rfl (by constructor) ?_
   refine sE ?_
   show AWl _ _ _ _ _
   iterate 3 refine aN rfl rfl (by constructor) ?_
   refine aLd st 3 rfl rfl rfl (by constructor) ?_
   refine aN (v := .int .i64 0) rfl rfl (by constructor) ?_
   refine aN rfl rfl (by constructor) ?_
   refine sE ?_
   show AW _ (.loop _) _ _ _
   refine AW_loopN (fun m t1 H1 => m = 0 ∧ t1 36 = .int .i64 0 ∧ Stt [b] H H1 [⟨some b6, true, ⟨true, 41, [.int .u32 tag, .int .u8 0, .int .u8 0, .slice (some ⟨bc, 0, none⟩) 16 1, .slice px kn cx, .int .i64 n, .int .u8 0, .int .u32 0]⟩⟩, ⟨some b3, true, ⟨true, 37, [.int .u8 1, .int .u8 161, .int .u8 0, .int .u8 0, .int .u8 0, .int .u32 tag, .int .u32 n, .int .u32 w1, .int .u32 0, .int .u32 w3, .int .u32 0, .int .u32 0, .int .u32 0, .slice px kn cx]⟩⟩, ⟨some b, true, ⟨true, 64, [.string ⟨#[]⟩, .string ⟨#[116]⟩, .bool false, .bool false, .bool false, .int .i64 sg, .int .i64 bu, .int .i64 65536, .bool true, .bool true, .slice none 0 0, .int .u32 cmd, .int .u32 stat, .int .u32 tg, hd, .slice none 0 0, .bool false, .slice none 0 0]⟩⟩, ⟨some bc, true, ⟨true, 5, (w4s [w3, 0, 0, 0] 4).map (Value.int .u8)⟩⟩]) 0 ⟨rfl, rfl, (st.sel [1, 2, 3, 0] (by decide))⟩ [4, 5, 9, 36, 37, 38, 39, 40, 41, 42, 43, 44, 45, 46, 47, 48] (by decide) ?_
   rintro m t1 H1 hk hI
   obtain ⟨rfl, ht36, st⟩ := hI
   obtain ⟨u, rfl⟩ : ∃ u, t1 = (upd (mix [4, 5, 9, 36, 37, 38, 39, 40, 41, 42, 43, 44, 45, 46, 47, 48] _ u) (some 36) _) := ⟨t1, by rw [← hk, upd_self ht36]⟩
   clear hk ht36
   show AWl _ _ _ _ _
   refine aBinV (.bool false) rfl rfl rfl ?_
   refine sE ?_
   show AW _ (.cond _ _ _) _ _ _
   refine cF' rfl ?_
   show AWl _ _ _ _ _
   iterate 4 refine aN rfl rfl (by constructor) ?_
   refine aLd st 2 rfl rfl rfl (by constructor) ?_
   refine aN rfl rfl (by constructor) ?_
   refine sE ?_
   show AW _ (.cond _ _ _) _ _ _
   refine cF' rfl ?_
   show AWp _ _ _ _ _
   refine aN rfl rfl (by constructor) ?_
   refine aLd st 1 rfl rfl rfl (by constructor) ?_
   refine aN (v := .int .i64 (kn : Int)) rfl rfl (by constructor) ?_
   iterate 2 refine aN rfl rfl (by constructor) ?_
   refine gCase 63 rfl (fun h18 => ?_) (fun h18 => ?_)
   ·refine gT rfl ?_
    refine aN rfl rfl (by constructor) ?_
    refine gT rfl ?_
    refine aN rfl rfl (by constructor) ?_
    refine gT rfl ?_
    refine aN rfl rfl (by constructor) ?_
    refine gT rfl ?_
    refine aN rfl rfl (by constructor) ?_
    refine gT rfl ?_
    refine aN rfl rfl (by constructor) ?_
    refine gT rfl ?_
    refine aN rfl rfl (by constructor) ?_
    refine gT rfl ?_
    refine aN rfl rfl (by constructor) ?_
    refine gT rfl ?_
    refine aLd st 2 rfl rfl rfl (by constructor) ?_
    refine gT rfl ?_
    refine aN rfl rfl (by constructor) ?_
    refine gT rfl ?_
    refine aN rfl rfl (by constructor) ?_
    refine gT rfl ?_
    refine aN rfl rfl (by constructor) ?_
    refine gT rfl ?_
    refine aN rfl rfl (by constructor) ?_
    refine gT rfl ?_
    refine aLd st 1 rfl rfl rfl (by constructor) ?_
    refine gT rfl ?_
    refine aN (v := .int .i64 (kn : Int)) rfl rfl (by constructor) ?_
    refine gT rfl ?_
    refine aN rfl rfl (by constructor) ?_
    refine gT rfl ?_
    refine aN rfl rfl (by constructor) ?_
    refine gT rfl ?_
    refine aN rfl rfl (by constructor) ?_
    refine gT rfl ?_
    refine aN rfl rfl (by constructor) ?_
    refine gT rfl ?_
    refine aLd st 2 rfl rfl rfl (by constructor) ?_
    refine gT rfl ?_
    refine aBinV (.bool false) rfl rfl (by exact congrArg (fun q => some (Value.bool q)) (decide_eq_false (by omega))) ?_
    refine gT rfl ?_
    refine aN rfl rfl (by constructor) ?_
    refine gT rfl ?_
    refine aN rfl rfl (by constructor) ?_
    refine gT rfl ?_
    refine aN rfl rfl (by constructor) ?_
    refine gT rfl ?_
    refine aLd st 1 rfl rfl rfl (by constructor) ?_
    refine gT rfl ?_
    refine aN (v := .int .i64 (kn : Int)) rfl rfl (by constructor) ?_
    refine gT rfl ?_
    refine aN rfl rfl (by constructor) ?_
    refine gT rfl ?_
    refine aLd st 0 rfl rfl rfl (by constructor) ?_
    refine gT rfl ?_
    refine aBinV (.bool false) rfl rfl (by exact congrArg (fun q => some (Value.bool q)) (decide_eq_false (by omega))) ?_
    refine gT rfl ?_
    iterate 3 refine aN rfl rfl (by constructor) ?_
    refine pE ?_
    show AW _ (.cond _ _ _) _ _ _
    refine cF' rfl ?_
    show AWl _ _ _ _ _
    iterate 2 refine aN rfl rfl (by constructor) ?_
    refine gT rfl ?_
    refine aN rfl rfl (by constructor) ?_
    refine gT rfl ?_
    refine aLd st 0 rfl rfl rfl (by constructor) ?_
    refine gT rfl ?_
    refine aBinV (.bool false) rfl rfl (by exact congrArg (fun q => some (Value.bool q)) (decide_eq_false (by omega))) ?_
    iterate 2 refine aN rfl rfl (by constructor) ?_
    refine sE ?_
    show AW _ (.cond _ _ _) _ _ _
    refine cF' rfl ?_
    show AWp _ _ _ _ _
    iterate 4 refine aN rfl rfl (by constructor) ?_
    refine aLd st 2 rfl rfl rfl (by constructor) ?_
    refine aN rfl rfl (by constructor) ?_
    refine aLd st 0 rfl rfl rfl (by constructor) ?_
    refine aN rfl rfl (by constructor) ?_
    refine aLd st 0 rfl rfl rfl (by constructor) ?_
    refine aN rfl rfl (by constructor) ?_
    refine aLd st 0 rfl rfl rfl (by constructor) ?_
    refine aN rfl rfl (by constructor) ?_
    refine aLd st 1 rfl rfl rfl (by constructor) ?_
    refine aBinV (.int .u8 32) rfl rfl (rfl) ?_
    refine aBld rfl (by repeat constructor) ?_
    refine ⟨?_, trivial⟩
    refine aLit st rfl (by repeat constructor) fun b122 H19 st => ?_
    refine ⟨⟨(h_Ld st 2 rfl rfl rfl (by constructor)), (h_Ld st 1 rfl rfl rfl (by constructor)), (h_Ld st 1 rfl rfl rfl (by constructor)), (h_Ld st 1 rfl rfl rfl (by constructor)), (h_Ld st 3 rfl rfl rfl (by constructor)), trivial⟩, ?_⟩
    refine ⟨?_, trivial⟩
    have st := st.nil 41
    have hnil : (Value.slice none 0 0) = accV none 0 8 := rfl
    refine aAppP st 0 (ob := none) (n := 0) rfl rfl rfl (by decide) (rfl) (st.rowAll 1 rfl (by first | rfl | (simp [beB_len, *]; done) | (simp [beB_len, *]; omega))).src (rfl) (by decide) (by decide) (by decide) (by repeat constructor) fun b123 H20 st => ?_
    refine ⟨⟨(h_Ld st 3 rfl rfl rfl (by constructor)), (h_Ld st 2 rfl rfl rfl (by constructor)), (h_Ld st 2 rfl rfl rfl (by constructor)), (h_Ld st 2 rfl rfl rfl (by constructor)), trivial⟩, ?_⟩
    iterate 2 refine aN rfl rfl (by constructor) ?_
    refine ⟨?_, trivial⟩
    refine aSt st 4 rfl rfl rfl rfl (by first | rfl | simp [cellsOf, *]) (by first | decide | (simp [*]; done) | (simp [k8]; done)) (by repeat constructor) fun H21 st => ?_
    refine ⟨trivial, ?_⟩
    refine pE ?_
    show AWl _ _ _ _ _
    iterate 3 refine aN rfl rfl (by constructor) ?_
    refine gT rfl ?_
    refine aN rfl rfl (by constructor) ?_
    refine gT rfl ?_
    refine aLd st 3 rfl rfl rfl (by constructor) ?_
    refine gT rfl ?_
    refine aN (v := .int .i64 (kn : Int)) rfl rfl (by constructor) ?_
    refine gT rfl ?_
    refine aN rfl rfl (by constructor) ?_
    refine gT rfl ?_
    refine aLd st 2 rfl rfl rfl (by constructor) ?_
    refine gT rfl ?_
    refine aBinV (.bool true) rfl rfl (eqT (by omega)) ?_
    refine aN rfl rfl (by constructor) ?_
    refine sE ?_
    show AW _ (.cond _ _ _) _ _ _
    refine cT rfl ?_
    show AWp _ _ _ _ _
    refine aLdA st 2 rfl rfl (by first | decide | simp [*]) (by repeat constructor) ?_
    refine aN rfl rfl (by constructor) ?_
    refine ⟨?_, trivial⟩
    refine aLit st rfl (by repeat constructor) fun b137 H22 st => ?_
    refine ⟨trivial, ?_⟩
    refine aN rfl rfl (by constructor) ?_
    refine pE ?_
    refine ⟨_, out2 (r_tmp rfl (by constructor)) (r_tmp rfl (by constructor)) ⟨rfl, rfl⟩, ?_⟩
    exact ⟨b137, b123, _, rfl, st.sel [5, 0, 1] (by decide)⟩
   ·refine gF rfl (by decide) ?_
    refine gF rfl (by decide) ?_
    refine gF rfl (by decide) ?_
    refine gU rfl ?_
    refine gU rfl ?_
    refine gU rfl ?_
    refine gU rfl ?_
    refine gU rfl ?_
    refine gU rfl ?_
    refine gF rfl (by decide) ?_
    refine gF rfl (by decide) ?_
    refine gU rfl ?_
    refine gU rfl ?_
    refine gU rfl ?_
    refine gU rfl ?_
    refine gU rfl ?_
    refine gU rfl ?_
    refine gU rfl ?_
    refine gU rfl ?_
    refine gU rfl ?_
    refine gF rfl (by decide) ?_
    refine gF rfl (by decide) ?_
    refine gU rfl ?_
    refine gU rfl ?_
    refine gU rfl ?_
    refine gU rfl ?_
    refine gU rfl ?_
    refine gU rfl ?_
    refine gF rfl (by decide) ?_
    iterate 2 refine aN rfl rfl (by constructor) ?_
    refine pE ?_
    show AW _ (.cond _ _ _) _ _ _
    refine cF' rfl ?_
    show AWl _ _ _ _ _
    iterate 2 refine aN rfl rfl (by constructor) ?_
    refine gT rfl ?_
    refine aN rfl rfl (by constructor) ?_
    refine gT rfl ?_
    refine aLd st 0 rfl rfl rfl (by constructor) ?_
    refine gT rfl ?_
    refine aBinV (.bool false) rfl rfl (by exact congrArg (fun q => some (Value.bool q)) (decide_eq_false (by omega))) ?_
    iterate 2 refine aN rfl rfl (by constructor) ?_
    refine sE ?_
    show AW _ (.cond _ _ _) _ _ _
    refine cF' rfl ?_
    show AWp _ _ _ _ _
    iterate 4 refine aN rfl rfl (by constructor) ?_
    refine aLd st 2 rfl rfl rfl (by constructor) ?_
    refine aN rfl rfl (by constructor) ?_
    refine aLd st 0 rfl rfl rfl (by constructor) ?_
    refine aN rfl rfl (by constructor) ?_
    refine aLd st 0 rfl rfl rfl (by constructor) ?_
    refine aN rfl rfl (by constructor) ?_
    refine aLd st 0 rfl rfl rfl (by constructor) ?_
    refine aN rfl rfl (by constructor) ?_
    refine aLd st 1 rfl rfl rfl (by constructor) ?_
    refine aBinV (.int .u8 32) rfl rfl (rfl) ?_
    refine aBld rfl (by repeat constructor) ?_
    refine ⟨?_, trivial⟩
    refine aLit st rfl (by repeat constructor) fun b122 H23 st => ?_
    refine ⟨⟨(h_Ld st 2 rfl rfl rfl (by constructor)), (h_Ld st 1 rfl rfl rfl (by constructor)), (h_Ld st 1 rfl rfl rfl (by constructor)), (h_Ld st 1 rfl rfl rfl (by constructor)), (h_Ld st 3 rfl rfl rfl (by constructor)), trivial⟩, ?_⟩
    refine ⟨?_, trivial⟩
    have st := st.nil 41
    have hnil : (Value.slice none 0 0) = accV none 0 8 := rfl
    refine aAppP st 0 (ob := none) (n := 0) rfl rfl rfl (by decide) (rfl) (st.rowAll 1 rfl (by first | rfl | (simp [beB_len, *]; done) | (simp [beB_len, *]; omega))).src (rfl) (by decide) (by decide) (by decide) (by repeat constructor) fun b123 H24 st => ?_
    refine ⟨⟨(h_Ld st 3 rfl rfl rfl (by constructor)), (h_Ld st 2 rfl rfl rfl (by constructor)), (h_Ld st 2 rfl rfl rfl (by constructor)), (h_Ld st 2 rfl rfl rfl (by constructor)), trivial⟩, ?_⟩
    iterate 2 refine aN rfl rfl (by constructor) ?_
    refine ⟨?_, trivial⟩
    refine aSt st 4 rfl rfl rfl rfl (by first | rfl | simp [cellsOf, *]) (by first | decide | (simp [*]; done) | (simp [k8]; done)) (by repeat constructor) fun H25 st => ?_
    refine ⟨trivial, ?_⟩
    refine pE ?_
    show AWl _ _ _ _ _
    iterate 3 refine aN rfl rfl (by constructor) ?_
    refine gT rfl ?_
    refine aN rfl rfl (by constructor) ?_
    refine gT rfl ?_
    refine aLd st 3 rfl rfl rfl (by constructor) ?_
    refine gT rfl ?_
    refine aN (v := .int .i64 (kn : Int)) rfl rfl (by constructor) ?_
    refine gT rfl ?_
    refine aN rfl rfl (by constructor) ?_
    refine gT rfl ?_
    refine aLd st 2 rfl rfl rfl (by constructor) ?_
    refine gT rfl ?_
    refine aBinV (.bool true) rfl rfl (eqT (by omega)) ?_
    refine aN rfl rfl (by constructor) ?_
    refine sE ?_
    show AW _ (.cond _ _ _) _ _ _
    refine cT rfl ?_
    show AWp _ _ _ _ _
    refine aLdA st 2 rfl rfl (by first | decide | simp [*]) (by repeat constructor) ?_
    refine aN rfl rfl (by constructor) ?_
    refine ⟨?_, trivial⟩
    refine aLit st rfl (by repeat constructor) fun b137 H26 st => ?_
    refine ⟨trivial, ?_⟩
    refine aN rfl rfl (by constructor) ?_
    refine pE ?_
    refine ⟨_, out2 (r_tmp rfl (by constructor)) (r_tmp rfl (by constructor)) ⟨rfl, rfl⟩, ?_⟩
    exact ⟨b137, b123, _, rfl, st.sel [5, 0, 1] (by decide)⟩
 ·refine ⟨?_, trivial⟩
  refine aNewP st rfl rfl (by repeat constructor) fun b6 H27 st => ?_
  refine ⟨⟨(h_Ld st 1 rfl rfl rfl (by constructor)), (h_Ld st 1 rfl rfl rfl (by constructor)), (h_Ld st 1 rfl rfl rfl (by constructor)), (h_Ld st 1 rfl rfl rfl (by constructor)), (h_Ld st 1 rfl rfl rfl (by constructor)), trivial⟩, ?_⟩
  refine ⟨?_, trivial⟩
  refine aC (attr_w) fun v16 H28 ⟨hv, st1⟩ => ?_
  subst hv
  replace st := st.call st1 rfl
  clear st1
  refine ⟨⟨(h_Ld st 1 rfl rfl rfl (by constructor)), (h_Ld st 1 rfl rfl rfl (by constructor)), (h_Ld st 1 rfl rfl rfl (by constructor)), (h_Ld st 1 rfl rfl rfl (by constructor)), trivial⟩, ?_⟩
  refine ⟨?_, trivial⟩
  refine aC (wbytes_call (xs := [w3, 0, 0, 0]) (Stt.cutAt st 1 (o := 9) (n := 4) rfl (by decide) (show 9 + 4 ≤ 14 by decide)) (show 4 ≤ 1000 by decide)) fun v19 H29 ⟨oc19, hv, st1⟩ => ?_
  subst hv
  replace st := st.call st1 rfl
  clear st1
  obtain ⟨bc, rfl⟩ := st.isSome 0 rfl (fun h => by cases h)
  have hw16 : (w4s [w3, 0, 0, 0] ([w3, 0, 0, 0] : List Int).length).length = 16 := rfl
  refine ⟨⟨(h_Ld st 2 rfl rfl rfl (by constructor)), (h_Ld st 2 rfl rfl rfl (by constructor)), (h_Ld st 2 rfl rfl rfl (by constructor)), (h_Ld st 2 rfl rfl rfl (by constructor)), (h_Ld st 2 rfl rfl rfl (by constructor)), trivial⟩, ?_⟩
  refine aBld rfl (by repeat constructor) ?_
  refine ⟨?_, trivial⟩
  refine aSt st 1 rfl rfl rfl rfl (by first | rfl | simp [cellsOf, *]) (by first | decide | (simp [*]; done) | (simp [k8]; done)) (by repeat constructor) fun H30 st => ?_
  refine ⟨trivial, ?_⟩
  refine pE ?_
  show AWl _ _ _ _ _
  refine aN rfl rfl (by constructor) ?_
  refine aLd st 2 rfl rfl rfl (by constructor) ?_
  refine aBinV (.int .u8 32) rfl rfl (rfl) ?_
  refine aBinV (.bool true) rfl rfl rfl ?_
  refine aN rfl rfl (by constructor) ?_
  refine sE ?_
  show AWl _ _ _ _ _
  iterate 3 refine aN rfl rfl (by constructor) ?_
  refine aLd st 3 rfl rfl rfl (by constructor) ?_
  refine aN (v := .int .i64 0) rfl rfl (by constructor) ?_
  refine aN rfl rfl (by constructor) ?_
  refine sE ?_
  show AW _ (.loop _) _ _ _
  refine AW_loopN (fun m t1 H1 => m = 0 ∧ t1 36 = .int .i64 0 ∧ Stt [b] H H1 [⟨some b6, true, ⟨true, 41, [.int .u32 tag, .int .u8 0, .int .u8 0, .slice (some ⟨bc, 0, none⟩) 16 1, .slice px kn cx, .int .i64 n, .int .u8 0, .int .u32 0]⟩⟩, ⟨some b3, true, ⟨true, 37, [.int .u8 1, .int .u8 161, .int .u8 0, .int .u8 0, .int .u8 0, .int .u32 tag, .int .u32 n, .int .u32 w1, .int .u32 0, .int .u32 w3, .int .u32 0, .int .u32 0, .int .u32 0, .slice px kn cx]⟩⟩, ⟨some b, true, ⟨true, 64, [.string ⟨#[]⟩, .string ⟨#[116]⟩, .bool false, .bool false, .bool false, .int .i64 sg, .int .i64 bu, .int .i64 65536, .bool true, .bool true, .slice none 0 0, .int .u32 cmd, .int .u32 stat, .int .u32 tg, hd, .slice none 0 0, .bool false, .slice none 0 0]⟩⟩, ⟨some bc, true, ⟨true, 5, (w4s [w3, 0, 0, 0] 4).map (Value.int .u8)⟩⟩]) 0 ⟨rfl, rfl, (st.sel [1, 2, 3, 0] (by decide))⟩ [4, 5, 9, 36, 37, 38, 39, 40, 41, 42, 43, 44, 45, 46, 47, 48] (by decide) ?_
  rintro m t1 H1 hk hI
  obtain ⟨rfl, ht36, st⟩ := hI
  obtain ⟨u, rfl⟩ : ∃ u, t1 = (upd (mix [4, 5, 9, 36, 37, 38, 39, 40, 41, 42, 43, 44, 45, 46, 47, 48] _ u) (some 36) _) := ⟨t1, by rw [← hk, upd_self ht36]⟩
  clear hk ht36
  show AWl _ _ _ _ _
  refine aBinV (.bool false) rfl rfl rfl ?_
  refine sE ?_
  show AW _ (.cond _ _ _) _ _ _
  refine cF' rfl ?_
  show AWl _ _ _ _ _
  iterate 4 refine aN rfl rfl (by constructor) ?_
  refine aLd st 2 rfl rfl rfl (by constructor) ?_
  refine aN rfl rfl (by constructor) ?_
  refine sE ?_
  show AW _ (.cond _ _ _) _ _ _
  refine cF' rfl ?_
  show AWp _ _ _ _ _
  refine aN rfl rfl (by constructor) ?_
  refine aLd st 1 rfl rfl rfl (by constructor) ?_
  refine aN (v := .int .i64 (kn : Int)) rfl rfl (by constructor) ?_
  iterate 2 refine aN rfl rfl (by constructor) ?_
  refine gCase 63 rfl (fun h31 => ?_) (fun h31 => ?_)
  ·refine gT rfl ?_
   refine aN rfl rfl (by constructor) ?_
   refine gT rfl ?_
   refine aN rfl rfl (by constructor) ?_
   refine gT rfl ?_
   refine aN rfl rfl (by constructor) ?_
   refine gT rfl ?_
   refine aN rfl rfl (by constructor) ?_
   refine gT rfl ?_
   refine aN rfl rfl (by constructor) ?_
   refine gT rfl ?_
   refine aN rfl rfl (by constructor) ?_
   refine gT rfl ?_
   refine aN rfl rfl (by constructor) ?_
   refine gT rfl ?_
   refine aLd st 2 rfl rfl rfl (by constructor) ?_
   refine gT rfl ?_
   refine aN rfl rfl (by constructor) ?_
   refine gT rfl ?_
   refine aN rfl rfl (by constructor) ?_
   refine gT rfl ?_
   refine aN rfl rfl (by constructor) ?_
   refine gT rfl ?_
   refine aN rfl rfl (by constructor) ?_
   refine gT rfl ?_
   refine aLd st 1 rfl rfl rfl (by constructor) ?_
   refine gT rfl ?_
   refine aN (v := .int .i64 (kn : Int)) rfl rfl (by constructor) ?_
   refine gT rfl ?_
   refine aN rfl rfl (by constructor) ?_
   refine gT rfl ?_
   refine aN rfl rfl (by constructor) ?_
   refine gT rfl ?_
   refine aN rfl rfl (by constructor) ?_
   refine gT rfl ?_
   refine aN rfl rfl (by constructor) ?_
   refine gT rfl ?_
   refine aLd st 2 rfl rfl rfl (by constructor) ?_
   refine gT rfl ?_
   refine aBinV (.bool false) rfl rfl (by exact congrArg (fun q => some (Value.bool q)) (decide_eq_false (by omega))) ?_
   refine gT rfl ?_
   refine aN rfl rfl (by constructor) ?_
   refine gT rfl ?_
   refine aN rfl rfl (by constructor) ?_
   refine gT rfl ?_
   refine aN rfl rfl (by constructor) ?_
   refine gT rfl ?_
   refine aLd st 1 rfl rfl rfl (by constructor) ?_
   refine gT rfl ?_
   refine aN (v := .int .i64 (kn : Int)) rfl rfl (by constructor) ?_
   refine gT rfl ?_
   refine aN rfl rfl (by constructor) ?_
   refine gT rfl ?_
   refine aLd st 0 rfl rfl rfl (by constructor) ?_
   refine gT rfl ?_
   refine aBinV (.bool false) rfl rfl (by exact congrArg (fun q => some (Value.bool q)) (decide_eq_false (by omega))) ?_
   refine gT rfl ?_
   iterate 3 refine aN rfl rfl (by constructor) ?_
   refine pE ?_
   show AW _ (.cond _ _ _) _ _ _
   refine cF' rfl ?_
   show AWl _ _ _ _ _
   iterate 2 refine aN rfl rfl (by constructor) ?_
   refine gT rfl ?_
   refine aN rfl rfl (by constructor) ?_
   refine gT rfl ?_
   refine aLd st 0 rfl rfl rfl (by constructor) ?_
   refine gT rfl ?_
   refine aBinV (.bool false) rfl rfl (by exact congrArg (fun q => some (Value.bool q)) (decide_eq_false (by omega))) ?_
   iterate 2 refine aN rfl rfl (by constructor) ?_
   refine sE ?_
   show AW _ (.cond _ _ _) _ _ _
   refine cF' rfl ?_
   show AWp _ _ _ _ _
   iterate 4 refine aN rfl rfl (by constructor) ?_
   refine aLd st 2 rfl rfl rfl (by constructor) ?_
   refine aN rfl rfl (by constructor) ?_
   refine aLd st 0 rfl rfl rfl (by constructor) ?_
   refine aN rfl rfl (by constructor) ?_
   refine aLd st 0 rfl rfl rfl (by constructor) ?_
   refine aN rfl rfl (by constructor) ?_
   refine aLd st 0 rfl rfl rfl (by constructor) ?_
   refine aN rfl rfl (by constructor) ?_
   refine aLd st 1 rfl rfl rfl (by constructor) ?_
   refine aBinV (.int .u8 32) rfl rfl (rfl) ?_
   refine aBld rfl (by repeat constructor) ?_
   refine ⟨?_, trivial⟩
   refine aLit st rfl (by repeat constructor) fun b122 H32 st => ?_
   refine ⟨⟨(h_Ld st 2 rfl rfl rfl (by constructor)), (h_Ld st 1 rfl rfl rfl (by constructor)), (h_Ld st 1 rfl rfl rfl (by constructor)), (h_Ld st 1 rfl rfl rfl (by constructor)), (h_Ld st 3 rfl rfl rfl (by constructor)), trivial⟩, ?_⟩
   refine ⟨?_, trivial⟩
   have st := st.nil 41
   have hnil : (Value.slice none 0 0) = accV none 0 8 := rfl
   refine aAppP st 0 (ob := none) (n := 0) rfl rfl rfl (by decide) (rfl) (st.rowAll 1 rfl (by first | rfl | (simp [beB_len, *]; done) | (simp [beB_len, *]; omega))).src (rfl) (by decide) (by decide) (by decide) (by repeat constructor) fun b123 H33 st => ?_
   refine ⟨⟨(h_Ld st 3 rfl rfl rfl (by constructor)), (h_Ld st 2 rfl rfl rfl (by constructor)), (h_Ld st 2 rfl rfl rfl (by constructor)), (h_Ld st 2 rfl rfl rfl (by constructor)), trivial⟩, ?_⟩
   iterate 2 refine aN rfl rfl (by constructor) ?_
   refine ⟨?_, trivial⟩
   refine aSt st 4 rfl rfl rfl rfl (by first | rfl | simp [cellsOf, *]) (by first | decide | (simp [*]; done) | (simp [k8]; done)) (by repeat constructor) fun H34 st => ?_
   refine ⟨trivial, ?_⟩
   refine pE ?_
   show AWl _ _ _ _ _
   iterate 3 refine aN rfl rfl (by constructor) ?_
   refine gT rfl ?_
   refine aN rfl rfl (by constructor) ?_
   refine gT rfl ?_
   refine aLd st 3 rfl rfl rfl (by constructor) ?_
   refine gT rfl ?_
   refine aN (v := .int .i64 (kn : Int)) rfl rfl (by constructor) ?_
   refine gT rfl ?_
   refine aN rfl rfl (by constructor) ?_
   refine gT rfl ?_
   refine aLd st 2 rfl rfl rfl (by constructor) ?_
   refine gT rfl ?_
   refine aBinV (.bool true) rfl rfl (eqT (by omega)) ?_
   refine aN rfl rfl (by constructor) ?_
   refine sE ?_
   show AW _ (.cond _ _ _) _ _ _
   refine cT rfl ?_
   show AWp _ _ _ _ _
   refine aLdA st 2 rfl rfl (by first | decide | simp [*]) (by repeat constructor) ?_
   refine aN rfl rfl (by constructor) ?_
   refine ⟨?_, trivial⟩
   refine aLit st rfl (by repeat constructor) fun b137 H35 st => ?_
   refine ⟨trivial, ?_⟩
   refine aN rfl rfl (by constructor) ?_
   refine pE ?_
   refine ⟨_, out2 (r_tmp rfl (by constructor)) (r_tmp rfl (by constructor)) ⟨rfl, rfl⟩, ?_⟩
   exact ⟨b137, b123, _, rfl, st.sel [5, 0, 1] (by decide)⟩
  ·refine gF rfl (by decide) ?_
   refine gF rfl (by decide) ?_
   refine gF rfl (by decide) ?_
   refine gU rfl ?_
   refine gU rfl ?_
   refine gU rfl ?_
   refine gU rfl ?_
   refine gU rfl ?_
   refine gU rfl ?_
   refine gF rfl (by decide) ?_
   refine gF rfl (by decide) ?_
   refine gU rfl ?_
   refine gU rfl ?_
   refine gU rfl ?_
   refine gU rfl ?_
   refine gU rfl ?_
   refine gU rfl ?_
   refine gU rfl ?_
   refine gU rfl ?_
   refine gU rfl ?_
   refine gF rfl (by decide) ?_
   refine gF rfl (by decide) ?_
   refine gU rfl ?_
   refine gU rfl ?_
   refine gU rfl ?_
   refine gU rfl ?_
   refine gU rfl ?_
   refine gU rfl ?_
   refine gF rfl (by decide) ?_
   iterate 2 refine aN rfl rfl (by constructor) ?_
   refine pE ?_
   show AW _ (.cond _ _ _) _ _ _
   refine cF' rfl ?_
   show AWl _ _ _ _ _
   iterate 2 refine aN rfl rfl (by constructor) ?_
   refine gT rfl ?_
   refine aN rfl rfl (by constructor) ?_
   refine gT rfl ?_
   refine aLd st 0 rfl rfl rfl (by constructor) ?_
   refine gT rfl ?_
   refine aBinV (.bool false) rfl rfl (by exact congrArg (fun q => some (Value.bool q)) (decide_eq_false (by omega))) ?_
   iterate 2 refine aN rfl rfl (by constructor) ?_
   refine sE ?_
   show AW _ (.cond _ _ _) _ _ _
   refine cF' rfl ?_
   show AWp _ _ _ _ _
   iterate 4 refine aN rfl rfl (by constructor) ?_
   refine aLd st 2 rfl rfl rfl (by constructor) ?_
   refine aN rfl rfl (by constructor) ?_
   refine aLd st 0 rfl rfl rfl (by constructor) ?_
   refine aN rfl rfl (by constructor) ?_
   refine aLd st 0 rfl rfl rfl (by constructor) ?_
   refine aN rfl rfl (by constructor) ?_
   refine aLd st 0 rfl rfl rfl (by constructor) ?_
   refine aN rfl rfl (by constructor) ?_
   refine aLd st 1 rfl rfl rfl (by constructor) ?_
   refine aBinV (.int .u8 32) rfl rfl (rfl) ?_
   refine aBld rfl (by repeat constructor) ?_
   refine ⟨?_, trivial⟩
   refine aLit st rfl (by repeat constructor) fun b122 H36 st => ?_
   refine ⟨⟨(h_Ld st 2 rfl rfl rfl (by constructor)), (h_Ld st 1 rfl rfl rfl (by constructor)), (h_Ld st 1 rfl rfl rfl (by constructor)), (h_Ld st 1 rfl rfl rfl (by constructor)), (h_Ld st 3 rfl rfl rfl (by constructor)), trivial⟩, ?_⟩
   refine ⟨?_, trivial⟩
   have st := st.nil 41
   have hnil : (Value.slice none 0 0) = accV none 0 8 := rfl
   refine aAppP st 0 (ob := none) (n := 0) rfl rfl rfl (by decide) (rfl) (st.rowAll 1 rfl (by first | rfl | (simp [beB_len, *]; done) | (simp [beB_len, *]; omega))).src (rfl) (by decide) (by decide) (by decide) (by repeat constructor) fun b123 H37 st => ?_
   refine ⟨⟨(h_Ld st 3 rfl rfl rfl (by constructor)), (h_Ld st 2 rfl rfl rfl (by constructor)), (h_Ld st 2 rfl rfl rfl (by constructor)), (h_Ld st 2 rfl rfl rfl (by constructor)), trivial⟩, ?_⟩
   iterate 2 refine aN rfl rfl (by constructor) ?_
   refine ⟨?_, trivial⟩
   refine aSt st 4 rfl rfl rfl rfl (by first | rfl | simp [cellsOf, *]) (by first | decide | (simp [*]; done) | (simp [k8]; done)) (by repeat constructor) fun H38 st => ?_
   refine ⟨trivial, ?_⟩
   refine pE ?_
   show AWl _ _ _ _ _
   iterate 3 refine aN rfl rfl (by constructor) ?_
   refine gT rfl ?_
   refine aN rfl rfl (by constructor) ?_
   refine gT rfl ?_
   refine aLd st 3 rfl rfl rfl (by constructor) ?_
   refine gT rfl ?_
   refine aN (v := .int .i64 (kn : Int)) rfl rfl (by constructor) ?_
   refine gT rfl ?_
   refine aN rfl rfl (by constructor) ?_
   refine gT rfl ?_
   refine aLd st 2 rfl rfl rfl (by constructor) ?_
   refine gT rfl ?_
   refine aBinV (.bool true) rfl rfl (eqT (by omega)) ?_
   refine aN rfl rfl (by constructor) ?_
   refine sE ?_
   show AW _ (.cond _ _ _) _ _ _
   refine cT rfl ?_
   show AWp _ _ _ _ _
   refine aLdA st 2 rfl rfl (by first | decide | simp [*]) (by repeat constructor) ?_
   refine aN rfl rfl (by constructor) ?_
   refine ⟨?_, trivial⟩
   refine aLit st rfl (by repeat constructor) fun b137 H39 st => ?_
   refine ⟨trivial, ?_⟩
   refine aN rfl rfl (by constructor) ?_
   refine pE ?_
   refine ⟨_, out2 (r_tmp rfl (by constructor)) (r_tmp rfl (by constructor)) ⟨rfl, rfl⟩, ?_⟩
   exact ⟨b137, b123, _, rfl, st.sel [5, 0, 1] (by decide)⟩
theorem do_wf {H : Hp} {b kn cx : Nat} {cmd stat tag n w1 w3 : Int} {hd : Value} {px : Option Addr} (hk : H.m b = some ⟨true, 64, [.string ⟨#[]⟩, .string ⟨#[116]⟩, .bool false, .bool false, .bool false, .int .i64 sg, .int .i64 bu, .int .i64 65536, .bool true, .bool true, .slice none 0 0, .int .u32 cmd, .int .u32 stat, .int .u32 tg, hd, .slice none 0 0, .bool false, .slice none 0 0]⟩) (hn : (kn : Int) = n ∧ n ≤ 65536) :
  ACalls Try.prog 23 [.pointer (some ⟨b, 0, none⟩), .agg #[.int .u8 1, .int .u8 161, .int .u8 0, .int .u8 0, .int .u8 0, .int .u32 tag, .int .u32 n, .int .u32 w1, .int .u32 0, .int .u32 w3, .int .u32 0, .int .u32 0, .int .u32 0, .slice px kn cx]] H (fun v H' => ∃ (c rb : Nat) (cdb : Value), v = .tuple #[.slice none 0 0, .slice (some ⟨c, 0, none⟩) 1 8] ∧ Stt [b] H H' [⟨some b, true, ⟨true, 64, [.string ⟨#[]⟩, .string ⟨#[116]⟩, .bool false, .bool false, .bool false, .int .i64 sg, .int .i64 bu, .int .i64 65536, .bool true, .bool true, .slice none 0 0, .int .u32 cmd, .int .u32 stat, .int .u32 tg, hd, .slice none 0 0, .bool false, .slice (some ⟨rb, 0, none⟩) 1 8]⟩⟩, ⟨some c, true, ⟨true, 41, [.int .u32 tag, .int .u8 0, .int .u8 0, cdb, .slice px kn cx, .int .i64 n, .int .u8 0, .int .u32 0]⟩⟩, ⟨some rb, true, ⟨true, 41, [.int .u32 tag, .int .u8 0, .int .u8 0, .slice none 0 0, .slice none 0 0, .int .i64 n, .int .u8 32, .int .u32 0]⟩⟩]) := by
 refine acallsW Try.func23 f23_ok (Nat.le_of_ble_eq_true rfl) fun hw => ?_
 have st : Stt [b] H H [] := Stt.start hw
 replace st := st.mine hk rfl (by simp) (by simp)
 unfold f23c
 show AWl _ _ _ _ _
 refine aBoxN st rfl rfl (by repeat constructor) rfl fun b3 H1 st => ?_
 iterate 2 refine aN rfl rfl (by constructor) ?_
 refine sE ?_
 show AWl _ _ _ _ _
 refine aN rfl rfl (by constructor) ?_
 refine aLd st 0 rfl rfl rfl (by constructor) ?_
 refine aBinV (.int .u8 1) rfl rfl (rfl) ?_
 refine sE ?_
 show AWl _ _ _ _ _
 refine aBinV (.bool false) rfl rfl rfl ?_
 refine aN rfl rfl (by constructor) ?_
 refine sE ?_
 show AW _ (.cond _ _ _) _ _ _
 refine cF' rfl ?_
 show AWl _ _ _ _ _
 refine aBinV (.bool false) rfl rfl rfl ?_
 refine aN rfl rfl (by constructor) ?_
 refine sE ?_
 show AW _ (.cond _ _ _) _ _ _
 refine cF' rfl ?_
 show AWl _ _ _ _ _
 refine aBinV (.bool false) rfl rfl rfl ?_
 refine aN rfl rfl (by constructor) ?_
 refine sE ?_
 show AW _ (.cond _ _ _) _ _ _
 refine cF' rfl ?_
 show AWl _ _ _ _ _
 refine aBinV (.bool false) rfl rfl rfl ?_
 refine aN rfl rfl (by constructor) ?_
 refine sE ?_
 show AW _ (.cond _ _ _) _ _ _
 refine cF' rfl ?_
 show AWl _ _ _ _ _
 refine aN rfl rfl (by constructor) ?_
 refine aLdA st 0 rfl rfl (by first | decide | simp [*]) (by repeat constructor) ?_
 refine aC (command_wf (st.get (j := 1) rfl) hn) fun v67 H2 ⟨c67, rb, cdb, hv, st1⟩ => ?_
 subst hv
 replace st := st.callX 1 rfl st1 rfl
 clear st1
 iterate 4 refine aN rfl rfl (by constructor) ?_
 refine sE ?_
 refine ⟨_, out2 (r_tmp rfl (by constructor)) (r_tmp rfl (by constructor)) ⟨rfl, rfl⟩, ?_⟩
 exact ⟨c67, rb, cdb, rfl, st.sel [0, 1, 2] (by decide)⟩
theorem in_wf {H : Hp} {b kn cx : Nat} {cmd stat tag n w3 : Int} {px : Option Addr} (hk : H.m b = some ⟨true, 64, [.string ⟨#[]⟩, .string ⟨#[116]⟩, .bool false, .bool false, .bool false, .int .i64 sg, .int .i64 bu, .int .i64 65536, .bool true, .bool true, .slice none 0 0, .int .u32 cmd, .int .u32 stat, .int .u32 tg, .slice none 0 0, .slice none 0 0, .bool false, .slice none 0 0]⟩) (hn : (kn : Int) = n ∧ n ≤ 65536) :
  ACalls Try.prog 13 [.pointer (some ⟨b, 0, none⟩), .agg #[.int .u8 1, .int .u8 161, .int .u8 0, .int .u8 0, .int .u8 0, .int .u32 tag, .int .u32 n, .int .u32 cmd, .int .u32 0, .int .u32 w3, .int .u32 0, .int .u32 0, .int .u32 0, .slice px kn cx]] H (fun v H' => ∃ (c rb : Nat) (cdb : Value), v = .tuple #[.slice none 0 0, .slice (some ⟨c, 0, none⟩) 1 8] ∧ Stt [b] H H' [⟨some b, true, ⟨true, 64, [.string ⟨#[]⟩, .string ⟨#[116]⟩, .bool false, .bool false, .bool false, .int .i64 sg, .int .i64 bu, .int .i64 65536, .bool true, .bool true, .slice none 0 0, .int .u32 (IntKind.u32.wrap (cmd + 1)), .int .u32 stat, .int .u32 tg, .slice none 0 0, .slice none 0 0, .bool false, .slice (some ⟨rb, 0, none⟩) 1 8]⟩⟩, ⟨some c, true, ⟨true, 41, [.int .u32 tag, .int .u8 0, .int .u8 0, cdb, .slice px kn cx, .int .i64 n, .int .u8 0, .int .u32 0]⟩⟩, ⟨some rb, true, ⟨true, 41, [.int .u32 tag, .int .u8 0, .int .u8 0, .slice none 0 0, .slice none 0 0, .int .i64 n, .int .u8 32, .int .u32 0]⟩⟩]) := by
 refine acallsW Try.func13 f13_ok (Nat.le_of_ble_eq_true rfl) fun hw => ?_
 have st : Stt [b] H H [] := Stt.start hw
 replace st := st.mine hk rfl (by simp) (by simp)
 unfold f13c
 show AWl _ _ _ _ _
 refine aBoxN st rfl rfl (by repeat constructor) rfl fun b3 H1 st => ?_
 iterate 2 refine aN rfl rfl (by constructor) ?_
 refine sE ?_
 show AWl _ _ _ _ _
 refine aN rfl rfl (by constructor) ?_
 refine aBinV (.bool false) rfl rfl rfl ?_
 refine aN rfl rfl (by constructor) ?_
 refine gT rfl ?_
 refine aN rfl rfl (by constructor) ?_
 refine gT rfl ?_
 refine aN rfl rfl (by constructor) ?_
 refine gT rfl ?_
 refine aN rfl rfl (by constructor) ?_
 refine gT rfl ?_
 refine aLd st 1 rfl rfl rfl (by constructor) ?_
 refine aN rfl rfl (by constructor) ?_
 refine sE ?_
 show AW _ (.cond _ _ _) _ _ _
 refine cF' rfl ?_
 show AWp _ _ _ _ _
 refine aN rfl rfl (by constructor) ?_
 refine aLd st 0 rfl rfl rfl (by constructor) ?_
 refine aBinV (.int .u8 1) rfl rfl (rfl) ?_
 refine aN rfl rfl (by constructor) ?_
 refine aLd st 0 rfl rfl rfl (by constructor) ?_
 refine aBinV (.int .u8 0) rfl rfl (rfl) ?_
 refine aBinV (.bool false) rfl rfl rfl ?_
 iterate 2 refine aN rfl rfl (by constructor) ?_
 refine pE ?_
 show AWl _ _ _ _ _
 refine aN rfl rfl (by constructor) ?_
 refine aBinV (.bool false) rfl rfl rfl ?_
 refine aN rfl rfl (by constructor) ?_
 refine sE ?_
 show AW _ (.cond _ _ _) _ _ _
 refine cF' rfl ?_
 show AWl _ _ _ _ _
 refine aN rfl rfl (by constructor) ?_
 refine aBinV (.bool true) rfl rfl rfl ?_
 refine aN rfl rfl (by constructor) ?_
 refine gT rfl ?_
 refine aN rfl rfl (by constructor) ?_
 refine gT rfl ?_
 refine aBinV (.bool false) rfl rfl rfl ?_
 iterate 2 refine aN rfl rfl (by constructor) ?_
 refine gF rfl (by decide) ?_
 refine gF rfl (by decide) ?_
 iterate 2 refine aN rfl rfl (by constructor) ?_
 refine gF rfl (by decide) ?_
 refine gF rfl (by decide) ?_
 iterate 2 refine aN rfl rfl (by constructor) ?_
 refine gF rfl (by decide) ?_
 refine gF rfl (by decide) ?_
 iterate 2 refine aN rfl rfl (by constructor) ?_
 refine gT rfl ?_
 refine aN rfl rfl (by constructor) ?_
 refine gT rfl ?_
 refine aLd st 0 rfl rfl rfl (by constructor) ?_
 refine gT rfl ?_
 refine aBinV (.int .u8 0) rfl rfl (rfl) ?_
 refine gT rfl ?_
 refine aBinV (.bool false) rfl rfl rfl ?_
 iterate 2 refine aN rfl rfl (by constructor) ?_
 refine sE ?_
 show AW _ (.cond _ _ _) _ _ _
 refine cF' rfl ?_
 show AWl _ _ _ _ _
 iterate 2 refine aN rfl rfl (by constructor) ?_
 refine sE ?_
 show AW _ (.cond _ _ _) _ _ _
 refine cF' rfl ?_
 show AWp _ _ _ _ _
 iterate 2 refine aN rfl rfl (by constructor) ?_
 refine aLd st 0 rfl rfl rfl (by constructor) ?_
 iterate 3 refine aN rfl rfl (by constructor) ?_
 refine aLd st 1 rfl rfl rfl (by constructor) ?_
 refine aBinV (.int .u32 0) rfl rfl (by show some (Value.int .u32 (IntKind.u32.wrap (cmd - cmd))) = _; rw [Int.sub_self]; rfl) ?_
 refine aBinV (.bool false) rfl rfl rfl ?_
 refine aN rfl rfl (by constructor) ?_
 refine pE ?_
 show AW _ (.cond _ _ _) _ _ _
 refine cF' rfl ?_
 show AWl _ _ _ _ _
 iterate 3 refine aN rfl rfl (by constructor) ?_
 refine aLd st 1 rfl rfl rfl (by constructor) ?_
 refine aN (v := .int .i64 0) rfl rfl (by constructor) ?_
 refine aN rfl rfl (by constructor) ?_
 refine sE ?_
 show AW _ (.loop _) _ _ _
 refine AW_loopN (fun m t1 H1 => m = 0 ∧ t1 89 = .int .i64 0 ∧ Stt [b] H H1 [⟨some b3, true, ⟨true, 37, [.int .u8 1, .int .u8 161, .int .u8 0, .int .u8 0, .int .u8 0, .int .u32 tag, .int .u32 n, .int .u32 cmd, .int .u32 0, .int .u32 w3, .int .u32 0, .int .u32 0, .int .u32 0, .slice px kn cx]⟩⟩, ⟨some b, true, ⟨true, 64, [.string ⟨#[]⟩, .string ⟨#[116]⟩, .bool false, .bool false, .bool false, .int .i64 sg, .int .i64 bu, .int .i64 65536, .bool true, .bool true, .slice none 0 0, .int .u32 cmd, .int .u32 stat, .int .u32 tg, .slice none 0 0, .slice none 0 0, .bool false, .slice none 0 0]⟩⟩]) 0 ⟨rfl, rfl, (st.sel [0, 1] (by decide))⟩ [4, 5, 9, 89, 90, 91, 92, 93, 94, 95, 96, 97, 98, 99, 100] (by decide) ?_
 rintro m t1 H1 hk hI
 obtain ⟨rfl, ht89, st⟩ := hI
 obtain ⟨u, rfl⟩ : ∃ u, t1 = (upd (mix [4, 5, 9, 89, 90, 91, 92, 93, 94, 95, 96, 97, 98, 99, 100] _ u) (some 89) _) := ⟨t1, by rw [← hk, upd_self ht89]⟩
 clear hk ht89
 show AWl _ _ _ _ _
 refine aBinV (.bool false) rfl rfl rfl ?_
 refine sE ?_
 show AW _ (.cond _ _ _) _ _ _
 refine cF' rfl ?_
 show AWp _ _ _ _ _
 iterate 4 refine aN rfl rfl (by constructor) ?_
 refine aLd st 1 rfl rfl rfl (by constructor) ?_
 refine aLdA st 0 rfl rfl (by first | decide | simp [*]) (by repeat constructor) ?_
 refine ⟨?_, trivial⟩
 refine aLit st rfl (by repeat constructor) fun b107 H2 st => ?_
 refine ⟨⟨(h_Ld st 2 rfl rfl rfl (by constructor)), trivial⟩, ?_⟩
 refine ⟨?_, trivial⟩
 have st := st.nil 37
 have hnil : (Value.slice none 0 0) = accV none 0 14 := rfl
 refine aAppP st 0 (ob := none) (n := 0) rfl rfl rfl (by decide) (rfl) (st.rowAll 1 rfl (by first | rfl | (simp [beB_len, *]; done) | (simp [beB_len, *]; omega))).src (rfl) (by decide) (by decide) (by decide) (by repeat constructor) fun b108 H3 st => ?_
 obtain ⟨bh, rfl⟩ : ∃ bh, bh = b108 := ⟨b108, rfl⟩
 refine ⟨⟨(h_LdA st 2 rfl rfl (by first | decide | simp [*]) (by repeat constructor)), trivial⟩, ?_⟩
 iterate 2 refine aN rfl rfl (by constructor) ?_
 refine ⟨?_, trivial⟩
 refine aSt st 3 rfl rfl rfl rfl (by first | rfl | simp [cellsOf, *]) (by first | decide | (simp [*]; done) | (simp [k8]; done)) (by repeat constructor) fun H4 st => ?_
 refine ⟨trivial, ?_⟩
 refine pE ?_
 show AWl _ _ _ _ _
 refine aN rfl rfl (by constructor) ?_
 refine sE ?_
 show AWl _ _ _ _ _
 refine aN rfl rfl (by constructor) ?_
 refine sE ?_
 show AW _ (.loop _) _ _ _
 refine AW_loopN (fun m t1 H1 => (m = 1 ∧ t1 10 = .slice none 0 0 ∧ t1 11 = .slice none 0 0 ∧ Stt [b] H H1 [⟨some b, true, ⟨true, 64, [.string ⟨#[]⟩, .string ⟨#[116]⟩, .bool false, .bool false, .bool false, .int .i64 sg, .int .i64 bu, .int .i64 65536, .bool true, .bool true, .slice none 0 0, .int .u32 cmd, .int .u32 stat, .int .u32 tg, .slice (some ⟨bh, 0, none⟩) 1 14, .slice none 0 0, .bool false, .slice none 0 0]⟩⟩, ⟨some bh, true, ⟨true, 37, [.int .u8 1, .int .u8 161, .int .u8 0, .int .u8 0, .int .u8 0, .int .u32 tag, .int .u32 n, .int .u32 cmd, .int .u32 0, .int .u32 w3, .int .u32 0, .int .u32 0, .int .u32 0, .slice px kn cx]⟩⟩]) ∨ (m = 0 ∧ ∃ (ct rb : Nat) (cdb : Value), t1 10 = .slice none 0 0 ∧ t1 11 = .slice (some ⟨ct, 0, none⟩) 1 8 ∧ Stt [b] H H1 [⟨some b, true, ⟨true, 64, [.string ⟨#[]⟩, .string ⟨#[116]⟩, .bool false, .bool false, .bool false, .int .i64 sg, .int .i64 bu, .int .i64 65536, .bool true, .bool true, .slice none 0 0, .int .u32 (IntKind.u32.wrap (cmd + 1)), .int .u32 stat, .int .u32 tg, .slice none 0 0, .slice none 0 0, .bool false, .slice (some ⟨rb, 0, none⟩) 1 8]⟩⟩, ⟨some ct, true, ⟨true, 41, [.int .u32 tag, .int .u8 0, .int .u8 0, cdb, .slice px kn cx, .int .i64 n, .int .u8 0, .int .u32 0]⟩⟩, ⟨some rb, true, ⟨true, 41, [.int .u32 tag, .int .u8 0, .int .u8 0, .slice none 0 0, .slice none 0 0, .int .i64 n, .int .u8 32, .int .u32 0]⟩⟩])) 1 (.inl ⟨rfl, rfl, rfl, (st.sel [3, 0] (by decide))⟩) [4, 5, 10, 11, 12, 13, 14, 15, 111, 112, 113, 114, 115, 116, 117, 118, 119, 120, 121, 122, 123, 124, 125, 126, 127, 128, 129, 130, 131, 132, 133, 134, 135, 136, 137, 138, 139, 140, 141, 142, 143, 144, 145, 146, 147, 148, 149, 150, 151, 152, 153, 154, 155, 156, 157, 158, 159, 160, 161, 162, 163, 164, 165] (by decide) ?_
 rintro m t1 H1 hk hI
 rcases hI with ⟨rfl, hI⟩ | ⟨rfl, hI⟩
 ·obtain ⟨ht10, ht11, st⟩ := hI
  obtain ⟨u, rfl⟩ : ∃ u, t1 = (upd (upd (mix [4, 5, 10, 11, 12, 13, 14, 15, 111, 112, 113, 114, 115, 116, 117, 118, 119, 120, 121, 122, 123, 124, 125, 126, 127, 128, 129, 130, 131, 132, 133, 134, 135, 136, 137, 138, 139, 140, 141, 142, 143, 144, 145, 146, 147, 148, 149, 150, 151, 152, 153, 154, 155, 156, 157, 158, 159, 160, 161, 162, 163, 164, 165] _ u) (some 10) _) (some 11) _) := ⟨t1, by rw [← hk, upd_self ht10, upd_self ht11]⟩
  clear hk ht10 ht11
  show AWl _ _ _ _ _
  iterate 3 refine aN rfl rfl (by constructor) ?_
  refine aLd st 0 rfl rfl rfl (by constructor) ?_
  refine aN (v := .int .i64 1) rfl rfl (by constructor) ?_
  refine aN rfl rfl (by constructor) ?_
  refine sE ?_
  show AW _ (.loop _) _ _ _
  refine AW_loopN (fun m t1 H1 => m = 0 ∧ t1 116 = .int .i64 0 ∧ t1 10 = .slice none 0 0 ∧ t1 11 = .slice none 0 0 ∧ Stt [b] H H1 [⟨some b, true, ⟨true, 64, [.string ⟨#[]⟩, .string ⟨#[116]⟩, .bool false, .bool false, .bool false, .int .i64 sg, .int .i64 bu, .int .i64 65536, .bool true, .bool true, .slice none 0 0, .int .u32 cmd, .int .u32 stat, .int .u32 tg, .slice (some ⟨bh, 0, none⟩) 1 14, .slice none 0 0, .bool false, .slice none 0 0]⟩⟩, ⟨some bh, true, ⟨true, 37, [.int .u8 1, .int .u8 161, .int .u8 0, .int .u8 0, .int .u8 0, .int .u32 tag, .int .u32 n, .int .u32 cmd, .int .u32 0, .int .u32 w3, .int .u32 0, .int .u32 0, .int .u32 0, .slice px kn cx]⟩⟩]) 0 ⟨rfl, rfl, rfl, rfl, (st.sel [0, 1] (by decide))⟩ [10, 11, 12, 13, 14, 15, 116, 117, 118, 119, 120, 121, 122, 123, 124, 125, 126, 127, 128, 129, 130, 131, 132, 133, 134, 135, 136, 137, 138, 139, 140, 141, 142, 143, 144, 145, 146, 147, 148, 149, 150, 151, 152, 153, 154, 155, 156, 157, 158, 159, 160, 161, 162, 163] (by decide) ?_
  rintro m t1 H1 hk hI
  obtain ⟨rfl, ht116, ht10, ht11, st⟩ := hI
  obtain ⟨u, rfl⟩ : ∃ u, t1 = (upd (upd (upd (mix [10, 11, 12, 13, 14, 15, 116, 117, 118, 119, 120, 121, 122, 123, 124, 125, 126, 127, 128, 129, 130, 131, 132, 133, 134, 135, 136, 137, 138, 139, 140, 141, 142, 143, 144, 145, 146, 147, 148, 149, 150, 151, 152, 153, 154, 155, 156, 157, 158, 159, 160, 161, 162, 163] _ u) (some 116) _) (some 10) _) (some 11) _) := ⟨t1, by rw [← hk, upd_self ht116, upd_self ht10, upd_self ht11]⟩
  clear hk ht116 ht10 ht11
  show AWl _ _ _ _ _
  refine aBinV (.bool true) rfl rfl rfl ?_
  refine sE ?_
  show AW _ (.cond _ _ _) _ _ _
  refine cT rfl ?_
  show AWl _ _ _ _ _
  iterate 2 refine aN rfl rfl (by constructor) ?_
  refine aLdA st 1 rfl rfl (by first | decide | simp [*]) (by repeat constructor) ?_
  refine aNewP st rfl rfl (by repeat constructor) fun b13 H5 st => ?_
  refine aN rfl rfl (by constructor) ?_
  refine aSt st 0 rfl rfl rfl rfl (by first | rfl | simp [cellsOf, *]) (by first | decide | (simp [*]; done) | (simp [k8]; done)) (by repeat constructor) fun H6 st => ?_
  refine sE ?_
  show AWp _ _ _ _ _
  iterate 2 refine aN rfl rfl (by constructor) ?_
  refine aLd st 0 rfl rfl rfl (by constructor) ?_
  iterate 3 refine aN rfl rfl (by constructor) ?_
  refine aLd st 1 rfl rfl rfl (by constructor) ?_
  refine aBinV (.bool false) rfl rfl (ne_int) ?_
  refine aN rfl rfl (by constructor) ?_
  refine gT rfl ?_
  refine aN rfl rfl (by constructor) ?_
  refine gT rfl ?_
  refine aN rfl rfl (by constructor) ?_
  refine gT rfl ?_
  refine aN rfl rfl (by constructor) ?_
  refine gT rfl ?_
  refine aLd st 1 rfl rfl rfl (by constructor) ?_
  refine aN rfl rfl (by constructor) ?_
  refine pE ?_
  show AW _ (.cond _ _ _) _ _ _
  refine cF' rfl ?_
  show AWl _ _ _ _ _
  iterate 4 refine aN rfl rfl (by constructor) ?_
  refine aLd st 1 rfl rfl rfl (by constructor) ?_
  refine aN rfl rfl (by constructor) ?_
  refine aC (without_call) fun v141 H7 ⟨hv, st1⟩ => ?_
  subst hv
  replace st := st.call st1 rfl
  clear st1
  iterate 2 refine aN rfl rfl (by constructor) ?_
  refine aSt st 1 rfl rfl rfl rfl (by first | rfl | simp [cellsOf, *]) (by first | decide | (simp [*]; done) | (simp [k8]; done)) (by repeat constructor) fun H8 st => ?_
  refine sE ?_
  show AWl _ _ _ _ _
  iterate 3 refine aN rfl rfl (by constructor) ?_
  refine aLd st 1 rfl rfl rfl (by constructor) ?_
  iterate 3 refine aN rfl rfl (by constructor) ?_
  refine aSt st 1 rfl rfl rfl rfl (by first | rfl | simp [cellsOf, *]) (by first | decide | (simp [*]; done) | (simp [k8]; done)) (by repeat constructor) fun H9 st => ?_
  refine sE ?_
  show AWl _ _ _ _ _
  refine aN rfl rfl (by constructor) ?_
  refine aLdA st 0 rfl rfl (by first | decide | simp [*]) (by repeat constructor) ?_
  refine aC (do_wf (st.get (j := 1) rfl) hn) fun v154 H10 ⟨c154, rb, cdb, hv, st1⟩ => ?_
  subst hv
  replace st := st.callX 1 rfl st1 rfl
  clear st1
  iterate 5 refine aN rfl rfl (by constructor) ?_
  refine sE ?_
  show AWl _ _ _ _ _
  iterate 2 refine aN rfl rfl (by constructor) ?_
  refine aN (v := .slice none 0 0) rfl rfl (by constructor) ?_
  iterate 2 refine aN rfl rfl (by constructor) ?_
  have st := st.nil 41
  have hnil : (Value.slice none 0 0) = accV none 0 8 := rfl
  refine aAppP st 0 (ob := none) (n := 0) rfl rfl rfl (by decide) (rfl) (st.rowAll 2 rfl (rfl)).src (rfl) (by decide) (by decide) (by decide) (by repeat constructor) fun b162 H11 st => ?_
  iterate 2 refine aN rfl rfl (by constructor) ?_
  refine sE ?_
  exact ⟨0, by decide, .inr ⟨rfl, b162, rb, cdb, rfl, rfl, (st.sel [1, 0, 3] (by decide))⟩⟩
 ·obtain ⟨ct, rb, cdb, ht10, ht11, st⟩ := hI
  obtain ⟨u, rfl⟩ : ∃ u, t1 = (upd (upd (mix [4, 5, 10, 11, 12, 13, 14, 15, 111, 112, 113, 114, 115, 116, 117, 118, 119, 120, 121, 122, 123, 124, 125, 126, 127, 128, 129, 130, 131, 132, 133, 134, 135, 136, 137, 138, 139, 140, 141, 142, 143, 144, 145, 146, 147, 148, 149, 150, 151, 152, 153, 154, 155, 156, 157, 158, 159, 160, 161, 162, 163, 164, 165] _ u) (some 10) _) (some 11) _) := ⟨t1, by rw [← hk, upd_self ht10, upd_self ht11]⟩
  clear hk ht10 ht11
  show AWl _ _ _ _ _
  iterate 3 refine aN rfl rfl (by constructor) ?_
  refine aLd st 0 rfl rfl rfl (by constructor) ?_
  refine aN (v := .int .i64 0) rfl rfl (by constructor) ?_
  refine aN rfl rfl (by constructor) ?_
  refine sE ?_
  show AW _ (.loop _) _ _ _
  refine AW_loopN (fun m t1 H1 => m = 0 ∧ t1 116 = .int .i64 0 ∧ t1 10 = .slice none 0 0 ∧ t1 11 = .slice (some ⟨ct, 0, none⟩) 1 8 ∧ Stt [b] H H1 [⟨some b, true, ⟨true, 64, [.string ⟨#[]⟩, .string ⟨#[116]⟩, .bool false, .bool false, .bool false, .int .i64 sg, .int .i64 bu, .int .i64 65536, .bool true, .bool true, .slice none 0 0, .int .u32 (IntKind.u32.wrap (cmd + 1)), .int .u32 stat, .int .u32 tg, .slice none 0 0, .slice none 0 0, .bool false, .slice (some ⟨rb, 0, none⟩) 1 8]⟩⟩, ⟨some ct, true, ⟨true, 41, [.int .u32 tag, .int .u8 0, .int .u8 0, cdb, .slice px kn cx, .int .i64 n, .int .u8 0, .int .u32 0]⟩⟩, ⟨some rb, true, ⟨true, 41, [.int .u32 tag, .int .u8 0, .int .u8 0, .slice none 0 0, .slice none 0 0, .int .i64 n, .int .u8 32, .int .u32 0]⟩⟩]) 0 ⟨rfl, rfl, rfl, rfl, (st.sel [0, 1, 2] (by decide))⟩ [10, 11, 12, 13, 14, 15, 116, 117, 118, 119, 120, 121, 122, 123, 124, 125, 126, 127, 128, 129, 130, 131, 132, 133, 134, 135, 136, 137, 138, 139, 140, 141, 142, 143, 144, 145, 146, 147, 148, 149, 150, 151, 152, 153, 154, 155, 156, 157, 158, 159, 160, 161, 162, 163] (by decide) ?_
  rintro m t1 H1 hk hI
  obtain ⟨rfl, ht116, ht10, ht11, st⟩ := hI
  obtain ⟨u, rfl⟩ : ∃ u, t1 = (upd (upd (upd (mix [10, 11, 12, 13, 14, 15, 116, 117, 118, 119, 120, 121, 122, 123, 124, 125, 126, 127, 128, 129, 130, 131, 132, 133, 134, 135, 136, 137, 138, 139, 140, 141, 142, 143, 144, 145, 146, 147, 148, 149, 150, 151, 152, 153, 154, 155, 156, 157, 158, 159, 160, 161, 162, 163] _ u) (some 116) _) (some 10) _) (some 11) _) := ⟨t1, by rw [← hk, upd_self ht116, upd_self ht10, upd_self ht11]⟩
  clear hk ht116 ht10 ht11
  show AWl _ _ _ _ _
  refine aBinV (.bool false) rfl rfl rfl ?_
  refine sE ?_
  show AW _ (.cond _ _ _) _ _ _
  refine cF' rfl ?_
  show AWl _ _ _ _ _
  iterate 4 refine aN rfl rfl (by constructor) ?_
  refine sE ?_
  refine ⟨_, out2 (r_tmp rfl (by constructor)) (r_tmp rfl (by constructor)) ⟨rfl, rfl⟩, ?_⟩
  exact ⟨ct, rb, cdb, rfl, st.sel [0, 1, 2] (by decide)⟩
end Go.Proofs.Ytloeadlmcdddnaa.Abs
