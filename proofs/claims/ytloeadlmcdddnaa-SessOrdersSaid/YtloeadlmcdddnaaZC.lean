/- Sessions: calls that write more than one block; what has begun. -/
import Derived.Test.YtloeadlmcdddnaaZ5
set_option linter.unusedVariables false
set_option linter.unusedSimpArgs false
set_option maxRecDepth 100000
namespace Go.Proofs.Ytloeadlmcdddnaa.Abs
open Go Go.RowKit
variable {tg sg bu : Int}
theorem Stt.callY {X Y : List Nat} {H0 H H' : Hp} {L L' L2 : List Ent} (st : Stt X H0 H L) (h : Stt Y H H' L') (ho : L'.all (·.ok) = true) (hY : ∀ c ∈ Y, ∃ p ∈ L, p.ok = true ∧ p.key = some c) (h2 : ∀ p ∈ L2, p ∈ L ∧ ∀ c ∈ Y, p.key ≠ some c) (hd : (L2.filterMap (·.key)).Nodup) : Stt X H0 H' (L' ++ L2) := by
  have hYo : ∀ c ∈ Y, H0.nx ≤ c ∨ c ∈ X := fun c hc => by
    obtain ⟨p, hp, hk, e⟩ := hY c hc
    exact (st.own p hp hk).2 c e
  have hnew : ∀ p ∈ L', ∀ c, p.key = some c → H.nx ≤ c ∨ c ∈ Y := fun p hp c hc => (h.own p hp (List.all_eq_true.1 ho p hp)).2 c hc
  refine ⟨st.wf0, h.wf, Nat.le_trans st.nx h.nx, fun c hc hx => ?_, fun p hp => ?_, fun p hp hok => ?_, ?_⟩
  · have := st.nx
    rw [h.frm c (by omega) ?_]
    · exact st.frm c hc hx
    · intro hcb
      rcases hYo c hcb with h1 | h1
      · omega
      · exact hx h1
  · rcases List.mem_append.1 hp with hp | hp
    · exact h.has p hp
    · obtain ⟨h1, h3⟩ := h2 p hp
      exact ⟨fun c hc => by rw [h.frm c (key_lt st h1 hc) (fun e => h3 c e hc)]; exact (st.has p h1).1 c hc, (st.has p h1).2⟩
  · rcases List.mem_append.1 hp with hp | hp
    · refine ⟨(h.own p hp hok).1, fun c hc => ?_⟩
      rcases hnew p hp c hc with h1 | h1
      · have := st.nx
        exact .inl (by omega)
      · exact hYo c h1
    · exact st.own p (h2 p hp).1 hok
  · rw [List.filterMap_append]
    refine nodup_app h.dis hd fun c hc hc' => ?_
    obtain ⟨p, hp, he⟩ := List.mem_filterMap.1 hc
    obtain ⟨q, hq, hf⟩ := List.mem_filterMap.1 hc'
    obtain ⟨h3, h4⟩ := h2 q hq
    rcases hnew p hp c he with h1 | h1
    · have := key_lt st h3 hf
      omega
    · exact h4 c h1 hf
theorem erase_ne {X : List Nat} {H0 H : Hp} {L : List Ent} (st : Stt X H0 H L) {i : Nat} {ob : Option Nat} {ok : Bool} {k : Blk} (hi : L[i]? = some ⟨ob, ok, k⟩) : ∀ p ∈ L.eraseIdx i, p ∈ L ∧ ∀ c ∈ ob.toList, p.key ≠ some c := fun p hp => by
  obtain ⟨m, hm, hpm⟩ := List.mem_eraseIdx_iff_getElem?.1 hp
  refine ⟨List.mem_of_getElem? hpm, fun c hc e => ?_⟩
  have hc : ob = some c := by simpa using hc
  exact hm (nodup_keys st.dis hpm hi e hc)
theorem Stt.erase {X : List Nat} {H0 H : Hp} {L : List Ent} (st : Stt X H0 H L) (i : Nat) : Stt X H0 H (L.eraseIdx i) := st.sub (fun p hp => (List.eraseIdx_sublist L i).subset hp) (List.Nodup.sublist ((List.eraseIdx_sublist L i).filterMap _) st.dis)
/-- A call that writes two blocks of ours. -/
theorem Stt.call2 {X : List Nat} {H0 H H' : Hp} {L L' : List Ent} {o1 o2 : Option Nat} {k1 k2 : Blk} (st : Stt X H0 H L) (i j : Nat) (hi : L[i]? = some ⟨o1, true, k1⟩) (hj : (L.eraseIdx i)[j]? = some ⟨o2, true, k2⟩) (h : Stt (o1.toList ++ o2.toList) H H' L') (ho : L'.all (·.ok) = true) : Stt X H0 H' (L' ++ (L.eraseIdx i).eraseIdx j) := by
  refine st.callY h ho (fun c hc => ?_) (fun p hp => ?_) (((st.erase i).erase j).dis)
  · rcases List.mem_append.1 hc with h1 | h1
    · exact ⟨_, List.mem_of_getElem? hi, rfl, by simpa using h1⟩
    · exact ⟨_, (erase_ne st hi _ (List.mem_of_getElem? hj)).1, rfl, by simpa using h1⟩
  · obtain ⟨h1, h2⟩ := erase_ne (st.erase i) hj p hp
    obtain ⟨h3, h4⟩ := erase_ne st hi p h1
    refine ⟨h3, fun c hc => ?_⟩
    rcases List.mem_append.1 hc with h5 | h5
    · exact h4 c h5
    · exact h2 c h5
/-- A call that writes three. -/
theorem Stt.call3 {X : List Nat} {H0 H H' : Hp} {L L' : List Ent} {o1 o2 o3 : Option Nat} {k1 k2 k3 : Blk} (st : Stt X H0 H L) (i j m : Nat) (hi : L[i]? = some ⟨o1, true, k1⟩) (hj : (L.eraseIdx i)[j]? = some ⟨o2, true, k2⟩) (hm : ((L.eraseIdx i).eraseIdx j)[m]? = some ⟨o3, true, k3⟩) (h : Stt (o1.toList ++ o2.toList ++ o3.toList) H H' L') (ho : L'.all (·.ok) = true) : Stt X H0 H' (L' ++ ((L.eraseIdx i).eraseIdx j).eraseIdx m) := by
  have e1 : ∀ p ∈ (L.eraseIdx i).eraseIdx j, p ∈ L ∧ ∀ c ∈ o1.toList ++ o2.toList, p.key ≠ some c := fun p hp => by
    obtain ⟨h1, h2⟩ := erase_ne (st.erase i) hj p hp
    obtain ⟨h3, h4⟩ := erase_ne st hi p h1
    refine ⟨h3, fun c hc => ?_⟩
    rcases List.mem_append.1 hc with h5 | h5
    · exact h4 c h5
    · exact h2 c h5
  refine st.callY h ho (fun c hc => ?_) (fun p hp => ?_) ((((st.erase i).erase j).erase m).dis)
  · rcases List.mem_append.1 hc with h0 | h1
    · rcases List.mem_append.1 h0 with h1 | h1
      · exact ⟨_, List.mem_of_getElem? hi, rfl, by simpa using h1⟩
      · exact ⟨_, (erase_ne st hi _ (List.mem_of_getElem? hj)).1, rfl, by simpa using h1⟩
    · exact ⟨_, (e1 _ (List.mem_of_getElem? hm)).1, rfl, by simpa using h1⟩
  · obtain ⟨h1, h2⟩ := erase_ne ((st.erase i).erase j) hm p hp
    obtain ⟨h3, h4⟩ := e1 p h1
    refine ⟨h3, fun c hc => ?_⟩
    rcases List.mem_append.1 hc with h5 | h5
    · exact h4 c h5
    · exact h2 c h5
theorem num3t_call {H : Hp} {b : Nat} {cmd stat op fl res sx lun tag : Int} {hd wr rd x : Value} {ov : Bool} (hk : H.m b = some ⟨true, 64, [.string ⟨#[]⟩, .string ⟨#[116]⟩, .bool false, .bool false, .bool false, .int .i64 sg, .int .i64 bu, .int .i64 65536, .bool true, .bool true, .slice none 0 0, .int .u32 cmd, .int .u32 stat, .int .u32 tg, hd, wr, .bool ov, rd]⟩) :
  ACalls Try.prog 26 [.pointer (some ⟨b, 0, none⟩), .agg #[.int .u8 op, .int .u8 fl, .int .u8 res, .int .u8 sx, .int .u8 lun, .int .u32 tag, .int .u32 0, .int .u32 0, .int .u32 0, .int .u32 0, .int .u32 0, .int .u32 0, .int .u32 0, x], .bool true] H (fun v H' => v = .agg #[.int .u8 op, .int .u8 fl, .int .u8 res, .int .u8 sx, .int .u8 lun, .int .u32 tag, .int .u32 0, .int .u32 stat, .int .u32 cmd, .int .u32 (IntKind.u32.wrap (IntKind.u32.wrap (cmd + 16) - 1)), .int .u32 0, .int .u32 0, .int .u32 0, x] ∧ Stt [b] H H' [⟨some b, true, ⟨true, 64, [.string ⟨#[]⟩, .string ⟨#[116]⟩, .bool false, .bool false, .bool false, .int .i64 sg, .int .i64 bu, .int .i64 65536, .bool true, .bool true, .slice none 0 0, .int .u32 cmd, .int .u32 (IntKind.u32.wrap (stat + 1)), .int .u32 tg, hd, wr, .bool ov, rd]⟩⟩]) := by
 refine acallsW Try.func26 f26_ok (Nat.le_of_ble_eq_true rfl) fun hw => ?_
 have st : Stt [b] H H [] := Stt.start hw
 replace st := st.mine hk rfl (by simp) (by simp)
 unfold f26c
 show AWl _ _ _ _ _
 refine aBoxN st rfl rfl (by repeat constructor) rfl fun b4 H1 st => ?_
 refine aNewP st rfl rfl (by repeat constructor) fun b6 H2 st => ?_
 refine sE ?_
 show AWp _ _ _ _ _
 iterate 3 refine aN rfl rfl (by constructor) ?_
 refine aLd st 2 rfl rfl rfl (by constructor) ?_
 iterate 3 refine aN rfl rfl (by constructor) ?_
 refine aLd st 2 rfl rfl rfl (by constructor) ?_
 iterate 3 refine aN rfl rfl (by constructor) ?_
 refine aLd st 2 rfl rfl rfl (by constructor) ?_
 iterate 6 refine aN rfl rfl (by constructor) ?_
 refine ⟨?_, trivial⟩
 refine aSt st 1 rfl rfl rfl rfl (by first | rfl | simp [cellsOf, *]) (by first | decide | (simp [*]; done) | (simp [k8]; done)) (by repeat constructor) fun H3 st => ?_
 refine ⟨⟨(h_Ld st 2 rfl rfl rfl (by constructor)), (h_Ld st 2 rfl rfl rfl (by constructor)), trivial⟩, ?_⟩
 refine aN rfl rfl (by constructor) ?_
 refine ⟨?_, trivial⟩
 refine aSt st 1 rfl rfl rfl rfl (by first | rfl | simp [cellsOf, *]) (by first | decide | (simp [*]; done) | (simp [k8]; done)) (by repeat constructor) fun H4 st => ?_
 refine ⟨⟨(h_Ld st 2 rfl rfl rfl (by constructor)), trivial⟩, ?_⟩
 refine aN rfl rfl (by constructor) ?_
 refine ⟨?_, trivial⟩
 refine aSt st 1 rfl rfl rfl rfl (by first | rfl | simp [cellsOf, *]) (by first | decide | (simp [*]; done) | (simp [k8]; done)) (by repeat constructor) fun H5 st => ?_
 refine ⟨trivial, ?_⟩
 refine pE ?_
 show AWl _ _ _ _ _
 refine aN rfl rfl (by constructor) ?_
 refine sE ?_
 show AW _ (.cond _ _ _) _ _ _
 refine cT rfl ?_
 show AWl _ _ _ _ _
 iterate 3 refine aN rfl rfl (by constructor) ?_
 refine aLd st 2 rfl rfl rfl (by constructor) ?_
 iterate 3 refine aN rfl rfl (by constructor) ?_
 refine aSt st 2 rfl rfl rfl rfl (by first | rfl | simp [cellsOf, *]) (by first | decide | (simp [*]; done) | (simp [k8]; done)) (by repeat constructor) fun H6 st => ?_
 refine sE ?_
 show AWl _ _ _ _ _
 refine aLdA st 1 rfl rfl (by first | decide | simp [*]) (by repeat constructor) ?_
 refine aSt st 0 rfl rfl rfl rfl (by first | rfl | simp [cellsOf, *]) (by first | decide | (simp [*]; done) | (simp [k8]; done)) (by repeat constructor) fun H7 st => ?_
 refine sE ?_
 refine ⟨_, out1 (r_cellA st 0 rfl rfl (by first | decide | simp [*]) (by repeat constructor)), ?_⟩
 exact ⟨rfl, st.sel [2] (by decide)⟩
theorem num3f_call {H : Hp} {b : Nat} {cmd stat op fl res sx lun tag : Int} {hd wr rd x : Value} {ov : Bool} (hk : H.m b = some ⟨true, 64, [.string ⟨#[]⟩, .string ⟨#[116]⟩, .bool false, .bool false, .bool false, .int .i64 sg, .int .i64 bu, .int .i64 65536, .bool true, .bool true, .slice none 0 0, .int .u32 cmd, .int .u32 stat, .int .u32 tg, hd, wr, .bool ov, rd]⟩) :
  ACalls Try.prog 26 [.pointer (some ⟨b, 0, none⟩), .agg #[.int .u8 op, .int .u8 fl, .int .u8 res, .int .u8 sx, .int .u8 lun, .int .u32 tag, .int .u32 0, .int .u32 0, .int .u32 0, .int .u32 0, .int .u32 0, .int .u32 0, .int .u32 0, x], .bool false] H (fun v H' => v = .agg #[.int .u8 op, .int .u8 fl, .int .u8 res, .int .u8 sx, .int .u8 lun, .int .u32 tag, .int .u32 0, .int .u32 stat, .int .u32 cmd, .int .u32 (IntKind.u32.wrap (IntKind.u32.wrap (cmd + 16) - 1)), .int .u32 0, .int .u32 0, .int .u32 0, x] ∧ Stt [] H H' []) := by
 refine acallsW Try.func26 f26_ok (Nat.le_of_ble_eq_true rfl) fun hw => ?_
 have st : Stt [] H H [] := Stt.start hw
 replace st := st.ro hk (by simp)
 unfold f26c
 show AWl _ _ _ _ _
 refine aBoxN st rfl rfl (by repeat constructor) rfl fun b4 H1 st => ?_
 refine aNewP st rfl rfl (by repeat constructor) fun b6 H2 st => ?_
 refine sE ?_
 show AWp _ _ _ _ _
 iterate 3 refine aN rfl rfl (by constructor) ?_
 refine aLd st 2 rfl rfl rfl (by constructor) ?_
 iterate 3 refine aN rfl rfl (by constructor) ?_
 refine aLd st 2 rfl rfl rfl (by constructor) ?_
 iterate 3 refine aN rfl rfl (by constructor) ?_
 refine aLd st 2 rfl rfl rfl (by constructor) ?_
 iterate 6 refine aN rfl rfl (by constructor) ?_
 refine ⟨?_, trivial⟩
 refine aSt st 1 rfl rfl rfl rfl (by first | rfl | simp [cellsOf, *]) (by first | decide | (simp [*]; done) | (simp [k8]; done)) (by repeat constructor) fun H3 st => ?_
 refine ⟨⟨(h_Ld st 2 rfl rfl rfl (by constructor)), (h_Ld st 2 rfl rfl rfl (by constructor)), trivial⟩, ?_⟩
 refine aN rfl rfl (by constructor) ?_
 refine ⟨?_, trivial⟩
 refine aSt st 1 rfl rfl rfl rfl (by first | rfl | simp [cellsOf, *]) (by first | decide | (simp [*]; done) | (simp [k8]; done)) (by repeat constructor) fun H4 st => ?_
 refine ⟨⟨(h_Ld st 2 rfl rfl rfl (by constructor)), trivial⟩, ?_⟩
 refine aN rfl rfl (by constructor) ?_
 refine ⟨?_, trivial⟩
 refine aSt st 1 rfl rfl rfl rfl (by first | rfl | simp [cellsOf, *]) (by first | decide | (simp [*]; done) | (simp [k8]; done)) (by repeat constructor) fun H5 st => ?_
 refine ⟨trivial, ?_⟩
 refine pE ?_
 show AWl _ _ _ _ _
 refine aN rfl rfl (by constructor) ?_
 refine sE ?_
 show AW _ (.cond _ _ _) _ _ _
 refine cF' rfl ?_
 show AWl _ _ _ _ _
 refine aLdA st 1 rfl rfl (by first | decide | simp [*]) (by repeat constructor) ?_
 refine aSt st 0 rfl rfl rfl rfl (by first | rfl | simp [cellsOf, *]) (by first | decide | (simp [*]; done) | (simp [k8]; done)) (by repeat constructor) fun H6 st => ?_
 refine sE ?_
 refine ⟨_, out1 (r_cellA st 0 rfl rfl (by first | decide | simp [*]) (by repeat constructor)), ?_⟩
 exact ⟨rfl, st.drop⟩
theorem without_task {H : Hp} {c : Nat}  :
  ACalls Try.prog 35 [.slice (some ⟨c, 0, none⟩) 1 8, .int .i64 0] H (fun v H' => v = .slice none 0 0 ∧ Stt [] H H' []) := by
 refine acallsW Try.func35 f35_ok (Nat.le_of_ble_eq_true rfl) fun hw => ?_
 have st : Stt [] H H [] := Stt.start hw
 unfold f35c
 show AWl _ _ _ _ _
 refine aN rfl rfl (by constructor) ?_
 refine sE ?_
 show AWp _ _ _ _ _
 iterate 2 refine aN rfl rfl (by constructor) ?_
 refine aN rfl rfl (.any _) ?_
 iterate 3 refine aN rfl rfl (by constructor) ?_
 refine aN rfl rfl (.any _) ?_
 refine ⟨?_, trivial⟩
 refine aN (v := .slice none 0 0) rfl rfl (by constructor) ?_
 refine ⟨trivial, ?_⟩
 refine ⟨?_, trivial⟩
 refine aN (v := .slice none 0 0) rfl rfl (by constructor) ?_
 refine ⟨trivial, ?_⟩
 refine aN rfl rfl (by constructor) ?_
 refine pE ?_
 refine ⟨_, out1 (r_tmp rfl (by constructor)), ?_⟩
 exact ⟨rfl, st.drop⟩
theorem without_write {H : Hp} {c : Nat}  :
  ACalls Try.prog 30 [.slice (some ⟨c, 0, none⟩) 1 12, .int .i64 0] H (fun v H' => v = .slice none 0 0 ∧ Stt [] H H' []) := by
 refine acallsW Try.func30 f30_ok (Nat.le_of_ble_eq_true rfl) fun hw => ?_
 have st : Stt [] H H [] := Stt.start hw
 unfold f30c
 show AWl _ _ _ _ _
 refine aN rfl rfl (by constructor) ?_
 refine sE ?_
 show AWp _ _ _ _ _
 iterate 2 refine aN rfl rfl (by constructor) ?_
 refine aN rfl rfl (.any _) ?_
 iterate 3 refine aN rfl rfl (by constructor) ?_
 refine aN rfl rfl (.any _) ?_
 refine ⟨?_, trivial⟩
 refine aN (v := .slice none 0 0) rfl rfl (by constructor) ?_
 refine ⟨trivial, ?_⟩
 refine ⟨?_, trivial⟩
 refine aN (v := .slice none 0 0) rfl rfl (by constructor) ?_
 refine ⟨trivial, ?_⟩
 refine aN rfl rfl (by constructor) ?_
 refine pE ?_
 refine ⟨_, out1 (r_tmp rfl (by constructor)), ?_⟩
 exact ⟨rfl, st.drop⟩
theorem begun_n {H : Hp} {b : Nat} {cmd stat tag : Int} {hd : Value} {ov : Bool} (hk : H.m b = some ⟨true, 64, [.string ⟨#[]⟩, .string ⟨#[116]⟩, .bool false, .bool false, .bool false, .int .i64 sg, .int .i64 bu, .int .i64 65536, .bool true, .bool true, .slice none 0 0, .int .u32 cmd, .int .u32 stat, .int .u32 tg, hd, .slice none 0 0, .bool ov, .slice none 0 0]⟩) :
  ACalls Try.prog 25 [.pointer (some ⟨b, 0, none⟩), .int .u32 tag] H (fun v H' => v = .tuple #[.agg #[.int .u32 0, .int .u8 0, .int .u8 0, .slice none 0 0, .slice none 0 0, .int .i64 0, .int .u8 0, .int .u32 0], .bool false] ∧ Stt [b] H H' [⟨some b, true, ⟨true, 64, [.string ⟨#[]⟩, .string ⟨#[116]⟩, .bool false, .bool false, .bool false, .int .i64 sg, .int .i64 bu, .int .i64 65536, .bool true, .bool true, .slice none 0 0, .int .u32 cmd, .int .u32 stat, .int .u32 tg, hd, .slice none 0 0, .bool ov, .slice none 0 0]⟩⟩]) := by
 refine acallsW Try.func25 f25_ok (Nat.le_of_ble_eq_true rfl) fun hw => ?_
 have st : Stt [b] H H [] := Stt.start hw
 replace st := st.mine hk rfl (by simp) (by simp)
 unfold f25c
 show AWl _ _ _ _ _
 refine aNewP st rfl rfl (by repeat constructor) fun b4 H1 st => ?_
 refine aN rfl rfl (by constructor) ?_
 refine sE ?_
 show AWl _ _ _ _ _
 refine aN rfl rfl (by constructor) ?_
 refine sE ?_
 show AWl _ _ _ _ _
 iterate 3 refine aN rfl rfl (by constructor) ?_
 refine aLd st 1 rfl rfl rfl (by constructor) ?_
 refine aN (v := .int .i64 0) rfl rfl (by constructor) ?_
 refine aN rfl rfl (by constructor) ?_
 refine sE ?_
 show AW _ (.loop _) _ _ _
 refine AW_loopN (fun m t1 H1 => m = 0 ∧ t1 16 = .int .i64 0 ∧ t1 6 = .slice none 0 0 ∧ Stt [b] H H1 [⟨some b4, true, ⟨true, 41, [.int .u32 0, .int .u8 0, .int .u8 0, .slice none 0 0, .slice none 0 0, .int .i64 0, .int .u8 0, .int .u32 0]⟩⟩, ⟨some b, true, ⟨true, 64, [.string ⟨#[]⟩, .string ⟨#[116]⟩, .bool false, .bool false, .bool false, .int .i64 sg, .int .i64 bu, .int .i64 65536, .bool true, .bool true, .slice none 0 0, .int .u32 cmd, .int .u32 stat, .int .u32 tg, hd, .slice none 0 0, .bool ov, .slice none 0 0]⟩⟩]) 0 ⟨rfl, rfl, rfl, (st.sel [0, 1] (by decide))⟩ [6, 8, 16, 17, 18, 19, 20, 21, 22, 23, 24, 25, 26, 27, 28, 29] (by decide) ?_
 rintro m t1 H1 hk hI
 obtain ⟨rfl, ht16, ht6, st⟩ := hI
 obtain ⟨u, rfl⟩ : ∃ u, t1 = (upd (upd (mix [6, 8, 16, 17, 18, 19, 20, 21, 22, 23, 24, 25, 26, 27, 28, 29] _ u) (some 16) _) (some 6) _) := ⟨t1, by rw [← hk, upd_self ht16, upd_self ht6]⟩
 clear hk ht16 ht6
 show AWl _ _ _ _ _
 refine aBinV (.bool false) rfl rfl rfl ?_
 refine sE ?_
 show AW _ (.cond _ _ _) _ _ _
 refine cF' rfl ?_
 show AWl _ _ _ _ _
 iterate 4 refine aN rfl rfl (by constructor) ?_
 refine aSt st 1 rfl rfl rfl rfl (by first | rfl | simp [cellsOf, *]) (by first | decide | (simp [*]; done) | (simp [k8]; done)) (by repeat constructor) fun H2 st => ?_
 refine sE ?_
 show AWl _ _ _ _ _
 iterate 3 refine aN rfl rfl (by constructor) ?_
 refine aLd st 1 rfl rfl rfl (by constructor) ?_
 refine aN (v := .int .i64 0) rfl rfl (by constructor) ?_
 refine aN rfl rfl (by constructor) ?_
 refine sE ?_
 show AW _ (.loop _) _ _ _
 refine AW_loopN (fun m t1 H1 => m = 0 ∧ t1 39 = .int .i64 0 ∧ t1 5 = .bool false ∧ Stt [b] H H1 [⟨some b4, true, ⟨true, 41, [.int .u32 0, .int .u8 0, .int .u8 0, .slice none 0 0, .slice none 0 0, .int .i64 0, .int .u8 0, .int .u32 0]⟩⟩, ⟨some b, true, ⟨true, 64, [.string ⟨#[]⟩, .string ⟨#[116]⟩, .bool false, .bool false, .bool false, .int .i64 sg, .int .i64 bu, .int .i64 65536, .bool true, .bool true, .slice none 0 0, .int .u32 cmd, .int .u32 stat, .int .u32 tg, hd, .slice none 0 0, .bool ov, .slice none 0 0]⟩⟩]) 0 ⟨rfl, rfl, rfl, (st.sel [0, 1] (by decide))⟩ [5, 9, 10, 39, 40, 41, 42, 43, 44, 45, 46, 47, 48, 49, 50, 51, 52, 53, 54, 55, 56, 57, 58] (by decide) ?_
 rintro m t1 H1 hk hI
 obtain ⟨rfl, ht39, ht5, st⟩ := hI
 obtain ⟨u, rfl⟩ : ∃ u, t1 = (upd (upd (mix [5, 9, 10, 39, 40, 41, 42, 43, 44, 45, 46, 47, 48, 49, 50, 51, 52, 53, 54, 55, 56, 57, 58] _ u) (some 39) _) (some 5) _) := ⟨t1, by rw [← hk, upd_self ht39, upd_self ht5]⟩
 clear hk ht39 ht5
 show AWl _ _ _ _ _
 refine aBinV (.bool false) rfl rfl rfl ?_
 refine sE ?_
 show AW _ (.cond _ _ _) _ _ _
 refine cF' rfl ?_
 show AWl _ _ _ _ _
 refine aBld rfl (by repeat constructor) ?_
 refine aSt st 0 rfl rfl rfl rfl (by first | rfl | simp [cellsOf, *]) (by first | decide | (simp [*]; done) | (simp [k8]; done)) (by repeat constructor) fun H3 st => ?_
 refine aN rfl rfl (by constructor) ?_
 refine sE ?_
 refine ⟨_, out2 (r_cellA st 0 rfl rfl (by first | decide | simp [*]) (by repeat constructor)) (r_tmp rfl (by constructor)) ⟨rfl, rfl⟩, ?_⟩
 exact ⟨rfl, st.sel [1] (by decide)⟩
theorem begun_r {H : Hp} {b rb : Nat} {cmd stat tag wt fu : Int} {hd : Value} {ov : Bool} (hk : H.m b = some ⟨true, 64, [.string ⟨#[]⟩, .string ⟨#[116]⟩, .bool false, .bool false, .bool false, .int .i64 sg, .int .i64 bu, .int .i64 65536, .bool true, .bool true, .slice none 0 0, .int .u32 cmd, .int .u32 stat, .int .u32 tg, hd, .slice none 0 0, .bool ov, .slice (some ⟨rb, 0, none⟩) 1 8]⟩) (hkr : H.m rb = some ⟨true, 41, [.int .u32 tag, .int .u8 0, .int .u8 0, .slice none 0 0, .slice none 0 0, .int .i64 wt, .int .u8 fu, .int .u32 0]⟩) (hr : rb ≠ b) :
  ACalls Try.prog 25 [.pointer (some ⟨b, 0, none⟩), .int .u32 tag] H (fun v H' => v = .tuple #[.agg #[.int .u32 tag, .int .u8 0, .int .u8 0, .slice none 0 0, .slice none 0 0, .int .i64 wt, .int .u8 fu, .int .u32 0], .bool true] ∧ Stt [b] H H' [⟨some b, true, ⟨true, 64, [.string ⟨#[]⟩, .string ⟨#[116]⟩, .bool false, .bool false, .bool false, .int .i64 sg, .int .i64 bu, .int .i64 65536, .bool true, .bool true, .slice none 0 0, .int .u32 cmd, .int .u32 stat, .int .u32 tg, hd, .slice none 0 0, .bool ov, .slice none 0 0]⟩⟩]) := by
 refine acallsW Try.func25 f25_ok (Nat.le_of_ble_eq_true rfl) fun hw => ?_
 have st : Stt [b] H H [] := Stt.start hw
 replace st := st.ro hkr (by simp)
 replace st := st.mine hk rfl (by simp) (by simp [hr])
 unfold f25c
 show AWl _ _ _ _ _
 refine aNewP st rfl rfl (by repeat constructor) fun b4 H1 st => ?_
 refine aN rfl rfl (by constructor) ?_
 refine sE ?_
 show AWl _ _ _ _ _
 refine aN rfl rfl (by constructor) ?_
 refine sE ?_
 show AWl _ _ _ _ _
 iterate 3 refine aN rfl rfl (by constructor) ?_
 refine aLd st 1 rfl rfl rfl (by constructor) ?_
 refine aN (v := .int .i64 0) rfl rfl (by constructor) ?_
 refine aN rfl rfl (by constructor) ?_
 refine sE ?_
 show AW _ (.loop _) _ _ _
 refine AW_loopN (fun m t1 H1 => m = 0 ∧ t1 16 = .int .i64 0 ∧ t1 6 = .slice none 0 0 ∧ Stt [b] H H1 [⟨some b4, true, ⟨true, 41, [.int .u32 0, .int .u8 0, .int .u8 0, .slice none 0 0, .slice none 0 0, .int .i64 0, .int .u8 0, .int .u32 0]⟩⟩, ⟨some b, true, ⟨true, 64, [.string ⟨#[]⟩, .string ⟨#[116]⟩, .bool false, .bool false, .bool false, .int .i64 sg, .int .i64 bu, .int .i64 65536, .bool true, .bool true, .slice none 0 0, .int .u32 cmd, .int .u32 stat, .int .u32 tg, hd, .slice none 0 0, .bool ov, .slice (some ⟨rb, 0, none⟩) 1 8]⟩⟩, ⟨some rb, false, ⟨true, 41, [.int .u32 tag, .int .u8 0, .int .u8 0, .slice none 0 0, .slice none 0 0, .int .i64 wt, .int .u8 fu, .int .u32 0]⟩⟩]) 0 ⟨rfl, rfl, rfl, (st.sel [0, 1, 2] (by decide))⟩ [6, 8, 16, 17, 18, 19, 20, 21, 22, 23, 24, 25, 26, 27, 28, 29] (by decide) ?_
 rintro m t1 H1 hk hI
 obtain ⟨rfl, ht16, ht6, st⟩ := hI
 obtain ⟨u, rfl⟩ : ∃ u, t1 = (upd (upd (mix [6, 8, 16, 17, 18, 19, 20, 21, 22, 23, 24, 25, 26, 27, 28, 29] _ u) (some 16) _) (some 6) _) := ⟨t1, by rw [← hk, upd_self ht16, upd_self ht6]⟩
 clear hk ht16 ht6
 show AWl _ _ _ _ _
 refine aBinV (.bool false) rfl rfl rfl ?_
 refine sE ?_
 show AW _ (.cond _ _ _) _ _ _
 refine cF' rfl ?_
 show AWl _ _ _ _ _
 iterate 4 refine aN rfl rfl (by constructor) ?_
 refine aSt st 1 rfl rfl rfl rfl (by first | rfl | simp [cellsOf, *]) (by first | decide | (simp [*]; done) | (simp [k8]; done)) (by repeat constructor) fun H2 st => ?_
 refine sE ?_
 show AWl _ _ _ _ _
 iterate 3 refine aN rfl rfl (by constructor) ?_
 refine aLd st 1 rfl rfl rfl (by constructor) ?_
 refine aN (v := .int .i64 1) rfl rfl (by constructor) ?_
 refine aN rfl rfl (by constructor) ?_
 refine sE ?_
 show AW _ (.loop _) _ _ _
 refine AW_loopN (fun m t1 H1 => m = 0 ∧ t1 39 = .int .i64 0 ∧ t1 5 = .bool false ∧ Stt [b] H H1 [⟨some b4, true, ⟨true, 41, [.int .u32 0, .int .u8 0, .int .u8 0, .slice none 0 0, .slice none 0 0, .int .i64 0, .int .u8 0, .int .u32 0]⟩⟩, ⟨some b, true, ⟨true, 64, [.string ⟨#[]⟩, .string ⟨#[116]⟩, .bool false, .bool false, .bool false, .int .i64 sg, .int .i64 bu, .int .i64 65536, .bool true, .bool true, .slice none 0 0, .int .u32 cmd, .int .u32 stat, .int .u32 tg, hd, .slice none 0 0, .bool ov, .slice (some ⟨rb, 0, none⟩) 1 8]⟩⟩, ⟨some rb, false, ⟨true, 41, [.int .u32 tag, .int .u8 0, .int .u8 0, .slice none 0 0, .slice none 0 0, .int .i64 wt, .int .u8 fu, .int .u32 0]⟩⟩]) 0 ⟨rfl, rfl, rfl, (st.sel [0, 1, 2] (by decide))⟩ [5, 9, 10, 39, 40, 41, 42, 43, 44, 45, 46, 47, 48, 49, 50, 51, 52, 53, 54, 55, 56, 57, 58] (by decide) ?_
 rintro m t1 H1 hk hI
 obtain ⟨rfl, ht39, ht5, st⟩ := hI
 obtain ⟨u, rfl⟩ : ∃ u, t1 = (upd (upd (mix [5, 9, 10, 39, 40, 41, 42, 43, 44, 45, 46, 47, 48, 49, 50, 51, 52, 53, 54, 55, 56, 57, 58] _ u) (some 39) _) (some 5) _) := ⟨t1, by rw [← hk, upd_self ht39, upd_self ht5]⟩
 clear hk ht39 ht5
 show AWl _ _ _ _ _
 refine aBinV (.bool true) rfl rfl rfl ?_
 refine sE ?_
 show AW _ (.cond _ _ _) _ _ _
 refine cT rfl ?_
 show AWl _ _ _ _ _
 iterate 2 refine aN rfl rfl (by constructor) ?_
 refine aLdA st 2 rfl rfl (by first | decide | simp [*]) (by repeat constructor) ?_
 refine aNewP st rfl rfl (by repeat constructor) fun b10 H3 st => ?_
 refine aN rfl rfl (by constructor) ?_
 refine aSt st 0 rfl rfl rfl rfl (by first | rfl | simp [cellsOf, *]) (by first | decide | (simp [*]; done) | (simp [k8]; done)) (by repeat constructor) fun H4 st => ?_
 refine sE ?_
 show AWl _ _ _ _ _
 refine aN rfl rfl (by constructor) ?_
 refine aLd st 0 rfl rfl rfl (by constructor) ?_
 refine aN rfl rfl (by constructor) ?_
 refine aBinV (.bool true) rfl rfl (eq_int) ?_
 refine sE ?_
 show AW _ (.cond _ _ _) _ _ _
 refine cT rfl ?_
 show AWl _ _ _ _ _
 iterate 4 refine aN rfl rfl (by constructor) ?_
 refine aLd st 2 rfl rfl rfl (by constructor) ?_
 refine aN rfl rfl (by constructor) ?_
 refine aC (without_task) fun v54 H5 ⟨hv, st1⟩ => ?_
 subst hv
 replace st := st.call st1 rfl
 clear st1
 iterate 2 refine aN rfl rfl (by constructor) ?_
 refine aSt st 2 rfl rfl rfl rfl (by first | rfl | simp [cellsOf, *]) (by first | decide | (simp [*]; done) | (simp [k8]; done)) (by repeat constructor) fun H6 st => ?_
 refine sE ?_
 show AWl _ _ _ _ _
 refine aLdA st 0 rfl rfl (by first | decide | simp [*]) (by repeat constructor) ?_
 refine aSt st 1 rfl rfl rfl rfl (by first | rfl | simp [cellsOf, *]) (by first | decide | (simp [*]; done) | (simp [k8]; done)) (by repeat constructor) fun H7 st => ?_
 refine aN rfl rfl (by constructor) ?_
 refine sE ?_
 refine ⟨_, out2 (r_cellA st 1 rfl rfl (by first | decide | simp [*]) (by repeat constructor)) (r_tmp rfl (by constructor)) ⟨rfl, rfl⟩, ?_⟩
 exact ⟨rfl, st.sel [2] (by decide)⟩
theorem begun_w {H : Hp} {b rb wb : Nat} {cmd stat tag wt fu rdy fr mo ak : Int} {hd cdb ow : Value} {ov : Bool} (hk : H.m b = some ⟨true, 64, [.string ⟨#[]⟩, .string ⟨#[116]⟩, .bool false, .bool false, .bool false, .int .i64 sg, .int .i64 bu, .int .i64 65536, .bool true, .bool true, .slice none 0 0, .int .u32 cmd, .int .u32 stat, .int .u32 tg, hd, .slice (some ⟨wb, 0, none⟩) 1 12, .bool ov, .slice (some ⟨rb, 0, none⟩) 1 8]⟩) (hkr : H.m rb = some ⟨true, 41, [.int .u32 tag, .int .u8 0, .int .u8 0, .slice none 0 0, .slice none 0 0, .int .i64 wt, .int .u8 fu, .int .u32 0]⟩) (hr : rb ≠ b) (hkw : H.m wb = some ⟨true, 76, [.int .u32 tag, .int .u8 0, .int .u8 0, cdb, ow, .int .i64 wt, .int .u8 0, .int .u32 0, .int .u32 rdy, .int .i64 fr, .int .i64 mo, .int .u32 ak]⟩) (hwb : wb ≠ b) (hwr : wb ≠ rb) :
  ACalls Try.prog 25 [.pointer (some ⟨b, 0, none⟩), .int .u32 tag] H (fun v H' => v = .tuple #[.agg #[.int .u32 tag, .int .u8 0, .int .u8 0, .slice none 0 0, .slice none 0 0, .int .i64 wt, .int .u8 fu, .int .u32 0], .bool true] ∧ Stt [b] H H' [⟨some b, true, ⟨true, 64, [.string ⟨#[]⟩, .string ⟨#[116]⟩, .bool false, .bool false, .bool false, .int .i64 sg, .int .i64 bu, .int .i64 65536, .bool true, .bool true, .slice none 0 0, .int .u32 cmd, .int .u32 stat, .int .u32 tg, hd, .slice none 0 0, .bool ov, .slice none 0 0]⟩⟩]) := by
 refine acallsW Try.func25 f25_ok (Nat.le_of_ble_eq_true rfl) fun hw => ?_
 have st : Stt [b] H H [] := Stt.start hw
 replace st := st.ro hkr (by simp)
 replace st := st.ro hkw (by simpa using hwr.symm)
 replace st := st.mine hk rfl (by simp) (by simp [hr, hwb])
 unfold f25c
 show AWl _ _ _ _ _
 refine aNewP st rfl rfl (by repeat constructor) fun b4 H1 st => ?_
 refine aN rfl rfl (by constructor) ?_
 refine sE ?_
 show AWl _ _ _ _ _
 refine aN rfl rfl (by constructor) ?_
 refine sE ?_
 show AWl _ _ _ _ _
 iterate 3 refine aN rfl rfl (by constructor) ?_
 refine aLd st 1 rfl rfl rfl (by constructor) ?_
 refine aN (v := .int .i64 1) rfl rfl (by constructor) ?_
 refine aN rfl rfl (by constructor) ?_
 refine sE ?_
 show AW _ (.loop _) _ _ _
 refine AW_loopN (fun m t1 H1 => ∃ (j : Nat), m = 1 - j ∧ (j ≤ 1) ∧ t1 16 = .int .i64 (j : Int) ∧ t1 6 = .slice none 0 0 ∧ Stt [b] H H1 [⟨some b4, true, ⟨true, 41, [.int .u32 0, .int .u8 0, .int .u8 0, .slice none 0 0, .slice none 0 0, .int .i64 0, .int .u8 0, .int .u32 0]⟩⟩, ⟨some b, true, ⟨true, 64, [.string ⟨#[]⟩, .string ⟨#[116]⟩, .bool false, .bool false, .bool false, .int .i64 sg, .int .i64 bu, .int .i64 65536, .bool true, .bool true, .slice none 0 0, .int .u32 cmd, .int .u32 stat, .int .u32 tg, hd, .slice (some ⟨wb, 0, none⟩) 1 12, .bool ov, .slice (some ⟨rb, 0, none⟩) 1 8]⟩⟩, ⟨some wb, false, ⟨true, 76, [.int .u32 tag, .int .u8 0, .int .u8 0, cdb, ow, .int .i64 wt, .int .u8 0, .int .u32 0, .int .u32 rdy, .int .i64 fr, .int .i64 mo, .int .u32 ak]⟩⟩, ⟨some rb, false, ⟨true, 41, [.int .u32 tag, .int .u8 0, .int .u8 0, .slice none 0 0, .slice none 0 0, .int .i64 wt, .int .u8 fu, .int .u32 0]⟩⟩]) 1 ⟨0, rfl, by omega, rfl, rfl, (st.sel [0, 1, 2, 3] (by decide))⟩ [6, 8, 16, 17, 18, 19, 20, 21, 22, 23, 24, 25, 26, 27, 28, 29] (by decide) ?_
 rintro m t1 H1 hk hI
 obtain ⟨j, rfl, hj, ht16, ht6, st⟩ := hI
 obtain ⟨u, rfl⟩ : ∃ u, t1 = (upd (upd (mix [6, 8, 16, 17, 18, 19, 20, 21, 22, 23, 24, 25, 26, 27, 28, 29] _ u) (some 16) _) (some 6) _) := ⟨t1, by rw [← hk, upd_self ht16, upd_self ht6]⟩
 clear hk ht16 ht6
 show AWl _ _ _ _ _
 refine aN rfl rfl (by constructor) ?_
 refine sE ?_
 show AW _ (.cond _ _ _) _ _ _
 refine cC' rfl (fun h2 => ?_) (fun h2 => ?_)
 ·have hj0 : j = 0 := by have := of_decide_eq_true h2; omega
  subst hj0
  show AWl _ _ _ _ _
  refine aN rfl rfl (by constructor) ?_
  refine aLdA st 2 rfl rfl (by first | decide | simp [*]) (by repeat constructor) ?_
  refine aNewP st rfl rfl (by repeat constructor) fun b8 H3 st => ?_
  refine aSt st 0 rfl rfl rfl rfl (by first | rfl | simp [cellsOf, *]) (by first | decide | (simp [*]; done) | (simp [k8]; done)) (by repeat constructor) fun H4 st => ?_
  refine sE ?_
  show AWl _ _ _ _ _
  iterate 2 refine aN rfl rfl (by constructor) ?_
  refine aLd st 0 rfl rfl rfl (by constructor) ?_
  refine aN rfl rfl (by constructor) ?_
  refine aBinV (.bool false) rfl rfl (ne_int) ?_
  refine sE ?_
  show AW _ (.cond _ _ _) _ _ _
  refine cF' rfl ?_
  show AWl _ _ _ _ _
  iterate 2 refine aN rfl rfl (by constructor) ?_
  refine sE ?_
  exact ⟨_, by decide, 1, rfl, by omega, rfl, rfl, (st.sel [1, 2, 3, 4] (by decide))⟩
 ·show AWl _ _ _ _ _
  iterate 4 refine aN rfl rfl (by constructor) ?_
  refine aSt st 1 rfl rfl rfl rfl (by first | rfl | simp [cellsOf, *]) (by first | decide | (simp [*]; done) | (simp [k8]; done)) (by repeat constructor) fun H5 st => ?_
  refine sE ?_
  show AWl _ _ _ _ _
  iterate 3 refine aN rfl rfl (by constructor) ?_
  refine aLd st 1 rfl rfl rfl (by constructor) ?_
  refine aN (v := .int .i64 1) rfl rfl (by constructor) ?_
  refine aN rfl rfl (by constructor) ?_
  refine sE ?_
  show AW _ (.loop _) _ _ _
  refine AW_loopN (fun m t1 H1 => m = 0 ∧ t1 39 = .int .i64 0 ∧ t1 5 = .bool false ∧ Stt [b] H H1 [⟨some b4, true, ⟨true, 41, [.int .u32 0, .int .u8 0, .int .u8 0, .slice none 0 0, .slice none 0 0, .int .i64 0, .int .u8 0, .int .u32 0]⟩⟩, ⟨some b, true, ⟨true, 64, [.string ⟨#[]⟩, .string ⟨#[116]⟩, .bool false, .bool false, .bool false, .int .i64 sg, .int .i64 bu, .int .i64 65536, .bool true, .bool true, .slice none 0 0, .int .u32 cmd, .int .u32 stat, .int .u32 tg, hd, .slice none 0 0, .bool ov, .slice (some ⟨rb, 0, none⟩) 1 8]⟩⟩, ⟨some wb, false, ⟨true, 76, [.int .u32 tag, .int .u8 0, .int .u8 0, cdb, ow, .int .i64 wt, .int .u8 0, .int .u32 0, .int .u32 rdy, .int .i64 fr, .int .i64 mo, .int .u32 ak]⟩⟩, ⟨some rb, false, ⟨true, 41, [.int .u32 tag, .int .u8 0, .int .u8 0, .slice none 0 0, .slice none 0 0, .int .i64 wt, .int .u8 fu, .int .u32 0]⟩⟩]) 0 ⟨rfl, rfl, rfl, (st.sel [0, 1, 2, 3] (by decide))⟩ [5, 9, 10, 39, 40, 41, 42, 43, 44, 45, 46, 47, 48, 49, 50, 51, 52, 53, 54, 55, 56, 57, 58] (by decide) ?_
  rintro m t1 H1 hk hI
  obtain ⟨rfl, ht39, ht5, st⟩ := hI
  obtain ⟨u, rfl⟩ : ∃ u, t1 = (upd (upd (mix [5, 9, 10, 39, 40, 41, 42, 43, 44, 45, 46, 47, 48, 49, 50, 51, 52, 53, 54, 55, 56, 57, 58] _ u) (some 39) _) (some 5) _) := ⟨t1, by rw [← hk, upd_self ht39, upd_self ht5]⟩
  clear hk ht39 ht5
  show AWl _ _ _ _ _
  refine aBinV (.bool true) rfl rfl rfl ?_
  refine sE ?_
  show AW _ (.cond _ _ _) _ _ _
  refine cT rfl ?_
  show AWl _ _ _ _ _
  iterate 2 refine aN rfl rfl (by constructor) ?_
  refine aLdA st 3 rfl rfl (by first | decide | simp [*]) (by repeat constructor) ?_
  refine aNewP st rfl rfl (by repeat constructor) fun b10 H6 st => ?_
  refine aN rfl rfl (by constructor) ?_
  refine aSt st 0 rfl rfl rfl rfl (by first | rfl | simp [cellsOf, *]) (by first | decide | (simp [*]; done) | (simp [k8]; done)) (by repeat constructor) fun H7 st => ?_
  refine sE ?_
  show AWl _ _ _ _ _
  refine aN rfl rfl (by constructor) ?_
  refine aLd st 0 rfl rfl rfl (by constructor) ?_
  refine aN rfl rfl (by constructor) ?_
  refine aBinV (.bool true) rfl rfl (eq_int) ?_
  refine sE ?_
  show AW _ (.cond _ _ _) _ _ _
  refine cT rfl ?_
  show AWl _ _ _ _ _
  iterate 4 refine aN rfl rfl (by constructor) ?_
  refine aLd st 2 rfl rfl rfl (by constructor) ?_
  refine aN rfl rfl (by constructor) ?_
  refine aC (without_task) fun v54 H8 ⟨hv, st1⟩ => ?_
  subst hv
  replace st := st.call st1 rfl
  clear st1
  iterate 2 refine aN rfl rfl (by constructor) ?_
  refine aSt st 2 rfl rfl rfl rfl (by first | rfl | simp [cellsOf, *]) (by first | decide | (simp [*]; done) | (simp [k8]; done)) (by repeat constructor) fun H9 st => ?_
  refine sE ?_
  show AWl _ _ _ _ _
  refine aLdA st 0 rfl rfl (by first | decide | simp [*]) (by repeat constructor) ?_
  refine aSt st 1 rfl rfl rfl rfl (by first | rfl | simp [cellsOf, *]) (by first | decide | (simp [*]; done) | (simp [k8]; done)) (by repeat constructor) fun H10 st => ?_
  refine aN rfl rfl (by constructor) ?_
  refine sE ?_
  refine ⟨_, out2 (r_cellA st 1 rfl rfl (by first | decide | simp [*]) (by repeat constructor)) (r_tmp rfl (by constructor)) ⟨rfl, rfl⟩, ?_⟩
  exact ⟨rfl, st.sel [2] (by decide)⟩
end Go.Proofs.Ytloeadlmcdddnaa.Abs
