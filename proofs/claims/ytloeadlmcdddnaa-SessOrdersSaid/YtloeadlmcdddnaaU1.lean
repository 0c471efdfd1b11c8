/- PDUs: bytes. -/
import Derived.Test.YtloeadlmcdddnaaU0
set_option linter.unusedVariables false
set_option linter.unusedSimpArgs false
set_option maxRecDepth 100000
namespace Go.Proofs.Ytloeadlmcdddnaa.Abs
open Go Go.RowKit
theorem pad_call {H : Hp} {n : Nat} (hn : n ≤ 140737488351232) :
  ACalls Try.prog 39 [.int .i64 (n : Int)] H (fun v H' => v = .int .i64 (padN n) ∧ Stt [] H H' []) := by
 refine acallsW Try.func39 f39_ok (Nat.le_of_ble_eq_true rfl) fun hw => ?_
 have st : Stt [] H H [] := Stt.start hw
 unfold f39c
 show AWl _ _ _ _ _
 refine aN rfl rfl (by constructor) ?_
 refine sE ?_
 show AWl _ _ _ _ _
 iterate 2 refine aN rfl rfl (by constructor) ?_
 refine sE ?_
 show AW _ (.cond _ _ _) _ _ _
 refine cC' rfl (fun h1 => ?_) (fun h1 => ?_)
 ·show AWl _ _ _ _ _
  refine aN rfl rfl (by constructor) ?_
  refine sE ?_
  refine ⟨_, out1 (r_tmp rfl (by constructor)), ?_⟩
  have hq := of_decide_eq_true h1
  obtain rfl : n = 0 := by omega
  exact ⟨rfl, st.drop⟩
 ·show AWl _ _ _ _ _
  iterate 5 refine aN rfl rfl (by constructor) ?_
  refine sE ?_
  refine ⟨_, out1 (r_tmp rfl (by constructor)), ?_⟩
  have hq := of_decide_eq_false h1
  refine ⟨congrArg (Value.int .i64) ?_, st.drop⟩
  have e1 : ((n : Int)).tmod 4 = n % 4 := Int.tmod_eq_emod_of_nonneg (by omega)
  rw [e1, wi _ (by omega), Int.tmod_eq_emod_of_nonneg (by omega)]; unfold padN; omega
theorem wu {n : Int} (h : 0 ≤ n ∧ n < 18446744073709551616) : IntKind.u64.wrap n = n := by rw [w64]; omega
theorem enc_call {H : Hp} {p : Pd} {x : Value} {hd dt : Bool} (hp : p.wf) (hx : Sl H 1 p.data.length (p.data.map (Value.int .u8)) x) :
  ACalls Try.prog 31 [.agg #[.int .u8 p.op, .int .u8 p.fl, .int .u8 p.res, .int .u8 p.st, .int .u8 p.lun, .int .u32 p.tag, .int .u32 p.w0, .int .u32 p.w1, .int .u32 p.w2, .int .u32 p.w3, .int .u32 p.w4, .int .u32 p.w5, .int .u32 p.w6, x], .bool hd, .bool dt] H (fun v H' => ∃ ob, v = .tuple #[accV ob (encR p hd dt).length 1, .int .i64 (encE p)] ∧ Stt [] H H' [⟨ob, true, ⟨true, 5, (encR p hd dt).map (Value.int .u8)⟩⟩]) := by
 refine acallsW Try.func31 f31_ok (Nat.le_of_ble_eq_true rfl) fun hw => ?_
 have st : Stt [] H H [] := Stt.start hw
 have hdl := hp.2.2.2.2
 unfold f31c
 show AWl _ _ _ _ _
 refine aBoxN st rfl rfl (by repeat constructor) rfl fun b3 H1 st => ?_
 iterate 2 refine aN rfl rfl (by constructor) ?_
 refine sE ?_
 show AWl _ _ _ _ _
 refine aN rfl rfl (by constructor) ?_
 refine aLdQ st 0 rfl rfl rfl (rfl : x = _) ?_
 refine aLen (st.slc hx) rfl ?_
 refine aN rfl rfl (by constructor) ?_
 refine sE ?_
 show AW _ (.cond _ _ _) _ _ _
 refine cC' rfl (fun h2 => ?_) (fun h2 => ?_)
 ·have h8 : (p.data.length > 8192) := by have := of_decide_eq_true h2; omega
  show AWl _ _ _ _ _
  iterate 2 refine aN rfl rfl (by constructor) ?_
  refine sE ?_
  refine ⟨_, out2 (r_tmp rfl (by constructor)) (r_tmp rfl (by constructor)) ⟨rfl, rfl⟩, ?_⟩
  have eR : encR p hd dt = [] := if_pos h8
  have eE : encE p = 2 := if_pos h8
  exact ⟨none, by rw [eR, eE]; rfl, by rw [eR]; exact (st.nil 5).pick 0 rfl⟩
 ·have h8 : ¬ (p.data.length > 8192) := by have := of_decide_eq_false h2; omega
  have ht := hp.2.1; unfold B32 at ht; have ⟨hpb, _⟩ := hp; unfold B8 at hpb
  show AWl _ _ _ _ _
  refine aNewS st rfl rfl (by repeat constructor) fun b16 H3 st => ?_
  refine aN rfl rfl (by constructor) ?_
  refine sE ?_
  show AWp _ _ _ _ _
  iterate 6 refine aN rfl rfl (by constructor) ?_
  refine aLd st 1 rfl rfl rfl (by constructor) ?_
  refine aN rfl rfl (by constructor) ?_
  refine aLd st 1 rfl rfl rfl (by constructor) ?_
  refine aN rfl rfl (by constructor) ?_
  refine aLd st 1 rfl rfl rfl (by constructor) ?_
  refine aN rfl rfl (by constructor) ?_
  refine aLd st 1 rfl rfl rfl (by constructor) ?_
  refine aN rfl rfl (by constructor) ?_
  refine aLd st 1 rfl rfl rfl (by constructor) ?_
  refine aN rfl rfl (by constructor) ?_
  refine ⟨?_, trivial⟩
  refine aSt st 0 rfl rfl rfl rfl (by first | rfl | simp [cellsOf, *]) (by first | decide | (simp [*]; done) | (simp [k8]; done)) (by repeat constructor) fun H4 st => ?_
  refine ⟨⟨(h_Ld st 1 rfl rfl rfl (by constructor)), (h_Ld st 1 rfl rfl rfl (by constructor)), (h_Ld st 1 rfl rfl rfl (by constructor)), (h_Ld st 1 rfl rfl rfl (by constructor)), trivial⟩, ?_⟩
  refine aN rfl rfl (by constructor) ?_
  refine ⟨?_, trivial⟩
  refine aSt st 0 rfl rfl rfl rfl (by first | rfl | simp [cellsOf, *]) (by first | decide | (simp [*]; done) | (simp [k8]; done)) (by repeat constructor) fun H5 st => ?_
  refine ⟨⟨(h_Ld st 1 rfl rfl rfl (by constructor)), (h_Ld st 1 rfl rfl rfl (by constructor)), (h_Ld st 1 rfl rfl rfl (by constructor)), trivial⟩, ?_⟩
  refine aN rfl rfl (by constructor) ?_
  refine ⟨?_, trivial⟩
  refine aSt st 0 rfl rfl rfl rfl (by first | rfl | simp [cellsOf, *]) (by first | decide | (simp [*]; done) | (simp [k8]; done)) (by repeat constructor) fun H6 st => ?_
  refine ⟨⟨(h_Ld st 1 rfl rfl rfl (by constructor)), (h_Ld st 1 rfl rfl rfl (by constructor)), trivial⟩, ?_⟩
  refine aN rfl rfl (by constructor) ?_
  refine ⟨?_, trivial⟩
  refine aSt st 0 rfl rfl rfl rfl (by first | rfl | simp [cellsOf, *]) (by first | decide | (simp [*]; done) | (simp [k8]; done)) (by repeat constructor) fun H7 st => ?_
  refine ⟨⟨(h_Ld st 1 rfl rfl rfl (by constructor)), trivial⟩, ?_⟩
  refine aN rfl rfl (by constructor) ?_
  refine ⟨?_, trivial⟩
  refine aSt st 0 rfl rfl rfl rfl (by first | rfl | simp [cellsOf, *]) (by first | decide | (simp [*]; done) | (simp [k8]; done)) (by repeat constructor) fun H8 st => ?_
  refine ⟨trivial, ?_⟩
  refine pE ?_
  show AWl _ _ _ _ _
  iterate 2 refine aN rfl rfl (by constructor) ?_
  refine aLdQ st 1 rfl rfl rfl (rfl : x = _) ?_
  refine aLen (st.slc hx) rfl ?_
  refine aN rfl rfl (by constructor) ?_
  have st := st.toI 0 rfl rfl (by repeat constructor)
  refine aC (put_call (st.rowAll 0 rfl rfl) (by obtain ⟨⟨⟨_, _⟩, ⟨_, _⟩, ⟨_, _⟩, ⟨_, _⟩, _, _⟩, _⟩ := hp; simp only [byteL_cons, byteL_nil, and_true]; (repeat' apply And.intro); all_goals first | decide | omega) (by simp) (by simp) (by rw [wu (by omega)]; exact ⟨by omega, by rw [show (256 : Int) ^ (3 : Int).toNat = 16777216 by decide]; omega⟩)) fun v43 H9 ⟨b43, hv, st1⟩ => ?_
  subst hv
  replace st := st.call st1 rfl
  clear st1
  rw [wu (by omega)] at st
  have e1 : ∀ q : List Int, q = [p.op, p.fl, p.res, p.st, 0] ++ beB 3 p.data.length ++ [0, p.lun] ++ List.replicate 38 (0 : Int) → (q.length = 48 ∧ ByteL q) := fun q hq => by subst hq; obtain ⟨⟨⟨_, _⟩, ⟨_, _⟩, ⟨_, _⟩, ⟨_, _⟩, _, _⟩, _⟩ := hp; refine ⟨by simp [beB_len], (((ByteL.app ?_ (beB_bytes _ _)).app ?_).app (zeros_bytes _))⟩ <;> (simp only [byteL_cons, byteL_nil, and_true]; (repeat' apply And.intro); all_goals first | decide | omega)
  obtain ⟨q, hq⟩ : ∃ q, q = [p.op, p.fl, p.res, p.st, 0] ++ beB 3 p.data.length ++ [0, p.lun] ++ List.replicate 38 (0 : Int) := ⟨_, rfl⟩
  obtain ⟨q1, q2⟩ := e1 q hq
  rw [show ([p.op, p.fl, p.res, p.st, 0, 0, 0, 0, 0, p.lun, 0, 0, 0, 0, 0, 0, 0, 0, 0, 0, 0, 0, 0, 0, 0, 0, 0, 0, 0, 0, 0, 0, 0, 0, 0, 0, 0, 0, 0, 0, 0, 0, 0, 0, 0, 0, 0, 0] : List Int).take (5 : Int).toNat ++ beB (3 : Int).toNat (p.data.length : Int) ++ ([p.op, p.fl, p.res, p.st, 0, 0, 0, 0, 0, p.lun, 0, 0, 0, 0, 0, 0, 0, 0, 0, 0, 0, 0, 0, 0, 0, 0, 0, 0, 0, 0, 0, 0, 0, 0, 0, 0, 0, 0, 0, 0, 0, 0, 0, 0, 0, 0, 0, 0] : List Int).drop ((5 : Int).toNat + (3 : Int).toNat) = q by rw [hq]; rfl] at st
  iterate 4 refine aN rfl rfl (by constructor) ?_
  refine sE ?_
  show AWl _ _ _ _ _
  iterate 2 refine aN rfl rfl (by constructor) ?_
  refine aLd st 2 rfl rfl rfl (by constructor) ?_
  refine aN rfl rfl (by constructor) ?_
  refine aC (put_call (xs := q) (by rw [q1]; exact st.rowAll 0 rfl (by rw [List.length_map, q1])) q2 (by omega) (by rw [q1]; decide) (by rw [wu (by omega)]; exact ⟨ht.1, by rw [show (256 : Int) ^ (4 : Int).toNat = 4294967296 by decide]; exact ht.2⟩)) fun v51 H10 ⟨b51, hv, st1⟩ => ?_
  subst hv
  replace st := st.call st1 rfl
  clear st1
  rw [wu (by omega)] at st
  rw [show q.take (16 : Int).toNat ++ beB (4 : Int).toNat p.tag ++ q.drop ((16 : Int).toNat + (4 : Int).toNat) = headL p 0 by rw [hq]; rfl] at st
  rw [q1]
  iterate 4 refine aN rfl rfl (by constructor) ?_
  refine sE ?_
  show AWl _ _ _ _ _
  refine aN rfl rfl (by constructor) ?_
  refine aLdA st 3 rfl rfl (by first | decide | simp [*]) (by repeat constructor) ?_
  refine aN rfl rfl (by constructor) ?_
  refine sE ?_
  show AW _ (.loop _) _ _ _
  refine AW_loopN (fun m t1 H1 => ∃ (j : Nat) (b : Nat), m = 7 - j ∧ (j ≤ 7) ∧ t1 8 = .slice (some ⟨b, 0, none⟩) 48 1 ∧ t1 56 = .int .i64 (j : Int) ∧ Stt [] H H1 [⟨some b, true, ⟨true, 5, (headL p j).map (Value.int .u8)⟩⟩, ⟨some b3, true, ⟨true, 37, [.int .u8 p.op, .int .u8 p.fl, .int .u8 p.res, .int .u8 p.st, .int .u8 p.lun, .int .u32 p.tag, .int .u32 p.w0, .int .u32 p.w1, .int .u32 p.w2, .int .u32 p.w3, .int .u32 p.w4, .int .u32 p.w5, .int .u32 p.w6, x]⟩⟩]) (7 - 0) ⟨0, b51, rfl, by omega, rfl, rfl, (st.sel [0, 3] (by decide))⟩ [8, 9, 10, 56, 57, 58, 59, 60, 61, 62, 63, 64, 65, 66, 67, 68, 69, 70] (by decide) ?_
  rintro m t1 H1 hk hI
  obtain ⟨j, b, rfl, hj, ht8, ht56, st⟩ := hI
  obtain ⟨u, rfl⟩ : ∃ u, t1 = (upd (upd (mix [8, 9, 10, 56, 57, 58, 59, 60, 61, 62, 63, 64, 65, 66, 67, 68, 69, 70] _ u) (some 8) _) (some 56) _) := ⟨t1, by rw [← hk, upd_self ht8, upd_self ht56]⟩
  clear hk ht8 ht56
  show AWl _ _ _ _ _
  refine aN rfl rfl (by constructor) ?_
  refine sE ?_
  show AW _ (.cond _ _ _) _ _ _
  refine cC' rfl (fun h11 => ?_) (fun h11 => ?_)
  ·have hlt : j < 7 := by have := of_decide_eq_true h11; omega
   have hwj := hp.2.2.1 _ (ws_getD p j hlt); unfold B32 at hwj
   show AWl _ _ _ _ _
   refine aN rfl rfl (by constructor) ?_
   refine aIdxA rfl rfl hlt (ws_at p hlt) ?_
   iterate 2 refine aN rfl rfl (by constructor) ?_
   refine sE ?_
   show AWl _ _ _ _ _
   iterate 6 refine aN rfl rfl (by constructor) ?_
   refine aC (put_call (xs := headL p j) (by rw [headL_len p (by omega)]; exact st.rowAll 0 rfl (by rw [List.length_map, headL_len p (by omega)])) (headL_bytes hp j) (by rw [headL_len p (by omega)]; omega) (by rw [headL_len p (by omega), wi (4 * (j : Int)) (by omega), wi _ (by omega)]; omega) (by rw [wu (by omega)]; exact ⟨hwj.1, by rw [show (256 : Int) ^ (4 : Int).toNat = 4294967296 by decide]; exact hwj.2⟩)) fun v67 H12 ⟨b67, hv, st1⟩ => ?_
   subst hv
   replace st := st.call st1 rfl
   clear st1
   rw [wi (4 * (j : Int)) (by omega), wi _ (by omega), wu (by omega), show (20 + 4 * (j : Int)).toNat = 20 + 4 * j by omega] at st
   rw [show (headL p j).take (20 + 4 * j) ++ beB (4 : Int).toNat (p.ws.getD j 0) ++ (headL p j).drop (20 + 4 * j + (4 : Int).toNat) = headL p (j + 1) from headL_step p hlt] at st
   rw [headL_len p (by omega)]
   iterate 4 refine aN rfl rfl (by constructor) ?_
   refine sE ?_
   show AWl _ _ _ _ _
   iterate 2 refine aN rfl rfl (by constructor) ?_
   refine sE ?_
   exact ⟨_, by omega, j + 1, b67, rfl, by omega, rfl, congrArg (Value.int .i64) (wi _ (by omega)), (st.sel [0, 2] (by decide))⟩
  ·have hge : j = 7 := by have := of_decide_eq_false h11; omega
   subst hge
   show AWl _ _ _ _ _
   refine aN rfl rfl (by constructor) ?_
   refine sE ?_
   show AW _ (.cond _ _ _) _ _ _
   refine cC' rfl (fun h13 => ?_) (fun h13 => ?_)
   ·show AWl _ _ _ _ _
    iterate 2 refine aN rfl rfl (by constructor) ?_
    refine aC (sum_call (xs := (headL p 7)) (by rw [headL_len p (by omega)]; exact (st.rowAll 0 rfl (by rw [List.length_map, headL_len p (by omega)]))) (headL_bytes hp 7) (by rw [headL_len p (by omega)]; omega)) fun v74 H14 ⟨b74, hv, st1⟩ => ?_
    subst hv
    replace st := st.call st1 rfl
    clear st1
    refine aAppP st 1 (ob := some b) rfl rfl rfl (by decide) (by rw [List.length_map, headL_len p (by omega)]) (st.rowAll 0 rfl (by simp [beB_len])).src (by simp [beB_len]) (by omega) (by omega) (by omega) (NfL.any _) fun b75 H15 st => ?_
    refine aN rfl rfl (by constructor) ?_
    refine sE ?_
    show AWp _ _ _ _ _
    refine aN rfl rfl (by constructor) ?_
    refine aLdQ st 2 rfl rfl rfl (rfl : x = _) ?_
    refine aN rfl rfl (by constructor) ?_
    refine aLdQ st 2 rfl rfl rfl (rfl : x = _) ?_
    refine aLen (st.slc hx) rfl ?_
    refine ⟨?_, trivial⟩
    have st := st.nil 5
    have hnil : (Value.slice none 0 0) = accV none 0 1 := rfl
    refine aApp st 0 (ob := none) (n := 0) rfl rfl rfl (by decide) (rfl) (st.slc hx).src (by simp) (by omega) (by omega) fun b78 H16 hp78 st => ?_
    refine ⟨⟨(h_Ld st 3 rfl rfl rfl (by constructor)), trivial⟩, ?_⟩
    refine ⟨?_, trivial⟩
    refine aC (pad_call (by omega)) fun v82 H17 ⟨hv, st1⟩ => ?_
    subst hv
    replace st := st.call st1 rfl
    clear st1
    refine ⟨⟨(h_Ld st 3 rfl rfl rfl (by constructor)), (h_Ld st 3 rfl rfl rfl (by constructor)), trivial⟩, ?_⟩
    refine ⟨?_, trivial⟩
    refine aAppZ (m := padN p.data.length) (ob := b78) st 0 rfl rfl rfl (by simp) rfl (by have := padN_le p.data.length; omega) (by have := padN_le p.data.length; omega) fun b83 H18 hp83 st => ?_
    rw [show ([] : List Value) ++ p.data.map (Value.int .u8) ++ (List.replicate (padN p.data.length) (0 : Int)).map (Value.int .u8) = (bodyL p).map (Value.int .u8) by unfold bodyL; rw [List.nil_append, List.map_append]] at st
    rw [show 0 + p.data.length + padN p.data.length = (bodyL p).length by rw [bodyL_len]; omega]
    have hbl := bodyL_len p; have hpl := padN_le p.data.length
    refine ⟨⟨(h_Ld st 3 rfl rfl rfl (by constructor)), (h_Ld st 3 rfl rfl rfl (by constructor)), trivial⟩, ?_⟩
    refine aMovA rfl ?_
    refine pE ?_
    show AWl _ _ _ _ _
    refine aN rfl rfl (by constructor) ?_
    refine aMovA rfl ?_
    refine aAppP st 2 (ob := some b75) rfl rfl rfl (by decide) (by simp [beB_len, headL_len p (Nat.le_refl 7)]) (st.rowAcc 0 rfl (by decide) (by simp)).src (by simp) (by omega) (by omega) (by omega) (NfL.any _) fun b86 H19 st => ?_
    refine aN rfl rfl (by constructor) ?_
    refine sE ?_
    show AWl _ _ _ _ _
    iterate 2 refine aN rfl rfl (by constructor) ?_
    refine gCase 88 rfl (fun h20 => ?_) (fun h20 => ?_)
    ·refine gT rfl ?_
     refine aMovA rfl ?_
     refine gT rfl ?_
     refine aLen (st.rowAcc 0 rfl (by decide) (by simp)) rfl ?_
     refine gT rfl ?_
     iterate 2 refine aN rfl rfl (by constructor) ?_
     refine sE ?_
     show AW _ (.cond _ _ _) _ _ _
     refine cC' rfl (fun h21 => ?_) (fun h21 => ?_)
     ·show AWl _ _ _ _ _
      refine aN rfl rfl (by constructor) ?_
      refine aMovA rfl ?_
      refine aC (sum_call (xs := (bodyL p)) (st.rowAcc 0 rfl (by decide) (by simp)) (bodyL_bytes hp) (by rw [bodyL_len]; have := padN_le p.data.length; omega)) fun v95 H22 ⟨b95, hv, st1⟩ => ?_
      subst hv
      replace st := st.call st1 rfl
      clear st1
      refine aAppP st 3 (ob := some b86) rfl rfl rfl (by decide) (by first | (simp [beB_len, headL_len p (Nat.le_refl 7)]; done) | (simp [beB_len, headL_len p (Nat.le_refl 7)]; omega)) (st.rowAll 0 rfl (by simp [beB_len])).src (by simp [beB_len]) (by omega) (by omega) (by omega) (NfL.any _) fun b96 H23 st => ?_
      refine aN rfl rfl (by constructor) ?_
      refine sE ?_
      show AWl _ _ _ _ _
      iterate 3 refine aN rfl rfl (by constructor) ?_
      refine sE ?_
      refine ⟨_, out2 (r_tmp rfl (by constructor)) (r_tmp rfl (by constructor)) ⟨rfl, rfl⟩, ?_⟩
      have eE : encE p = 0 := if_neg h8
      have eR : encR p hd dt = encB p hd dt := if_neg h8
      have e2 : hdrL p hd = headL p 7 ++ beB 4 (c32 (headL p 7)) := by unfold hdrL; rw [if_pos h13]
      have hz : (0 < (bodyL p).length) := by have := of_decide_eq_true h21; omega
      have e3 : encB p hd dt = hdrL p hd ++ (bodyL p ++ beB 4 (c32 (bodyL p))) := by unfold encB; rw [if_pos ⟨h20, hz⟩]
      have hl48 := headL_len p (Nat.le_refl 7)
      refine ⟨some b96, ?_, ?_⟩
      ·rw [eR, eE, e3, e2]; exact congrArg (fun n => Value.tuple #[accV (some _) n 1, .int .i64 0]) (by simp only [List.length_append, beB_len, hl48, List.length_nil]; omega)
      ·rw [eR, e3, e2]; have st2 := st.pick 3 rfl; simpa [List.map_append] using st2
     ·show AWl _ _ _ _ _
      iterate 3 refine aN rfl rfl (by constructor) ?_
      refine sE ?_
      refine ⟨_, out2 (r_tmp rfl (by constructor)) (r_tmp rfl (by constructor)) ⟨rfl, rfl⟩, ?_⟩
      have eE : encE p = 0 := if_neg h8
      have eR : encR p hd dt = encB p hd dt := if_neg h8
      have e2 : hdrL p hd = headL p 7 ++ beB 4 (c32 (headL p 7)) := by unfold hdrL; rw [if_pos h13]
      have hz : ¬ (0 < (bodyL p).length) := by have := of_decide_eq_false h21; omega
      have e3 : encB p hd dt = hdrL p hd ++ (bodyL p ++ []) := by unfold encB; rw [if_neg (fun hc => hz hc.2)]
      have hl48 := headL_len p (Nat.le_refl 7)
      refine ⟨some b86, ?_, ?_⟩
      ·rw [eR, eE, e3, e2]; exact congrArg (fun n => Value.tuple #[accV (some _) n 1, .int .i64 0]) (by simp only [List.length_append, beB_len, hl48, List.length_nil]; omega)
      ·rw [eR, e3, e2]; have st2 := st.pick 2 rfl; simpa [List.map_append] using st2
    ·refine gF rfl (by decide) ?_
     refine gF rfl (by decide) ?_
     refine gF rfl (by decide) ?_
     refine aN rfl rfl (by constructor) ?_
     refine sE ?_
     show AW _ (.cond _ _ _) _ _ _
     refine cF' rfl ?_
     show AWl _ _ _ _ _
     iterate 3 refine aN rfl rfl (by constructor) ?_
     refine sE ?_
     refine ⟨_, out2 (r_tmp rfl (by constructor)) (r_tmp rfl (by constructor)) ⟨rfl, rfl⟩, ?_⟩
     have eE : encE p = 0 := if_neg h8
     have eR : encR p hd dt = encB p hd dt := if_neg h8
     have e2 : hdrL p hd = headL p 7 ++ beB 4 (c32 (headL p 7)) := by unfold hdrL; rw [if_pos h13]
     have e3 : encB p hd dt = hdrL p hd ++ (bodyL p ++ []) := by unfold encB; rw [if_neg (fun hc => by rw [h20] at hc; cases hc.1)]
     have hl48 := headL_len p (Nat.le_refl 7)
     refine ⟨some b86, ?_, ?_⟩
     ·rw [eR, eE, e3, e2]; exact congrArg (fun n => Value.tuple #[accV (some _) n 1, .int .i64 0]) (by simp only [List.length_append, beB_len, hl48, List.length_nil]; omega)
     ·rw [eR, e3, e2]; have st2 := st.pick 2 rfl; simpa [List.map_append] using st2
   ·show AWp _ _ _ _ _
    refine aN rfl rfl (by constructor) ?_
    refine aLdQ st 1 rfl rfl rfl (rfl : x = _) ?_
    refine aN rfl rfl (by constructor) ?_
    refine aLdQ st 1 rfl rfl rfl (rfl : x = _) ?_
    refine aLen (st.slc hx) rfl ?_
    refine ⟨?_, trivial⟩
    have st := st.nil 5
    have hnil : (Value.slice none 0 0) = accV none 0 1 := rfl
    refine aApp st 0 (ob := none) (n := 0) rfl rfl rfl (by decide) (rfl) (st.slc hx).src (by simp) (by omega) (by omega) fun b78 H24 hp78 st => ?_
    refine ⟨⟨(h_Ld st 2 rfl rfl rfl (by constructor)), trivial⟩, ?_⟩
    refine ⟨?_, trivial⟩
    refine aC (pad_call (by omega)) fun v82 H25 ⟨hv, st1⟩ => ?_
    subst hv
    replace st := st.call st1 rfl
    clear st1
    refine ⟨⟨(h_Ld st 2 rfl rfl rfl (by constructor)), (h_Ld st 2 rfl rfl rfl (by constructor)), trivial⟩, ?_⟩
    refine ⟨?_, trivial⟩
    refine aAppZ (m := padN p.data.length) (ob := b78) st 0 rfl rfl rfl (by simp) rfl (by have := padN_le p.data.length; omega) (by have := padN_le p.data.length; omega) fun b83 H26 hp83 st => ?_
    rw [show ([] : List Value) ++ p.data.map (Value.int .u8) ++ (List.replicate (padN p.data.length) (0 : Int)).map (Value.int .u8) = (bodyL p).map (Value.int .u8) by unfold bodyL; rw [List.nil_append, List.map_append]] at st
    rw [show 0 + p.data.length + padN p.data.length = (bodyL p).length by rw [bodyL_len]; omega]
    have hbl := bodyL_len p; have hpl := padN_le p.data.length
    refine ⟨⟨(h_Ld st 2 rfl rfl rfl (by constructor)), (h_Ld st 2 rfl rfl rfl (by constructor)), trivial⟩, ?_⟩
    refine aMovA rfl ?_
    refine pE ?_
    show AWl _ _ _ _ _
    refine aN rfl rfl (by constructor) ?_
    refine aMovA rfl ?_
    refine aAppP st 1 (ob := some b) rfl rfl rfl (by decide) (by rw [List.length_map, headL_len p (by omega)]) (st.rowAcc 0 rfl (by decide) (by simp)).src (by simp) (by omega) (by omega) (by omega) (NfL.any _) fun b86 H27 st => ?_
    refine aN rfl rfl (by constructor) ?_
    refine sE ?_
    show AWl _ _ _ _ _
    iterate 2 refine aN rfl rfl (by constructor) ?_
    refine gCase 88 rfl (fun h28 => ?_) (fun h28 => ?_)
    ·refine gT rfl ?_
     refine aMovA rfl ?_
     refine gT rfl ?_
     refine aLen (st.rowAcc 0 rfl (by decide) (by simp)) rfl ?_
     refine gT rfl ?_
     iterate 2 refine aN rfl rfl (by constructor) ?_
     refine sE ?_
     show AW _ (.cond _ _ _) _ _ _
     refine cC' rfl (fun h29 => ?_) (fun h29 => ?_)
     ·show AWl _ _ _ _ _
      refine aN rfl rfl (by constructor) ?_
      refine aMovA rfl ?_
      refine aC (sum_call (xs := (bodyL p)) (st.rowAcc 0 rfl (by decide) (by simp)) (bodyL_bytes hp) (by rw [bodyL_len]; have := padN_le p.data.length; omega)) fun v95 H30 ⟨b95, hv, st1⟩ => ?_
      subst hv
      replace st := st.call st1 rfl
      clear st1
      refine aAppP st 2 (ob := some b86) rfl rfl rfl (by decide) (by first | (simp [beB_len, headL_len p (Nat.le_refl 7)]; done) | (simp [beB_len, headL_len p (Nat.le_refl 7)]; omega)) (st.rowAll 0 rfl (by simp [beB_len])).src (by simp [beB_len]) (by omega) (by omega) (by omega) (NfL.any _) fun b96 H31 st => ?_
      refine aN rfl rfl (by constructor) ?_
      refine sE ?_
      show AWl _ _ _ _ _
      iterate 3 refine aN rfl rfl (by constructor) ?_
      refine sE ?_
      refine ⟨_, out2 (r_tmp rfl (by constructor)) (r_tmp rfl (by constructor)) ⟨rfl, rfl⟩, ?_⟩
      have eE : encE p = 0 := if_neg h8
      have eR : encR p hd dt = encB p hd dt := if_neg h8
      have e2 : hdrL p hd = headL p 7 ++ [] := by unfold hdrL; rw [if_neg (by rw [h13]; decide)]
      have hz : (0 < (bodyL p).length) := by have := of_decide_eq_true h29; omega
      have e3 : encB p hd dt = hdrL p hd ++ (bodyL p ++ beB 4 (c32 (bodyL p))) := by unfold encB; rw [if_pos ⟨h28, hz⟩]
      have hl48 := headL_len p (Nat.le_refl 7)
      refine ⟨some b96, ?_, ?_⟩
      ·rw [eR, eE, e3, e2]; exact congrArg (fun n => Value.tuple #[accV (some _) n 1, .int .i64 0]) (by simp only [List.length_append, beB_len, hl48, List.length_nil]; omega)
      ·rw [eR, e3, e2]; have st2 := st.pick 2 rfl; simpa [List.map_append] using st2
     ·show AWl _ _ _ _ _
      iterate 3 refine aN rfl rfl (by constructor) ?_
      refine sE ?_
      refine ⟨_, out2 (r_tmp rfl (by constructor)) (r_tmp rfl (by constructor)) ⟨rfl, rfl⟩, ?_⟩
      have eE : encE p = 0 := if_neg h8
      have eR : encR p hd dt = encB p hd dt := if_neg h8
      have e2 : hdrL p hd = headL p 7 ++ [] := by unfold hdrL; rw [if_neg (by rw [h13]; decide)]
      have hz : ¬ (0 < (bodyL p).length) := by have := of_decide_eq_false h29; omega
      have e3 : encB p hd dt = hdrL p hd ++ (bodyL p ++ []) := by unfold encB; rw [if_neg (fun hc => hz hc.2)]
      have hl48 := headL_len p (Nat.le_refl 7)
      refine ⟨some b86, ?_, ?_⟩
      ·rw [eR, eE, e3, e2]; exact congrArg (fun n => Value.tuple #[accV (some _) n 1, .int .i64 0]) (by simp only [List.length_append, beB_len, hl48, List.length_nil]; omega)
      ·rw [eR, e3, e2]; have st2 := st.pick 1 rfl; simpa [List.map_append] using st2
    ·refine gF rfl (by decide) ?_
     refine gF rfl (by decide) ?_
     refine gF rfl (by decide) ?_
     refine aN rfl rfl (by constructor) ?_
     refine sE ?_
     show AW _ (.cond _ _ _) _ _ _
     refine cF' rfl ?_
     show AWl _ _ _ _ _
     iterate 3 refine aN rfl rfl (by constructor) ?_
     refine sE ?_
     refine ⟨_, out2 (r_tmp rfl (by constructor)) (r_tmp rfl (by constructor)) ⟨rfl, rfl⟩, ?_⟩
     have eE : encE p = 0 := if_neg h8
     have eR : encR p hd dt = encB p hd dt := if_neg h8
     have e2 : hdrL p hd = headL p 7 ++ [] := by unfold hdrL; rw [if_neg (by rw [h13]; decide)]
     have e3 : encB p hd dt = hdrL p hd ++ (bodyL p ++ []) := by unfold encB; rw [if_neg (fun hc => by rw [h28] at hc; cases hc.1)]
     have hl48 := headL_len p (Nat.le_refl 7)
     refine ⟨some b86, ?_, ?_⟩
     ·rw [eR, eE, e3, e2]; exact congrArg (fun n => Value.tuple #[accV (some _) n 1, .int .i64 0]) (by simp only [List.length_append, beB_len, hl48, List.length_nil]; omega)
     ·rw [eR, e3, e2]; have st2 := st.pick 1 rfl; simpa [List.map_append] using st2
end Go.Proofs.Ytloeadlmcdddnaa.Abs
