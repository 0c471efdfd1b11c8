/- Unpack. -/
import Derived.Test.YtbbdggmnjkkjkaaPK3
set_option linter.unusedVariables false
set_option linter.unusedSimpArgs false
set_option maxRecDepth 100000
namespace Go.Proofs.Ytbbdggmnjkkjkaa.Abs
open Go Go.RowKit
theorem unB_enc_false {c : List Int} : (unB false c).enc = (c.map (Value.int .u8)).take 16 ++ [.int .u16 0, .int .u16 0, .int .u32 0] := by simp [unB, Bk.enc, blk, List.map_take]
theorem unB_enc_true {c : List Int} : (unB true c).enc = (c.map (Value.int .u8)).take 16 ++ [.int .u16 (c.getD 16 0 * 256 + c.getD 17 0), .int .u16 (c.getD 18 0 * 256 + c.getD 19 0), .int .u32 (((c.getD 20 0 * 256 + c.getD 21 0) * 256 + c.getD 22 0) * 256 + c.getD 23 0)] := by simp [unB, Bk.enc, blk, List.map_take]
theorem getD_drop {l : List Int} {n i : Nat} : (l.drop n).getD i 0 = l.getD (n + i) 0 := by simp [List.getD]
theorem rem_ne {n k : Nat} (h : ((((n : Int).tmod (k : Int)) != 0)) = true) (hk : 0 < k) : ¬ (n % k = 0) := by
  rw [Int.tmod_eq_emod_of_nonneg (by omega)] at h
  simp only [bne_iff_ne, ne_eq] at h
  omega
theorem rem_eq {n k : Nat} (h : ((((n : Int).tmod (k : Int)) != 0)) = false) (hk : 0 < k) : n % k = 0 := by
  rw [Int.tmod_eq_emod_of_nonneg (by omega)] at h
  simp only [bne_eq_false_iff_eq] at h
  omega
theorem putAll1 {c : List Value} {m : Nat} (hc : 16 ≤ m) : ([.int .u8 0, .int .u8 0, .int .u8 0, .int .u8 0, .int .u8 0, .int .u8 0, .int .u8 0, .int .u8 0, .int .u8 0, .int .u8 0, .int .u8 0, .int .u8 0, .int .u8 0, .int .u8 0, .int .u8 0, .int .u8 0, .int .u16 0, .int .u16 0, .int .u32 0] : List Value).take (0 + 0 + 0 * 1) ++ c.take (min m (16 - 0) * 1) ++ ([.int .u8 0, .int .u8 0, .int .u8 0, .int .u8 0, .int .u8 0, .int .u8 0, .int .u8 0, .int .u8 0, .int .u8 0, .int .u8 0, .int .u8 0, .int .u8 0, .int .u8 0, .int .u8 0, .int .u8 0, .int .u8 0, .int .u16 0, .int .u16 0, .int .u32 0] : List Value).drop (0 + 0 + 0 * 1 + min m (16 - 0) * 1) = c.take 16 ++ [.int .u16 0, .int .u16 0, .int .u32 0] :=
  putAll c [.int .u16 0, .int .u16 0, .int .u32 0] rfl (List.replicate 16 (.int .u8 0)) rfl m hc
theorem size_true_call {H : Hp}  :
    ACalls Try.prog 11 [.bool true] H (fun v H' => v = .int .i64 24 ∧ Stt [] H H' []) := by
  refine acallsW Try.func11 f11_ok (Nat.le_of_ble_eq_true rfl) fun hw => ?_
  have st : Stt [] H H [] := Stt.start hw
  unfold f11c
  show AWl _ _ _ _ _
  refine aN rfl rfl (by constructor) ?_
  refine sE ?_
  show AWl _ _ _ _ _
  refine aN rfl rfl (by constructor) ?_
  refine sE ?_
  show AW _ (.cond _ _ _) _ _ _
  refine cT rfl ?_
  show AWl _ _ _ _ _
  refine aN rfl rfl (by constructor) ?_
  refine sE ?_
  refine ⟨_, out1 (r_tmp rfl (by constructor)), ?_⟩
  exact ⟨rfl, st.drop⟩
theorem size_false_call {H : Hp}  :
    ACalls Try.prog 11 [.bool false] H (fun v H' => v = .int .i64 16 ∧ Stt [] H H' []) := by
  refine acallsW Try.func11 f11_ok (Nat.le_of_ble_eq_true rfl) fun hw => ?_
  have st : Stt [] H H [] := Stt.start hw
  unfold f11c
  show AWl _ _ _ _ _
  refine aN rfl rfl (by constructor) ?_
  refine sE ?_
  show AWl _ _ _ _ _
  refine aN rfl rfl (by constructor) ?_
  refine sE ?_
  show AW _ (.cond _ _ _) _ _ _
  refine cF' rfl ?_
  show AWl _ _ _ _ _
  refine aN rfl rfl (by constructor) ?_
  refine sE ?_
  refine ⟨_, out1 (r_tmp rfl (by constructor)), ?_⟩
  exact ⟨rfl, st.drop⟩
theorem unpack_false_call {H : Hp} {xs : List Int} {x : Value} (hx : Sl H 1 xs.length (xs.map (Value.int .u8)) x) (hb0 : ByteL xs) (hl : xs.length ≤ 140737488355328) (hl2 : xs.length / 16 * 24 ≤ 140737488355328) :
    ACalls Try.prog 13 [x, .bool false] H (fun v H' => ∃ ob, v = .tuple #[accV ob (unR false xs).length 19, .bool (decide (xs.length % 16 = 0))] ∧ Stt [] H H' [⟨ob, true, ⟨true, 33, encs (unR false xs)⟩⟩]) := by
  refine acallsW Try.func13 f13_ok (Nat.le_of_ble_eq_true rfl) fun hw => ?_
  have st : Stt [] H H [] := Stt.start hw
  unfold f13c
  show AWl _ _ _ _ _
  refine aN rfl rfl (by constructor) ?_
  refine aN rfl rfl (by constructor) ?_
  refine sE ?_
  show AWl _ _ _ _ _
  refine aN rfl rfl (by constructor) ?_
  refine aC (size_false_call) fun v11 H1 ⟨hv, st1⟩ => ?_
  subst hv
  replace st := st.call st1 rfl
  clear st1
  refine aN rfl rfl (by constructor) ?_
  refine sE ?_
  show AWl _ _ _ _ _
  refine aMovV x rfl ?_
  refine aLen (st.slc hx) rfl ?_
  refine aN rfl rfl (by constructor) ?_
  refine aN rfl (e_rem rfl rfl (by first | decide | omega)) (by constructor) ?_
  refine aN rfl rfl (by constructor) ?_
  refine sE ?_
  show AW _ (.cond _ _ _) _ _ _
  refine cC' rfl (fun h2 => ?_) (fun h2 => ?_)
  · have hne : ¬ (xs.length % szB false = 0) := rem_ne h2 (by decide)
    show AWl _ _ _ _ _
    refine aN rfl rfl (by constructor) ?_
    refine aN rfl rfl (by constructor) ?_
    refine sE ?_
    refine ⟨_, out2 (r_tmp rfl (by constructor)) (r_tmp rfl (by constructor)) ⟨rfl, rfl⟩, ?_⟩
    exact ⟨none, by simp [unR, hne, accV]; exact hne, by simpa [unR, hne, encs] using (st.nil 33).pick 0 rfl⟩
  · have heq : xs.length % 16 = 0 := rem_eq h2 (by decide)
    show AWl _ _ _ _ _
    refine aN rfl rfl (by constructor) ?_
    refine sE ?_
    show AW _ (.loop _) _ _ _
    have st := st.nil 33
    refine AW_loopN (fun m t1 H1 => ∃ (j : Nat) (ob : Option Nat) (v : Value), m = xs.length / 16 - j ∧ j * 16 ≤ xs.length ∧ Sl H 1 (xs.length - j * 16) ((xs.drop (j * 16)).map (Value.int .u8)) v ∧ t1 0 = v ∧ t1 7 = accV ob j 19 ∧ Stt [] H H1 [⟨ob, true, ⟨true, 33, encs ((unL false xs).take j)⟩⟩]) (xs.length / 16 - 0) ⟨0, none, x, rfl, by omega, by simpa using hx, rfl, rfl, (by simpa [encs] using (st.sel [0] (by decide)))⟩ [0, 7, 8, 9, 17, 18, 19, 20, 21, 22, 23, 24, 25, 26, 27, 28, 29, 30, 31, 32, 33, 34, 35, 36, 37, 38, 39, 40, 41, 42, 43, 44, 45, 46, 47, 48, 49, 50, 51, 52, 53, 54, 55, 56, 57, 58, 59, 60, 61, 62, 63, 64, 65, 66, 67, 68, 69, 70, 71, 72, 73, 74, 75, 76, 77] (by decide) ?_
    rintro m t1 H1 hk hI
    obtain ⟨j, ob, v, rfl, hj, hs, ht0, ht7, st⟩ := hI
    obtain ⟨u, rfl⟩ : ∃ u, t1 = (upd (upd (mix [0, 7, 8, 9, 17, 18, 19, 20, 21, 22, 23, 24, 25, 26, 27, 28, 29, 30, 31, 32, 33, 34, 35, 36, 37, 38, 39, 40, 41, 42, 43, 44, 45, 46, 47, 48, 49, 50, 51, 52, 53, 54, 55, 56, 57, 58, 59, 60, 61, 62, 63, 64, 65, 66, 67, 68, 69, 70, 71, 72, 73, 74, 75, 76, 77] _ u) (some 0) _) (some 7) _) := ⟨t1, by rw [← hk, upd_self ht0, upd_self ht7]⟩
    clear hk ht0 ht7
    show AWl _ _ _ _ _
    refine aMovV v rfl ?_
    refine aLen (st.slc hs) rfl ?_
    refine aN rfl rfl (by constructor) ?_
    refine sE ?_
    show AW _ (.cond _ _ _) _ _ _
    refine cC' rfl (fun h3 => ?_) (fun h3 => ?_)
    · have hgt : 0 < xs.length - j * 16 := by have := of_decide_eq_true h3; omega
      have hj1 : (j + 1) * 16 ≤ xs.length := by omega
      have hlen : 16 ≤ xs.length - j * 16 := by omega
      have hlt : j < xs.length / szB false := by show j < xs.length / 16; omega
      have hstep := unL_take hlt
      show AWl _ _ _ _ _
      refine aNewP st rfl rfl (by repeat constructor) fun b8 H4 st => ?_
      refine sE ?_
      show AWl _ _ _ _ _
      refine aN rfl rfl (by constructor) ?_
      refine aN rfl rfl (by constructor) ?_
      refine aMovV v rfl ?_
      refine aCopy st 0 rfl rfl ((st.slc hs)).src (by simp) (by decide) (by omega) (by simp; omega) (putAll1 hlen) fun H5 st => ?_
      refine sE ?_
      show AWl _ _ _ _ _
      refine aN rfl rfl (by constructor) ?_
      refine sE ?_
      show AW _ (.cond _ _ _) _ _ _
      refine cF' rfl ?_
      show AWl _ _ _ _ _
      refine aMovA rfl ?_
      refine aLdAll st 0 rfl rfl (by simp; omega) ?_
      refine aLit1 st rfl (by simp; omega) rfl fun b76 H6 st => ?_
      refine aAppP st 2 (ob := ob) rfl rfl rfl (by decide) (by rw [encs_len (fun b hb => unL_ok hb0 b (List.mem_of_mem_take hb))]; simp [unL_len, szB]; omega) (st.rowAll 0 rfl (by simp; omega)).src (by simp; omega) (by omega) (by omega) (by omega) (NfL.any _) fun b77 H7 st => ?_
      refine aN rfl rfl (by constructor) ?_
      refine sE ?_
      show AWl _ _ _ _ _
      refine aMovV v rfl ?_
      refine aN rfl rfl (by constructor) ?_
      refine aCutL (st.slc hs) rfl rfl (by omega) fun v22 s22 => ?_
      replace s22 := s22 _ hs
      refine aMovV v22 rfl ?_
      refine sE ?_
      exact ⟨_, by omega, j + 1, some b77, v22, rfl, by omega, (by have h2 := s22; simpa [List.drop_drop, Nat.add_mul, Nat.sub_sub, List.map_drop] using h2), rfl, rfl, (by have st2 := (st.sel [2] (by decide)); rw [hstep, unB_enc_false]; exact st2)⟩
    · have hge : j = xs.length / szB false := by have := of_decide_eq_false h3; show j = xs.length / 16; omega
      show AWl _ _ _ _ _
      refine aMovA rfl ?_
      refine aMovA rfl ?_
      refine aN rfl rfl (by constructor) ?_
      refine sE ?_
      refine ⟨_, out2 (r_acc rfl) (r_tmp rfl (by constructor)) ⟨notTup_acc, rfl⟩, ?_⟩
      have hR : unR false xs = unL false xs := if_pos heq
      exact ⟨ob, by rw [hR, unL_len, ← hge]; simp [heq], by rw [hR]; have st2 := st.pick 0 rfl; rwa [List.take_of_length_le (by rw [unL_len]; omega)] at st2⟩
theorem unpack_true_call {H : Hp} {xs : List Int} {x : Value} (hx : Sl H 1 xs.length (xs.map (Value.int .u8)) x) (hb0 : ByteL xs) (hl : xs.length ≤ 140737488355328) (hl2 : xs.length / 24 * 24 ≤ 140737488355328) :
    ACalls Try.prog 13 [x, .bool true] H (fun v H' => ∃ ob, v = .tuple #[accV ob (unR true xs).length 19, .bool (decide (xs.length % 24 = 0))] ∧ Stt [] H H' [⟨ob, true, ⟨true, 33, encs (unR true xs)⟩⟩]) := by
  refine acallsW Try.func13 f13_ok (Nat.le_of_ble_eq_true rfl) fun hw => ?_
  have st : Stt [] H H [] := Stt.start hw
  unfold f13c
  show AWl _ _ _ _ _
  refine aN rfl rfl (by constructor) ?_
  refine aN rfl rfl (by constructor) ?_
  refine sE ?_
  show AWl _ _ _ _ _
  refine aN rfl rfl (by constructor) ?_
  refine aC (size_true_call) fun v11 H1 ⟨hv, st1⟩ => ?_
  subst hv
  replace st := st.call st1 rfl
  clear st1
  refine aN rfl rfl (by constructor) ?_
  refine sE ?_
  show AWl _ _ _ _ _
  refine aMovV x rfl ?_
  refine aLen (st.slc hx) rfl ?_
  refine aN rfl rfl (by constructor) ?_
  refine aN rfl (e_rem rfl rfl (by first | decide | omega)) (by constructor) ?_
  refine aN rfl rfl (by constructor) ?_
  refine sE ?_
  show AW _ (.cond _ _ _) _ _ _
  refine cC' rfl (fun h2 => ?_) (fun h2 => ?_)
  · have hne : ¬ (xs.length % szB true = 0) := rem_ne h2 (by decide)
    show AWl _ _ _ _ _
    refine aN rfl rfl (by constructor) ?_
    refine aN rfl rfl (by constructor) ?_
    refine sE ?_
    refine ⟨_, out2 (r_tmp rfl (by constructor)) (r_tmp rfl (by constructor)) ⟨rfl, rfl⟩, ?_⟩
    exact ⟨none, by simp [unR, hne, accV]; exact hne, by simpa [unR, hne, encs] using (st.nil 33).pick 0 rfl⟩
  · have heq : xs.length % 24 = 0 := rem_eq h2 (by decide)
    show AWl _ _ _ _ _
    refine aN rfl rfl (by constructor) ?_
    refine sE ?_
    show AW _ (.loop _) _ _ _
    have st := st.nil 33
    refine AW_loopN (fun m t1 H1 => ∃ (j : Nat) (ob : Option Nat) (v : Value), m = xs.length / 24 - j ∧ j * 24 ≤ xs.length ∧ Sl H 1 (xs.length - j * 24) ((xs.drop (j * 24)).map (Value.int .u8)) v ∧ t1 0 = v ∧ t1 7 = accV ob j 19 ∧ Stt [] H H1 [⟨ob, true, ⟨true, 33, encs ((unL true xs).take j)⟩⟩]) (xs.length / 24 - 0) ⟨0, none, x, rfl, by omega, by simpa using hx, rfl, rfl, (by simpa [encs] using (st.sel [0] (by decide)))⟩ [0, 7, 8, 9, 17, 18, 19, 20, 21, 22, 23, 24, 25, 26, 27, 28, 29, 30, 31, 32, 33, 34, 35, 36, 37, 38, 39, 40, 41, 42, 43, 44, 45, 46, 47, 48, 49, 50, 51, 52, 53, 54, 55, 56, 57, 58, 59, 60, 61, 62, 63, 64, 65, 66, 67, 68, 69, 70, 71, 72, 73, 74, 75, 76, 77] (by decide) ?_
    rintro m t1 H1 hk hI
    obtain ⟨j, ob, v, rfl, hj, hs, ht0, ht7, st⟩ := hI
    obtain ⟨u, rfl⟩ : ∃ u, t1 = (upd (upd (mix [0, 7, 8, 9, 17, 18, 19, 20, 21, 22, 23, 24, 25, 26, 27, 28, 29, 30, 31, 32, 33, 34, 35, 36, 37, 38, 39, 40, 41, 42, 43, 44, 45, 46, 47, 48, 49, 50, 51, 52, 53, 54, 55, 56, 57, 58, 59, 60, 61, 62, 63, 64, 65, 66, 67, 68, 69, 70, 71, 72, 73, 74, 75, 76, 77] _ u) (some 0) _) (some 7) _) := ⟨t1, by rw [← hk, upd_self ht0, upd_self ht7]⟩
    clear hk ht0 ht7
    show AWl _ _ _ _ _
    refine aMovV v rfl ?_
    refine aLen (st.slc hs) rfl ?_
    refine aN rfl rfl (by constructor) ?_
    refine sE ?_
    show AW _ (.cond _ _ _) _ _ _
    refine cC' rfl (fun h3 => ?_) (fun h3 => ?_)
    · have hgt : 0 < xs.length - j * 24 := by have := of_decide_eq_true h3; omega
      have hj1 : (j + 1) * 24 ≤ xs.length := by omega
      have hlen : 16 ≤ xs.length - j * 24 := by omega
      have hlt : j < xs.length / szB true := by show j < xs.length / 24; omega
      have hstep := unL_take hlt
      show AWl _ _ _ _ _
      refine aNewP st rfl rfl (by repeat constructor) fun b8 H4 st => ?_
      refine sE ?_
      show AWl _ _ _ _ _
      refine aN rfl rfl (by constructor) ?_
      refine aN rfl rfl (by constructor) ?_
      refine aMovV v rfl ?_
      refine aCopy st 0 rfl rfl ((st.slc hs)).src (by simp) (by decide) (by omega) (by simp; omega) (putAll1 hlen) fun H5 st => ?_
      refine sE ?_
      show AWl _ _ _ _ _
      refine aN rfl rfl (by constructor) ?_
      refine sE ?_
      show AW _ (.cond _ _ _) _ _ _
      refine cT rfl ?_
      show AWl _ _ _ _ _
      refine aMovV v rfl ?_
      refine aCutL (st.slc hs) rfl rfl (by omega) fun v29 s29 => ?_
      replace s29 := s29 _ hs
      refine aMovV v29 rfl ?_
      refine sE ?_
      show AWp _ _ _ _ _
      refine aMovV v29 rfl ?_
      refine aIxB (st.slc s29) rfl rfl (by omega) fun b31 o31 g31 => ?_
      refine aLdG rfl g31 ?_
      refine aN rfl rfl (by constructor) ?_
      refine aN rfl rfl (by constructor) ?_
      refine aMovV v29 rfl ?_
      refine aIxB (st.slc s29) rfl rfl (by omega) fun b36 o36 g36 => ?_
      refine aLdG rfl g36 ?_
      refine aN rfl rfl (by constructor) ?_
      refine aN rfl rfl (by constructor) ?_
      refine aMovV v29 rfl ?_
      refine aIxB (st.slc s29) rfl rfl (by omega) fun b41 o41 g41 => ?_
      refine aLdG rfl g41 ?_
      refine aN rfl rfl (by constructor) ?_
      refine aN rfl rfl (by constructor) ?_
      refine aMovV v29 rfl ?_
      refine aIxB (st.slc s29) rfl rfl (by omega) fun b46 o46 g46 => ?_
      refine aLdG rfl g46 ?_
      refine aN rfl rfl (by constructor) ?_
      refine aN rfl rfl (by constructor) ?_
      refine aMovV v29 rfl ?_
      refine aIxB (st.slc s29) rfl rfl (by omega) fun b51 o51 g51 => ?_
      refine aLdG rfl g51 ?_
      refine aN rfl rfl (by constructor) ?_
      refine aN rfl rfl (by constructor) ?_
      refine aMovV v29 rfl ?_
      refine aIxB (st.slc s29) rfl rfl (by omega) fun b56 o56 g56 => ?_
      refine aLdG rfl g56 ?_
      refine aN rfl rfl (by constructor) ?_
      refine aN rfl rfl (by constructor) ?_
      refine aN rfl rfl (by constructor) ?_
      refine aMovV v29 rfl ?_
      refine aIxB (st.slc s29) rfl rfl (by omega) fun b62 o62 g62 => ?_
      refine aLdG rfl g62 ?_
      refine aN rfl rfl (by constructor) ?_
      refine aN rfl rfl (by constructor) ?_
      refine aN rfl rfl (by constructor) ?_
      refine aMovV v29 rfl ?_
      refine aIxB (st.slc s29) rfl rfl (by omega) fun b68 o68 g68 => ?_
      refine aLdG rfl g68 ?_
      refine aN rfl rfl (by constructor) ?_
      refine aN rfl rfl (by constructor) ?_
      refine aBld rfl (by repeat constructor) ?_
      refine aN rfl rfl (by constructor) ?_
      refine ⟨?_, trivial⟩
      refine aSt (cs := ((xs.drop (j * 24)).map (Value.int .u8)).take 16 ++ [.int .u16 _, .int .u16 _, .int .u32 _]) st 0 rfl rfl rfl rfl rfl (by simp; omega) (by rw [storeTail _ _ _ (by simp; omega) rfl]; exact NfV.any _) fun H6 st => ?_
      refine ⟨trivial, ?_⟩
      refine pE ?_
      show AWl _ _ _ _ _
      refine aMovA rfl ?_
      refine aLdAll st 0 rfl rfl (by simp; omega) ?_
      refine aLit1 st rfl (by simp; omega) rfl fun b76 H7 st => ?_
      refine aAppP st 2 (ob := ob) rfl rfl rfl (by decide) (by rw [encs_len (fun b hb => unL_ok hb0 b (List.mem_of_mem_take hb))]; simp [unL_len, szB]; omega) (st.rowAll 0 rfl (by simp; omega)).src (by simp; omega) (by omega) (by omega) (by omega) (NfL.any _) fun b77 H8 st => ?_
      refine aN rfl rfl (by constructor) ?_
      refine sE ?_
      show AWl _ _ _ _ _
      refine aMovV v rfl ?_
      refine aN rfl rfl (by constructor) ?_
      refine aCutL (st.slc hs) rfl rfl (by omega) fun v22 s22 => ?_
      replace s22 := s22 _ hs
      refine aMovV v22 rfl ?_
      refine sE ?_
      exact ⟨_, by omega, j + 1, some b77, v22, rfl, by omega, (by have h2 := s22; simpa [List.drop_drop, Nat.add_mul, Nat.sub_sub, List.map_drop] using h2), rfl, rfl, (by have st2 := (st.sel [2] (by decide)); have B : ByteL (List.drop (Int.toNat 16) (List.drop (j * 24) xs)) := (hb0.drop _).drop _; rw [hstep, unB_enc_true]; rw [or16 (B.getD _) (B.getD _), or16 (B.getD _) (B.getD _), or32 (B.getD _) (B.getD _) (B.getD _) (B.getD _)] at st2; simp only [getD_drop] at st2 ⊢; exact st2)⟩
    · have hge : j = xs.length / szB true := by have := of_decide_eq_false h3; show j = xs.length / 24; omega
      show AWl _ _ _ _ _
      refine aMovA rfl ?_
      refine aMovA rfl ?_
      refine aN rfl rfl (by constructor) ?_
      refine sE ?_
      refine ⟨_, out2 (r_acc rfl) (r_tmp rfl (by constructor)) ⟨notTup_acc, rfl⟩, ?_⟩
      have hR : unR true xs = unL true xs := if_pos heq
      exact ⟨ob, by rw [hR, unL_len, ← hge]; simp [heq], by rw [hR]; have st2 := st.pick 0 rfl; rwa [List.take_of_length_le (by rw [unL_len]; omega)] at st2⟩
end Go.Proofs.Ytbbdggmnjkkjkaa.Abs
