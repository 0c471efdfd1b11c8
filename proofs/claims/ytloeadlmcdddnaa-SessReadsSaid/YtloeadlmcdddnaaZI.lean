/- SessReads. -/
import Derived.Test.YtloeadlmcdddnaaZH
import Derived.Test.YtloeadlmcdddnaaZ7
set_option linter.unusedVariables false
set_option linter.unusedSimpArgs false
set_option maxRecDepth 100000
namespace Go.Proofs.Ytloeadlmcdddnaa.Abs
open Go Go.RowKit
variable {tg sg bu : Int}
theorem tl_at {A : List Ent} {ls : List Int} {g i : Nat} {zs : List DZ} {d : DZ} {oi : Option Nat} (hoi : zs.getD i d = (i, oi)) (hi : i < zs.length) : (A ++ zs.map (dtE ls g))[A.length + i]? = some ⟨oi, true, ⟨true, 5, (pc ls g i).map (Value.int .u8)⟩⟩ := by
  rw [List.getElem?_append_right (Nat.le_add_right _ _), Nat.add_sub_cancel_left, List.getElem?_map, List.getElem?_eq_getElem hi]
  have e : zs.getD i d = zs[i] := by simp [List.getD, List.getElem?_eq_getElem hi]
  rw [e] at hoi
  rw [hoi]
  rfl
theorem en_at {zs : List DZ} {i : Nat} (hi : i < zs.length) (d : DZ) : (zs.map some ++ [none]).getD i none = some (zs.getD i d) := by
  simp [List.getD, List.getElem?_append_left (show i < (zs.map some).length by simpa using hi), List.getElem?_eq_getElem hi]
theorem en_last {zs : List DZ} : (zs.map some ++ [none]).getD zs.length none = none := by
  simp [List.getD, List.getElem?_append_right (show (zs.map some).length ≤ zs.length by simp)]
theorem last_iff {zs : List DZ} {i g n : Nat} (hlt : ∀ i, i < zs.length → i * g < n) (hle : n ≤ zs.length * g) (hi : i < zs.length) : ((i : Int) = (zs.length : Int) - 1) ↔ decide (n ≤ (i + 1) * g) = true := by
  rw [decide_eq_true_iff]
  constructor
  · intro h
    rw [show i + 1 = zs.length by omega]
    exact hle
  · intro h
    by_cases hc : i + 1 < zs.length
    · have := hlt (i + 1) hc
      omega
    · omega
theorem fl_iff {i g n : Nat} : ((if (i + 1) * g < n then (0 : Int) else 128) = 128) ↔ decide (n ≤ (i + 1) * g) = true := by
  rw [decide_eq_true_iff]
  split <;> omega
theorem bneF {p : Bool} : aBin 1 .neq (.bool p) (.bool p) = some (.bool false) := by cases p <;> rfl
theorem all_dt {ls : List Int} {g : Nat} {zs : List DZ} {e : Ent} (h : e.ok = true) : (e :: zs.map (dtE ls g)).all (·.ok) = true := by
  rw [List.all_eq_true]
  intro p hp
  rcases List.mem_cons.1 hp with rfl | hp
  · exact h
  · obtain ⟨z, _, rfl⟩ := List.mem_map.1 hp
    rfl
theorem reads_call {H : Hp} {x : Value} {xs : List Int} {wn sn : Nat} (hx : Sl H 1 xs.length (xs.map (Value.int .u8)) x) (hwn : wn < 65536) (hsn : sn < 65536) :
  ACalls Try.prog 7 [x, .int .u16 (wn : Int), .int .u16 (sn : Int)] H (fun v _ => v = .bool true) := by
 refine acallsW Try.func7 f7_ok (Nat.le_of_ble_eq_true rfl) fun hw => ?_
 have st : Stt [] H H [] := Stt.start hw
 obtain ⟨px, cx, rfl⟩ := hx.shape
 obtain ⟨g, hgd⟩ : ∃ g, g = 1 + sn % 900 := ⟨_, rfl⟩
 obtain ⟨W, hWd⟩ : ∃ W, W = wn % 4000 := ⟨_, rfl⟩
 unfold f7c
 show AWl _ _ _ _ _
 refine aN rfl rfl (by constructor) ?_
 refine sE ?_
 show AWl _ _ _ _ _
 refine aC (awake_call) fun v18 H1 ⟨hv, st1⟩ => ?_
 subst hv
 replace st := st.call st1 rfl
 clear st1
 iterate 2 refine aN rfl rfl (by constructor) ?_
 refine gT rfl ?_
 refine aMovV (Value.slice px xs.length cx) rfl ?_
 refine gT rfl ?_
 refine aLen (st.slc hx) rfl ?_
 refine gT rfl ?_
 iterate 2 refine aN rfl rfl (by constructor) ?_
 refine sE ?_
 show AW _ (.cond _ _ _) _ _ _
 refine cC' rfl (fun h2 => ?_) (fun h2 => ?_)
 ·show AWl _ _ _ _ _
  refine aC (awake_call) fun v25 H3 ⟨hv, st1⟩ => ?_
  subst hv
  replace st := st.call st1 rfl
  clear st1
  refine aN rfl rfl (by constructor) ?_
  refine sE ?_
  refine ⟨_, out1 (r_tmp rfl (by constructor)), ?_⟩
  rfl
 ·have hxl : xs.length ≤ 3000 := by have := of_decide_eq_false h2; omega
  show AWl _ _ _ _ _
  refine aC (plain_call) fun v26 H4 ⟨hv, st1⟩ => ?_
  subst hv
  replace st := st.call st1 rfl
  clear st1
  refine aNewP st rfl rfl (by repeat constructor) fun b7 H5 st => ?_
  refine aSt st 0 rfl rfl rfl rfl (by first | rfl | simp [cellsOf, *]) (by first | decide | (simp [*]; done) | (simp [k8]; done)) (by repeat constructor) fun H6 st => ?_
  refine sE ?_
  show AWl _ _ _ _ _
  refine aN rfl rfl (by constructor) ?_
  refine aConvV (n' := (sn : Int)) rfl (by first | exact c64 (by omega) | exact c32w (by omega)) ?_
  refine aBinV (.int .i64 ((sn % 900 : Nat) : Int)) rfl rfl (remN (m := 900) (by decide)) ?_
  refine aBinV (.int .i64 (g : Int)) rfl rfl (addI (by omega) (by omega)) ?_
  refine aN rfl rfl (by constructor) ?_
  refine aSt st 0 rfl rfl rfl rfl (by first | rfl | simp [cellsOf, *]) (by first | decide | (simp [*]; done) | (simp [k8]; done)) (by repeat constructor) fun H7 st => ?_
  refine sE ?_
  show AWl _ _ _ _ _
  refine aN rfl rfl (by constructor) ?_
  refine aConvV (n' := (wn : Int)) rfl (by first | exact c64 (by omega) | exact c32w (by omega)) ?_
  refine aBinV (.int .i64 (W : Int)) rfl rfl (by rw [hWd]; exact remN (m := 4000) (by decide)) ?_
  refine aN rfl rfl (by constructor) ?_
  refine sE ?_
  show AWl _ _ _ _ _
  refine aLdA st 0 rfl rfl (by first | decide | simp [*]) (by repeat constructor) ?_
  refine aC (new_call) fun v36 H8 ⟨b36, hv, st1⟩ => ?_
  subst hv
  replace st := st.call st1 rfl
  clear st1
  refine aN rfl rfl (by constructor) ?_
  refine sE ?_
  show AWl _ _ _ _ _
  iterate 2 refine aN rfl rfl (by constructor) ?_
  refine aConvV (n' := (W : Int)) rfl (by first | exact c64 (by omega) | exact c32w (by omega)) ?_
  refine aC (read_call) fun v40 H9 ⟨hv, st1⟩ => ?_
  subst hv
  replace st := st.call st1 rfl
  clear st1
  refine aC (in_read (st.get (j := 0) rfl)) fun v41 H10 ⟨c41, oc41, rb41, hv, st1⟩ => ?_
  subst hv
  replace st := st.callX 0 rfl st1 rfl
  clear st1
  obtain ⟨rx41, rfl⟩ := st.isSome 3 rfl (fun h => by cases h)
  refine sE ?_
  show AWl _ _ _ _ _
  refine aN rfl rfl (by constructor) ?_
  refine aMovV (Value.slice px xs.length cx) rfl ?_
  refine aBld rfl (by repeat constructor) ?_
  rw [c64 (a := (W : Int)) (by omega)] at st
  refine aC (end_r (g := g) (W := W) (xs := xs) (st.get (j := 0) rfl) (st.get (j := 3) rfl) (by have := st.ne 3 0 rfl rfl (by decide); simpa using this) (st.slc hx) (st.apart (j := 0) rfl hx) hxl (by omega) (by omega)) fun v45 H11 ⟨c45, zs, ls, fl, rs, hls, hv, hzs, hlt, hle, hfr, st1⟩ => ?_
  subst hv
  replace st := st.callX 0 rfl st1 (all_dt rfl)
  clear st1
  replace st := st.swap (L' := _ :: _ :: ([_, _, _, _] ++ zs.map (dtE ls g))) (List.Perm.cons _ (List.Perm.cons _ List.perm_append_comm))
  have hlen : (zs.map some ++ [none]).length = zs.length + 1 := by simp
  have hll : ls.length = min xs.length W := by rw [hls, List.length_take]; omega
  have hzn : zs.length ≤ zs.length * g := Nat.le_mul_of_pos_right _ (by omega)
  have hz3 : zs.length ≤ 3000 := by
   by_cases h0 : zs.length = 0
   ·omega
   ·have h1 := hlt (zs.length - 1) (by omega)
    have h2 : zs.length - 1 ≤ (zs.length - 1) * g := Nat.le_mul_of_pos_right _ (by omega)
    omega
  refine aN rfl rfl (by constructor) ?_
  refine sE ?_
  show AWl _ _ _ _ _
  refine aN rfl rfl (by constructor) ?_
  refine aN (v := .int .i64 ((zs.length + 1 : Nat) : Int)) rfl rfl (by constructor) ?_
  refine aBinV (.bool false) rfl rfl (eqF (by omega)) ?_
  refine aN rfl rfl (by constructor) ?_
  refine gT rfl ?_
  refine aN rfl rfl (by constructor) ?_
  refine gT rfl ?_
  refine aBld rfl (by repeat constructor) ?_
  refine gT rfl ?_
  refine aC (end_n (st.get (j := 0) rfl)) fun v52 H12 ⟨hv, st1⟩ => ?_
  subst hv
  replace st := st.callX 0 rfl st1 rfl
  clear st1
  refine gT rfl ?_
  refine aN (v := .int .i64 0) rfl rfl (by constructor) ?_
  refine gT rfl ?_
  refine aBinV (.bool false) rfl rfl rfl ?_
  iterate 2 refine aN rfl rfl (by constructor) ?_
  refine gT rfl ?_
  refine aN rfl rfl (by constructor) ?_
  refine gT rfl ?_
  refine aC (waits_n (st.get (j := 0) rfl)) fun v58 H13 ⟨hv, st1⟩ => ?_
  subst hv
  replace st := st.call st1 rfl
  clear st1
  refine gT rfl ?_
  refine aBinV (.bool false) rfl rfl rfl ?_
  refine aN rfl rfl (by constructor) ?_
  refine sE ?_
  show AW _ (.cond _ _ _) _ _ _
  refine cF' rfl ?_
  show AWl _ _ _ _ _
  refine aN rfl rfl (by constructor) ?_
  refine sE ?_
  show AWl _ _ _ _ _
  refine aN rfl rfl (by constructor) ?_
  refine sE ?_
  show AW _ (.loop _) _ _ _
  have st := st.nil 5
  have st := st.selN (A := _) (T := zs.map (dtE ls g)) [2, 6, 0] (show _ = [_, _, _, _, _, _, _] ++ zs.map (dtE ls g) from rfl) (by decide)
  refine AW_loopN (fun m t1 H1 => ∃ (i : Nat) (og : Option Nat), m = zs.length - i ∧ (i ≤ zs.length) ∧ t1 12 = .int .i64 (i : Int) ∧ t1 11 = accV og (ls.take (i * g)).length 1 ∧ Stt [] H H1 ([⟨some c45, true, ⟨true, 37, (zs.map some ++ [none]).flatMap (enE ls g 7 (IntKind.u32.wrap (1 + 1)) 1 zs.length fl rs)⟩⟩, ⟨some b7, true, ⟨true, 28, [.string ⟨#[]⟩, .string ⟨#[116]⟩, .bool false, .bool false, .bool false, .int .i64 (g : Int), .int .i64 65536, .int .i64 65536, .bool true, .bool true]⟩⟩, ⟨og, true, ⟨true, 5, (ls.take (i * g)).map (Value.int .u8)⟩⟩] ++ zs.map (dtE ls g))) _ ⟨0, none, rfl, Nat.zero_le _, rfl, by simp only [Nat.zero_mul, List.take_zero]; rfl, (by first | exact st | (simp only [Nat.zero_mul, List.take_zero]; exact st) | exact (st.sel [0, 1, 2] (by decide)))⟩ [6, 11, 12, 13, 61, 62, 63, 64, 65, 66, 67, 68, 69, 70, 71, 72, 73, 74, 75, 76, 77, 78, 79, 80, 81, 82, 83, 84, 85, 86, 87, 88, 89, 90, 91, 92, 93, 94, 95, 96, 97, 98, 99, 100, 101, 102, 103, 104, 105, 106, 107, 108, 109, 110, 111, 112, 113, 114, 115, 116, 117, 118, 119, 120, 121, 122, 123, 124, 125] (by decide) ?_
  rintro m t1 H1 hk hI
  obtain ⟨i, og, rfl, hi0, ht12, ht11, st⟩ := hI
  obtain ⟨u, rfl⟩ : ∃ u, t1 = (upd (upd (mix [6, 11, 12, 13, 61, 62, 63, 64, 65, 66, 67, 68, 69, 70, 71, 72, 73, 74, 75, 76, 77, 78, 79, 80, 81, 82, 83, 84, 85, 86, 87, 88, 89, 90, 91, 92, 93, 94, 95, 96, 97, 98, 99, 100, 101, 102, 103, 104, 105, 106, 107, 108, 109, 110, 111, 112, 113, 114, 115, 116, 117, 118, 119, 120, 121, 122, 123, 124, 125] _ u) (some 12) _) (some 11) _) := ⟨t1, by rw [← hk, upd_self ht12, upd_self ht11]⟩
  clear hk ht12 ht11
  show AWl _ _ _ _ _
  iterate 2 refine aN rfl rfl (by constructor) ?_
  refine aN (v := .int .i64 ((zs.length + 1 : Nat) : Int)) rfl rfl (by constructor) ?_
  refine aBinV (.int .i64 (zs.length : Int)) rfl rfl (subI (by omega) (by omega)) ?_
  refine aN rfl rfl (by constructor) ?_
  refine sE ?_
  show AW _ (.cond _ _ _) _ _ _
  refine cC' rfl (fun h14 => ?_) (fun h14 => ?_)
  ·have hi : i < zs.length := by have := of_decide_eq_true h14; omega
   obtain ⟨oi, hoi⟩ : ∃ o, zs.getD i (0, none) = (i, o) := ⟨_, zs_at hzs hi (0, none)⟩
   have hig := hlt i hi
   have hin : i ≤ i * g := Nat.le_mul_of_pos_right _ (by omega)
   show AWl _ _ _ _ _
   iterate 2 refine aN rfl rfl (by constructor) ?_
   have hO : Sl H1 14 (zs.map some ++ [none]).length ((zs.map some ++ [none]).flatMap (enE ls g 7 (IntKind.u32.wrap (1 + 1)) 1 zs.length fl rs)) (.slice (some ⟨c45, 0, none⟩) (zs.length + 1) 14) := by rw [hlen]; exact st.rowAll 0 rfl (by rw [← hlen]; exact flat_len' enE_len _)
   refine aIxE enE_len none (l := (zs.map some ++ [none])) hO rfl rfl (by rw [hlen]; omega) fun b70 o70 g70 => ?_
   replace g70 : Hp.get H1 b70 o70 14 = some [.int .u8 37, .int .u8 (if (i + 1) * g < ls.length then 0 else 128), .int .u8 0, .int .u8 0, .int .u8 0, .int .u32 7, .int .u32 4294967295, .int .u32 0, .int .u32 (IntKind.u32.wrap (1 + 1)), .int .u32 (IntKind.u32.wrap (IntKind.u32.wrap ((IntKind.u32.wrap (1 + 1)) + 16) - 1)), .int .u32 (i : Int), .int .u32 ((i * g : Nat) : Int), .int .u32 0, accV oi (pc ls g i).length 1] := by have h9 := g70; rw [Int.toNat_natCast, en_at hi (0, none), hoi] at h9; exact h9
   refine aLdAG rfl g70 ?_
   refine aNewP st rfl rfl (by repeat constructor) fun b13 H15 st => ?_
   refine aSt st 0 rfl rfl rfl rfl (by first | rfl | simp [cellsOf, *]) (by first | decide | (simp [*]; done) | (simp [k8]; done)) (by repeat constructor) fun H16 st => ?_
   refine sE ?_
   show AWl _ _ _ _ _
   refine aN rfl rfl (by constructor) ?_
   refine aLd st 0 rfl rfl rfl (by constructor) ?_
   refine aBinV (.bool false) rfl rfl rfl ?_
   refine aN rfl rfl (by constructor) ?_
   refine gT rfl ?_
   refine aN rfl rfl (by constructor) ?_
   refine gT rfl ?_
   refine aLd st 0 rfl rfl rfl (by constructor) ?_
   refine gT rfl ?_
   refine aBinV (.bool false) rfl rfl rfl ?_
   iterate 2 refine aN rfl rfl (by constructor) ?_
   refine gT rfl ?_
   refine aN rfl rfl (by constructor) ?_
   refine gT rfl ?_
   refine aN rfl rfl (by constructor) ?_
   refine gT rfl ?_
   refine aLd st 0 rfl rfl rfl (by constructor) ?_
   refine gT rfl ?_
   refine aConvV (n' := (i : Int)) rfl (by first | exact c64 (by omega) | exact c32w (by omega)) ?_
   refine gT rfl ?_
   refine aN rfl rfl (by constructor) ?_
   refine gT rfl ?_
   refine aBinV (.bool false) rfl rfl (neF rfl) ?_
   iterate 2 refine aN rfl rfl (by constructor) ?_
   refine gT rfl ?_
   refine aN rfl rfl (by constructor) ?_
   refine gT rfl ?_
   refine aN rfl rfl (by constructor) ?_
   refine gT rfl ?_
   refine aLd st 0 rfl rfl rfl (by constructor) ?_
   refine gT rfl ?_
   refine aConvV (n' := ((i * g : Nat) : Int)) rfl (by first | exact c64 (by omega) | exact c32w (by omega)) ?_
   refine gT rfl ?_
   refine aMovA rfl ?_
   refine gT rfl ?_
   refine aLen (st.rowAcc 3 rfl (by decide) (by rw [List.length_map, Nat.mul_one])) rfl ?_
   refine gT rfl ?_
   refine aBinV (.bool false) rfl rfl (neF (by rw [List.length_take, Nat.min_eq_left (by omega)])) ?_
   iterate 2 refine aN rfl rfl (by constructor) ?_
   refine gT rfl ?_
   refine aN rfl rfl (by constructor) ?_
   refine gT rfl ?_
   refine aLdQ st 0 rfl rfl rfl (rfl : (accV oi (pc ls g i).length 1) = _) ?_
   refine gT rfl ?_
   refine aLen (st.rowAcc (sz := 1) (n := (pc ls g i).length) (ob := oi) (4 + i) (tl_at (A := [_, _, _, _]) hoi hi) (by decide) (by rw [List.length_map, Nat.mul_one])) rfl ?_
   refine gT rfl ?_
   refine aN rfl rfl (by constructor) ?_
   refine gT rfl ?_
   refine aLd st 2 rfl rfl rfl (by constructor) ?_
   refine gT rfl ?_
   refine aBinV (.bool false) rfl rfl (gtF (by rw [pc_len]; omega)) ?_
   iterate 2 refine aN rfl rfl (by constructor) ?_
   refine gT rfl ?_
   refine aN rfl rfl (by constructor) ?_
   refine gT rfl ?_
   refine aLdQ st 0 rfl rfl rfl (rfl : (accV oi (pc ls g i).length 1) = _) ?_
   refine gT rfl ?_
   refine aLen (st.rowAcc (sz := 1) (n := (pc ls g i).length) (ob := oi) (4 + i) (tl_at (A := [_, _, _, _]) hoi hi) (by decide) (by rw [List.length_map, Nat.mul_one])) rfl ?_
   refine gT rfl ?_
   refine aBinV (.bool false) rfl rfl (eqF (by rw [pc_len]; omega)) ?_
   iterate 2 refine aN rfl rfl (by constructor) ?_
   refine gT rfl ?_
   refine aN rfl rfl (by constructor) ?_
   refine gT rfl ?_
   refine aLd st 0 rfl rfl rfl (by constructor) ?_
   refine gT rfl ?_
   refine aBinV (.bool (decide (ls.length ≤ (i + 1) * g))) rfl rfl (eqB _ fl_iff) ?_
   refine gT rfl ?_
   refine aN rfl rfl (by constructor) ?_
   refine gT rfl ?_
   refine aN rfl rfl (by constructor) ?_
   refine gT rfl ?_
   refine aN (v := .int .i64 ((zs.length + 1 : Nat) : Int)) rfl rfl (by constructor) ?_
   refine gT rfl ?_
   refine aBinV (.int .i64 ((zs.length : Int) - 1)) rfl rfl (subI (by omega) (by omega)) ?_
   refine gT rfl ?_
   refine aBinV (.bool (decide (ls.length ≤ (i + 1) * g))) rfl rfl (eqB _ (last_iff hlt hle hi)) ?_
   refine gT rfl ?_
   refine aBinV (.bool false) rfl rfl (bneF) ?_
   refine aN rfl rfl (by constructor) ?_
   refine sE ?_
   show AW _ (.cond _ _ _) _ _ _
   refine cF' rfl ?_
   show AWl _ _ _ _ _
   refine aMovA rfl ?_
   refine aN rfl rfl (by constructor) ?_
   refine aLdQ st 0 rfl rfl rfl (rfl : (accV oi (pc ls g i).length 1) = _) ?_
   refine aApp st 3 (ob := og) rfl rfl rfl (by decide) (by rw [List.length_map, Nat.mul_one]) (st.rowAcc (sz := 1) (n := (pc ls g i).length) (ob := oi) (4 + i) (tl_at (A := [_, _, _, _]) hoi hi) (by decide) (by rw [List.length_map, Nat.mul_one])).src (by rw [List.length_map, Nat.mul_one]) (by rw [pc_len, List.length_take]; omega) (by rw [pc_len, List.length_take]; omega) fun b125 H17 hp125 st => ?_
   have st := st.recell 3 rfl (cs' := (ls.take ((i + 1) * g)).map (Value.int .u8)) (by rw [← List.map_append, take_pc])
   refine aMovA rfl ?_
   refine sE ?_
   show AWl _ _ _ _ _
   iterate 3 refine aN rfl rfl (by constructor) ?_
   refine sE ?_
   have st := st.selN (A := _) (T := zs.map (dtE ls g)) [1, 2, 3] (show _ = [_, _, _, _] ++ zs.map (dtE ls g) from rfl) (by decide)
   exact ⟨_, by omega, i + 1, b125, rfl, by omega, congrArg (Value.int .i64) (wi _ (by omega)), congrArg (fun n => accV _ n 1) (by rw [← List.length_append, take_pc]), st⟩
  ·obtain rfl : i = zs.length := by have := of_decide_eq_false h14; omega
   rw [List.take_of_length_le hle] at st ⊢
   show AWl _ _ _ _ _
   iterate 2 refine aN rfl rfl (by constructor) ?_
   refine aN (v := .int .i64 ((zs.length + 1 : Nat) : Int)) rfl rfl (by constructor) ?_
   refine aBinV (.int .i64 (zs.length : Int)) rfl rfl (subI (by omega) (by omega)) ?_
   have hO : Sl H1 14 (zs.map some ++ [none]).length ((zs.map some ++ [none]).flatMap (enE ls g 7 (IntKind.u32.wrap (1 + 1)) 1 zs.length fl rs)) (.slice (some ⟨c45, 0, none⟩) (zs.length + 1) 14) := by rw [hlen]; exact st.rowAll 0 rfl (by rw [← hlen]; exact flat_len' enE_len _)
   refine aIxE enE_len none (l := (zs.map some ++ [none])) hO rfl rfl (by rw [hlen]; omega) fun b130 o130 g130 => ?_
   replace g130 : Hp.get H1 b130 o130 14 = some [.int .u8 33, .int .u8 fl, .int .u8 0, .int .u8 0, .int .u8 0, .int .u32 7, .int .u32 0, .int .u32 1, .int .u32 (IntKind.u32.wrap (1 + 1)), .int .u32 (IntKind.u32.wrap (IntKind.u32.wrap ((IntKind.u32.wrap (1 + 1)) + 16) - 1)), .int .u32 (zs.length : Int), .int .u32 0, .int .u32 rs, .slice none 0 0] := by have h9 := g130; rw [Int.toNat_natCast, en_last] at h9; exact h9
   refine aLdAG rfl g130 ?_
   refine aNewP st rfl rfl (by repeat constructor) fun b14 H18 st => ?_
   refine aSt st 0 rfl rfl rfl rfl (by first | rfl | simp [cellsOf, *]) (by first | decide | (simp [*]; done) | (simp [k8]; done)) (by repeat constructor) fun H19 st => ?_
   refine sE ?_
   show AWl _ _ _ _ _
   refine aMovV (Value.slice px xs.length cx) rfl ?_
   refine aLen (st.slc hx) rfl ?_
   refine aN rfl rfl (by constructor) ?_
   refine aMinV (r := ((min xs.length W : Nat) : Int)) rfl rfl (by split <;> omega) ?_
   refine aN rfl rfl (by constructor) ?_
   refine sE ?_
   show AWl _ _ _ _ _
   refine aN rfl rfl (by constructor) ?_
   refine sE ?_
   show AWl _ _ _ _ _
   refine aN rfl rfl (by constructor) ?_
   refine sE ?_
   show AWl _ _ _ _ _
   refine aMovV (Value.slice px xs.length cx) rfl ?_
   refine aLen (st.slc hx) rfl ?_
   iterate 2 refine aN rfl rfl (by constructor) ?_
   refine sE ?_
   show AW _ (.cond _ _ _) _ _ _
   refine cC' rfl (fun h20 => ?_) (fun h20 => ?_)
   ·have hgt : W < xs.length := by have := of_decide_eq_true h20; omega
    obtain ⟨rfl, rfl⟩ : fl = 132 ∧ rs = ((xs.length - W : Nat) : Int) := by omega
    show AWl _ _ _ _ _
    refine aN rfl rfl (by constructor) ?_
    refine sE ?_
    show AWl _ _ _ _ _
    refine aMovV (Value.slice px xs.length cx) rfl ?_
    refine aLen (st.slc hx) rfl ?_
    refine aN rfl rfl (by constructor) ?_
    refine aBinV (.int .i64 ((xs.length - W : Nat) : Int)) rfl rfl (subI (by omega) (by omega)) ?_
    refine aN rfl rfl (by constructor) ?_
    refine sE ?_
    show AWp _ _ _ _ _
    refine aMovA rfl ?_
    refine aText (st.rowAcc 3 rfl (by decide) (by rw [List.length_map, Nat.mul_one])) rfl ?_
    refine aMovV (Value.slice px xs.length cx) rfl ?_
    refine aN rfl rfl (by constructor) ?_
    refine aCutH (st.slc hx) rfl rfl (by omega) fun v156 s156 => ?_
    replace s156 : ∀ H1, Sl H1 1 xs.length (xs.map (Value.int .u8)) (.slice px xs.length cx) → Sl H1 1 ls.length (ls.map (Value.int .u8)) v156 := fun H1 h1 => by have := s156 H1 h1; rw [Int.toNat_natCast, ← hls] at this; rw [hll]; exact this
    refine aText (s156 _ (st.slc hx)) rfl ?_
    refine aEqSS rfl rfl ?_
    refine aN rfl rfl (by constructor) ?_
    refine gT rfl ?_
    refine aN rfl rfl (by constructor) ?_
    refine gT rfl ?_
    refine aLd st 0 rfl rfl rfl (by constructor) ?_
    refine gT rfl ?_
    refine aBinV (.bool true) rfl rfl rfl ?_
    iterate 2 refine aN rfl rfl (by constructor) ?_
    refine gT rfl ?_
    refine aN rfl rfl (by constructor) ?_
    refine gT rfl ?_
    refine aLd st 0 rfl rfl rfl (by constructor) ?_
    refine gT rfl ?_
    refine aN rfl rfl (by constructor) ?_
    refine gT rfl ?_
    refine aBinV (.bool true) rfl rfl rfl ?_
    iterate 2 refine aN rfl rfl (by constructor) ?_
    refine gT rfl ?_
    refine aN rfl rfl (by constructor) ?_
    refine gT rfl ?_
    refine aN rfl rfl (by constructor) ?_
    refine gT rfl ?_
    refine aLd st 0 rfl rfl rfl (by constructor) ?_
    refine gT rfl ?_
    refine aConvV (n' := ((xs.length - W : Nat) : Int)) rfl (c64 (by omega)) ?_
    refine gT rfl ?_
    refine aN rfl rfl (by constructor) ?_
    refine gT rfl ?_
    refine aBinV (.bool true) rfl rfl (eqT rfl) ?_
    iterate 2 refine aN rfl rfl (by constructor) ?_
    refine gT rfl ?_
    refine aN rfl rfl (by constructor) ?_
    refine gT rfl ?_
    refine aN rfl rfl (by constructor) ?_
    refine gT rfl ?_
    refine aLd st 0 rfl rfl rfl (by constructor) ?_
    refine gT rfl ?_
    refine aConvV (n' := (zs.length : Int)) rfl (by first | exact c64 (by omega) | exact c32w (by omega)) ?_
    refine gT rfl ?_
    refine aN rfl rfl (by constructor) ?_
    refine gT rfl ?_
    refine aN (v := .int .i64 ((zs.length + 1 : Nat) : Int)) rfl rfl (by constructor) ?_
    refine gT rfl ?_
    refine aBinV (.int .i64 (zs.length : Int)) rfl rfl (subI (by omega) (by omega)) ?_
    refine gT rfl ?_
    refine aBinV (.bool true) rfl rfl (eqT rfl) ?_
    iterate 2 refine aN rfl rfl (by constructor) ?_
    refine pE ?_
    refine ⟨_, out1 (r_tmp rfl (by constructor)), ?_⟩
    rfl
   ·have hgt : xs.length ≤ W := by have := of_decide_eq_false h20; omega
    show AWl _ _ _ _ _
    refine aMovV (Value.slice px xs.length cx) rfl ?_
    refine aLen (st.slc hx) rfl ?_
    iterate 2 refine aN rfl rfl (by constructor) ?_
    refine sE ?_
    show AW _ (.cond _ _ _) _ _ _
    refine cC' rfl (fun h21 => ?_) (fun h21 => ?_)
    ·have hlt2 : xs.length < W := by have := of_decide_eq_true h21; omega
     obtain ⟨rfl, rfl⟩ : fl = 130 ∧ rs = ((W - xs.length : Nat) : Int) := by omega
     show AWl _ _ _ _ _
     refine aN rfl rfl (by constructor) ?_
     refine sE ?_
     show AWl _ _ _ _ _
     refine aN rfl rfl (by constructor) ?_
     refine aMovV (Value.slice px xs.length cx) rfl ?_
     refine aLen (st.slc hx) rfl ?_
     refine aBinV (.int .i64 ((W - xs.length : Nat) : Int)) rfl rfl (subI (by omega) (by omega)) ?_
     refine aN rfl rfl (by constructor) ?_
     refine sE ?_
     show AWp _ _ _ _ _
     refine aMovA rfl ?_
     refine aText (st.rowAcc 3 rfl (by decide) (by rw [List.length_map, Nat.mul_one])) rfl ?_
     refine aMovV (Value.slice px xs.length cx) rfl ?_
     refine aN rfl rfl (by constructor) ?_
     refine aCutH (st.slc hx) rfl rfl (by omega) fun v156 s156 => ?_
     replace s156 : ∀ H1, Sl H1 1 xs.length (xs.map (Value.int .u8)) (.slice px xs.length cx) → Sl H1 1 ls.length (ls.map (Value.int .u8)) v156 := fun H1 h1 => by have := s156 H1 h1; rw [Int.toNat_natCast, ← hls] at this; rw [hll]; exact this
     refine aText (s156 _ (st.slc hx)) rfl ?_
     refine aEqSS rfl rfl ?_
     refine aN rfl rfl (by constructor) ?_
     refine gT rfl ?_
     refine aN rfl rfl (by constructor) ?_
     refine gT rfl ?_
     refine aLd st 0 rfl rfl rfl (by constructor) ?_
     refine gT rfl ?_
     refine aBinV (.bool true) rfl rfl rfl ?_
     iterate 2 refine aN rfl rfl (by constructor) ?_
     refine gT rfl ?_
     refine aN rfl rfl (by constructor) ?_
     refine gT rfl ?_
     refine aLd st 0 rfl rfl rfl (by constructor) ?_
     refine gT rfl ?_
     refine aN rfl rfl (by constructor) ?_
     refine gT rfl ?_
     refine aBinV (.bool true) rfl rfl rfl ?_
     iterate 2 refine aN rfl rfl (by constructor) ?_
     refine gT rfl ?_
     refine aN rfl rfl (by constructor) ?_
     refine gT rfl ?_
     refine aN rfl rfl (by constructor) ?_
     refine gT rfl ?_
     refine aLd st 0 rfl rfl rfl (by constructor) ?_
     refine gT rfl ?_
     refine aConvV (n' := ((W - xs.length : Nat) : Int)) rfl (c64 (by omega)) ?_
     refine gT rfl ?_
     refine aN rfl rfl (by constructor) ?_
     refine gT rfl ?_
     refine aBinV (.bool true) rfl rfl (eqT rfl) ?_
     iterate 2 refine aN rfl rfl (by constructor) ?_
     refine gT rfl ?_
     refine aN rfl rfl (by constructor) ?_
     refine gT rfl ?_
     refine aN rfl rfl (by constructor) ?_
     refine gT rfl ?_
     refine aLd st 0 rfl rfl rfl (by constructor) ?_
     refine gT rfl ?_
     refine aConvV (n' := (zs.length : Int)) rfl (by first | exact c64 (by omega) | exact c32w (by omega)) ?_
     refine gT rfl ?_
     refine aN rfl rfl (by constructor) ?_
     refine gT rfl ?_
     refine aN (v := .int .i64 ((zs.length + 1 : Nat) : Int)) rfl rfl (by constructor) ?_
     refine gT rfl ?_
     refine aBinV (.int .i64 (zs.length : Int)) rfl rfl (subI (by omega) (by omega)) ?_
     refine gT rfl ?_
     refine aBinV (.bool true) rfl rfl (eqT rfl) ?_
     iterate 2 refine aN rfl rfl (by constructor) ?_
     refine pE ?_
     refine ⟨_, out1 (r_tmp rfl (by constructor)), ?_⟩
     rfl
    ·have hlt2 : xs.length = W := by have := of_decide_eq_false h21; omega
     obtain ⟨rfl, rfl⟩ : fl = 128 ∧ rs = 0 := by omega
     show AWp _ _ _ _ _
     refine aMovA rfl ?_
     refine aText (st.rowAcc 3 rfl (by decide) (by rw [List.length_map, Nat.mul_one])) rfl ?_
     refine aMovV (Value.slice px xs.length cx) rfl ?_
     refine aN rfl rfl (by constructor) ?_
     refine aCutH (st.slc hx) rfl rfl (by omega) fun v156 s156 => ?_
     replace s156 : ∀ H1, Sl H1 1 xs.length (xs.map (Value.int .u8)) (.slice px xs.length cx) → Sl H1 1 ls.length (ls.map (Value.int .u8)) v156 := fun H1 h1 => by have := s156 H1 h1; rw [Int.toNat_natCast, ← hls] at this; rw [hll]; exact this
     refine aText (s156 _ (st.slc hx)) rfl ?_
     refine aEqSS rfl rfl ?_
     refine aN rfl rfl (by constructor) ?_
     refine gT rfl ?_
     refine aN rfl rfl (by constructor) ?_
     refine gT rfl ?_
     refine aLd st 0 rfl rfl rfl (by constructor) ?_
     refine gT rfl ?_
     refine aBinV (.bool true) rfl rfl rfl ?_
     iterate 2 refine aN rfl rfl (by constructor) ?_
     refine gT rfl ?_
     refine aN rfl rfl (by constructor) ?_
     refine gT rfl ?_
     refine aLd st 0 rfl rfl rfl (by constructor) ?_
     refine gT rfl ?_
     refine aN rfl rfl (by constructor) ?_
     refine gT rfl ?_
     refine aBinV (.bool true) rfl rfl rfl ?_
     iterate 2 refine aN rfl rfl (by constructor) ?_
     refine gT rfl ?_
     refine aN rfl rfl (by constructor) ?_
     refine gT rfl ?_
     refine aN rfl rfl (by constructor) ?_
     refine gT rfl ?_
     refine aLd st 0 rfl rfl rfl (by constructor) ?_
     refine gT rfl ?_
     refine aConvV (n' := 0) rfl (c64 (by omega)) ?_
     refine gT rfl ?_
     refine aN rfl rfl (by constructor) ?_
     refine gT rfl ?_
     refine aBinV (.bool true) rfl rfl (eqT rfl) ?_
     iterate 2 refine aN rfl rfl (by constructor) ?_
     refine gT rfl ?_
     refine aN rfl rfl (by constructor) ?_
     refine gT rfl ?_
     refine aN rfl rfl (by constructor) ?_
     refine gT rfl ?_
     refine aLd st 0 rfl rfl rfl (by constructor) ?_
     refine gT rfl ?_
     refine aConvV (n' := (zs.length : Int)) rfl (by first | exact c64 (by omega) | exact c32w (by omega)) ?_
     refine gT rfl ?_
     refine aN rfl rfl (by constructor) ?_
     refine gT rfl ?_
     refine aN (v := .int .i64 ((zs.length + 1 : Nat) : Int)) rfl rfl (by constructor) ?_
     refine gT rfl ?_
     refine aBinV (.int .i64 (zs.length : Int)) rfl rfl (subI (by omega) (by omega)) ?_
     refine gT rfl ?_
     refine aBinV (.bool true) rfl rfl (eqT rfl) ?_
     iterate 2 refine aN rfl rfl (by constructor) ?_
     refine pE ?_
     refine ⟨_, out1 (r_tmp rfl (by constructor)), ?_⟩
     rfl
theorem args3 {P : Program} {H : Hp} {B D : Nat} {a b c : TypeId} {xs : List Value} (h : datArgs P H B D [a, b, c] xs) : ∃ x0 x1 x2, xs = [x0, x1, x2] ∧ datV P H B D a x0 ∧ datV P H B D b x1 ∧ datV P H B D c x2 := by
  match xs, h with
  | [x0, x1, x2], ⟨d0, d1, d2, _⟩ => exact ⟨x0, x1, x2, rfl, d0, d1, d2⟩
theorem sessReads_law {H : Hp} {B : Nat} {xs : List Value} (hro : Ro H) (hd : datArgs Try.prog H B 8 [23, 45, 45] xs) : ACalls Try.prog 7 xs H fun v _ => v = .bool true := by
  obtain ⟨x0, x1, x2, rfl, d0, d1, d2⟩ := args3 hd
  obtain ⟨k, hx, wk, lk, _⟩ := arg_ints (e := 5) (k := .u8) (by kernel_rfl) (by kernel_rfl) (by kernel_rfl) d0
  obtain ⟨a, rfl, wa⟩ := arg_int (k := .u16) (by kernel_rfl) d1
  obtain ⟨b, rfl, wb⟩ := arg_int (k := .u16) (by kernel_rfl) d2
  obtain ⟨a, rfl⟩ := Int.eq_ofNat_of_zero_le (r16 wa).1
  obtain ⟨b, rfl⟩ := Int.eq_ofNat_of_zero_le (r16 wb).1
  have ha := (r16 wa).2
  have hb := (r16 wb).2
  exact reads_call hx (by omega) (by omega)

end Go.Proofs.Ytloeadlmcdddnaa.Abs
