/- PiPacks, PiBack: the laws. -/
import Derived.Test.YtbbdggmnjkkjkaaPK9
import Derived.Test.YtbbdggmnjkkjkaaN2
set_option linter.unusedVariables false
set_option linter.unusedSimpArgs false
namespace Go.Proofs.Ytbbdggmnjkkjkaa.Abs
open Go Go.RowKit
theorem blocks_of {H : Hp} {B : Nat} {x : Value} (h : datV Try.prog H B 8 36 x) : ∃ bs : List Bk, Sl H 19 bs.length (encs bs) x ∧ BksOk bs ∧ bs.length * 24 ≤ 140737488351232 ∧ bs.length ≤ B := by
  obtain ⟨n, cs, hs, hb, hB, hd⟩ := arg_slice (T := 36) (e := 33) (c := 19) (by kernel_rfl) (by kernel_rfl) h
  obtain ⟨bs, rfl, rfl, hok⟩ := parts_of Bk.enc Bk.ok 19 (fun b hb => Bk_len hb) n cs hs.1 fun i hi => by
    have h1 := hd i hi
    generalize (cs.drop (i * 19)).take 19 = us at h1
    have hl : us.length = 19 := dat_len (by kernel_rfl) (by kernel_rfl) h1
    have f0 := dat_field (ft := 23) 0 0 16 (by kernel_rfl) (by kernel_rfl) (by kernel_rfl) h1
    have f1 := dat_field (ft := 28) 1 16 3 (by kernel_rfl) (by kernel_rfl) (by kernel_rfl) h1
    rw [List.drop_zero] at f0
    obtain ⟨d, hd, hdl, hdb⟩ := dat_bytes (e := 5) (n := 16) (by kernel_rfl) (by kernel_rfl) (by kernel_rfl) (by kernel_rfl) f0
    have g0 := dat_field (ft := 24) 0 0 1 (by kernel_rfl) (by kernel_rfl) (by kernel_rfl) f1
    have g1 := dat_field (ft := 24) 1 1 1 (by kernel_rfl) (by kernel_rfl) (by kernel_rfl) f1
    have g2 := dat_field (ft := 26) 2 2 1 (by kernel_rfl) (by kernel_rfl) (by kernel_rfl) f1
    obtain ⟨g, eg, wg⟩ := dat_int (k := .u16) (by kernel_rfl) g0
    obtain ⟨a, ea, wa⟩ := dat_int (k := .u16) (by kernel_rfl) g1
    obtain ⟨r, er, wr⟩ := dat_int (k := .u32) (by kernel_rfl) g2
    refine ⟨⟨d, g, a, r⟩, ⟨hdl, hdb, r16 wg, r16 wa, r32 wr⟩, ?_⟩
    have e1 : us.take 16 ++ us.drop 16 = us := List.take_append_drop 16 us
    have l2 : (us.drop 16).length = 3 := by rw [List.length_drop]; omega
    rw [List.take_of_length_le (l := us.drop 16) (by omega)] at eg ea er
    show us = d.map (Value.int .u8) ++ [.int .u16 g, .int .u16 a, .int .u32 r]
    rw [← e1, hd]
    congr 1
    generalize us.drop 16 = q at *
    match q, l2 with
    | [u, v, w], _ =>
      simp at eg ea er
      rw [eg, ea, er]
  have hbt : Try.prog.bytesOf 33 = 24 := by kernel_rfl
  rw [hbt] at hb
  exact ⟨bs, hs, hok, hb, hB⟩
theorem piBack_law {H : Hp} {B : Nat} {xs : List Value} (hro : Ro H) (hd : datArgs Try.prog H B 8 [36, 5] xs) : ACalls Try.prog 6 xs H fun v _ => v = .bool true := by
  match xs, hd with
  | [x0, x1], ⟨d0, d1, _⟩ =>
  obtain ⟨bs, hs, hok, hb, _⟩ := blocks_of d0
  obtain ⟨more, rfl, wm⟩ := arg_int (k := .u8) (by kernel_rfl) d1
  exact back_call hs hok hb (r8 wm)
theorem piPacks_law {H : Hp} {xs : List Value} (hro : Ro H) (hd : datArgs Try.prog H 1048576 8 [36, 37, 4] xs) : ACalls Try.prog 5 xs H fun v _ => v = .bool true := by
  match xs, hd with
  | [x0, x1, x2], ⟨d0, d1, d2, _⟩ =>
  obtain ⟨bs, hs, hok, hb, _⟩ := blocks_of d0
  obtain ⟨p, hp, wp, _, hB⟩ := arg_ints (e := 5) (k := .u8) (by kernel_rfl) (by kernel_rfl) (by kernel_rfl) d1
  obtain ⟨w, rfl⟩ := arg_bool (by kernel_rfl) d2
  cases w with
  | true => exact packs_true hs hok hb hp (wf_bytes wp) (by omega)
  | false => exact packs_false hs hok hb hp (wf_bytes wp) (by omega)
end Go.Proofs.Ytbbdggmnjkkjkaa.Abs
