/- PDUs in pieces: all of a text. -/
import Derived.Test.YtfjlniemgmimnaaV0
import Derived.Test.YtfjlniemgmimnaaP5
set_option linter.unusedVariables false
set_option linter.unusedSimpArgs false
set_option maxRecDepth 100000
namespace Go.Proofs.Ytfjlniemgmimnaa.Abs
open Go Go.RowKit
@[reducible] def PZ : Type := Pd × Option Nat
def pdE (z : PZ) : List Value := [.int .u8 z.1.op, .int .u8 z.1.fl, .int .u8 z.1.res, .int .u8 z.1.st, .int .u8 z.1.lun, .int .u32 z.1.tag, .int .u32 z.1.w0, .int .u32 z.1.w1, .int .u32 z.1.w2, .int .u32 z.1.w3, .int .u32 z.1.w4, .int .u32 z.1.w5, .int .u32 z.1.w6, accV z.2 z.1.data.length 1]
theorem pdE_len (z : PZ) : (pdE z).length = 14 := rfl
def dsE (z : PZ) : Ent := ⟨z.2, true, ⟨true, 5, (z.1.data).map (Value.int .u8)⟩⟩
section
variable {X : List Nat} {H0 H : Hp} {T : List Ent} {a b c e : Ent}
theorem Stt.allStep (st : Stt X H0 H (e :: c :: b :: a :: T)) : Stt X H0 H (a :: (T ++ [b])) := by
  have h : Stt X H0 H (b :: a :: T) := st.sub (fun p hp => List.mem_cons_of_mem _ (List.mem_cons_of_mem _ hp)) (by
    refine List.Nodup.sublist (List.Sublist.filterMap _ ?_) st.dis
    exact List.Sublist.cons _ (List.Sublist.cons _ (List.Sublist.refl _)))
  refine h.swap ?_
  exact (List.Perm.swap a b T).trans (List.Perm.cons a (List.perm_append_singleton b T).symm)
theorem Stt.allEnd (st : Stt X H0 H (c :: b :: a :: T)) : Stt X H0 H (a :: T) := st.sub (fun p hp => List.mem_cons_of_mem _ (List.mem_cons_of_mem _ hp)) (by
  refine List.Nodup.sublist (List.Sublist.filterMap _ ?_) st.dis
  exact List.Sublist.cons _ (List.Sublist.cons _ (List.Sublist.refl _)))
end
theorem dec_len48 {xs : List Int} {h d : Bool} (he : decE xs h d = 0) : 48 ≤ decN xs h d ∧ decN xs h d ≤ xs.length := by
  have h1 := dec_len he
  obtain ⟨_, p2⟩ := decP_yes he
  have al := atN_le h
  refine ⟨?_, h1.2⟩
  rw [p2]
  unfold endN
  omega
theorem all_call {H : Hp} {xs : List Int} {x : Value} {hd dt : Bool} (hx : Sl H 1 xs.length (xs.map (Value.int .u8)) x) (hb : ByteL xs) (hl : xs.length ≤ 1000000) :
  ACalls Try.prog 19 [x, .bool hd, .bool dt] H (fun v H' => ∃ (zs : List PZ) (oc : Option Nat) (e : Int), v = .tuple #[accV oc zs.length 14, .int .i64 e] ∧ Stt [] H H' (⟨oc, true, ⟨true, 26, (zs).flatMap pdE⟩⟩ :: zs.map dsE) ∧ AllR hd dt xs (zs.map (·.1)) e) := by
 refine acallsW Try.func19 f19_ok (Nat.le_of_ble_eq_true rfl) fun hw => ?_
 have st : Stt [] H H [] := Stt.start hw
 unfold f19c
 show AWl _ _ _ _ _
 iterate 2 refine aN rfl rfl (by constructor) ?_
 refine sE ?_
 show AWl _ _ _ _ _
 refine aN rfl rfl (by constructor) ?_
 refine sE ?_
 show AW _ (.loop _) _ _ _
 have st := st.nil 26
 have hy0 : ∀ ps e, AllR hd dt xs ps e → AllR hd dt xs (([] : List PZ).map (·.1) ++ ps) e := fun _ _ h => h
 refine AW_loopN (fun m t1 H1 => ∃ (zs : List PZ) (ys : List Int) (y : Value) (oc : Option Nat), m = ys.length ∧ (Sl H 1 ys.length (ys.map (Value.int .u8)) y) ∧ (ByteL ys) ∧ (48 * zs.length + ys.length ≤ xs.length) ∧ (∀ ps e, AllR hd dt ys ps e → AllR hd dt xs (zs.map (·.1) ++ ps) e) ∧ t1 0 = y ∧ t1 8 = accV oc zs.length 14 ∧ Stt [] H H1 ([⟨oc, true, ⟨true, 26, (zs).flatMap pdE⟩⟩] ++ zs.map dsE)) xs.length ⟨[], xs, x, none, rfl, hx, hb, by simp, hy0, rfl, rfl, (st.sel [0] (by decide))⟩ [0, 6, 7, 8, 9, 10, 11, 12, 13, 14, 15, 16, 17, 18, 19, 20, 21, 22, 23, 24, 25, 26, 27, 28, 29, 30] (by decide) ?_
 rintro m t1 H1 hk hI
 obtain ⟨zs, ys, y, oc, rfl, hy, hyb, hyl, hya, ht0, ht8, st⟩ := hI
 obtain ⟨u, rfl⟩ : ∃ u, t1 = (upd (upd (mix [0, 6, 7, 8, 9, 10, 11, 12, 13, 14, 15, 16, 17, 18, 19, 20, 21, 22, 23, 24, 25, 26, 27, 28, 29, 30] _ u) (some 0) _) (some 8) _) := ⟨t1, by rw [← hk, upd_self ht0, upd_self ht8]⟩
 clear hk ht0 ht8
 show AWl _ _ _ _ _
 refine aMovV y rfl ?_
 iterate 2 refine aN rfl rfl (by constructor) ?_
 refine aC (rdec_call (st.slc hy) hyb (by omega)) fun v16 H1 ⟨ob16, hv, st1⟩ => ?_
 subst hv
 replace st := st.call st1 rfl
 clear st1
 iterate 4 refine aN rfl rfl (by constructor) ?_
 refine aNewP st rfl rfl (by repeat constructor) fun b9 H2 st => ?_
 refine aSt st 0 rfl rfl rfl rfl (by first | rfl | simp [cellsOf, *]) (by first | decide | (simp [*]; done) | (simp [k8]; done)) (by repeat constructor) fun H3 st => ?_
 iterate 2 refine aN rfl rfl (by constructor) ?_
 refine sE ?_
 show AWl _ _ _ _ _
 iterate 2 refine aN rfl rfl (by constructor) ?_
 refine sE ?_
 show AW _ (.cond _ _ _) _ _ _
 refine cC' rfl (fun h4 => ?_) (fun h4 => ?_)
 ·have h0 : decE ys hd dt ≠ 0 := by simpa using h4
  show AWl _ _ _ _ _
  refine aMovA rfl ?_
  refine aN rfl rfl (by constructor) ?_
  refine aMovA rfl ?_
  refine aN rfl rfl (by constructor) ?_
  refine sE ?_
  refine ⟨_, out2 (r_acc rfl) (r_tmp rfl (by constructor)) ⟨notTup_acc, rfl⟩, ?_⟩
  exact ⟨zs, oc, decE ys hd dt, rfl, st.allEnd, by have h9 := hya [] _ (.stop h0); rwa [List.append_nil] at h9⟩
 ·have h0 : decE ys hd dt = 0 := by simpa using h4
  have hdn := dec_len48 h0
  show AWl _ _ _ _ _
  refine aMovA rfl ?_
  refine aLdA st 0 rfl rfl (by first | decide | simp [*]) (by repeat constructor) ?_
  refine aLit st rfl (by repeat constructor) fun b26 H5 st => ?_
  refine aApp st 3 (ob := oc) rfl rfl rfl (by decide) (by exact flat_len' pdE_len _) (st.rowAll 0 rfl (by first | rfl | (simp [beB_len, *]; done) | (simp [beB_len, *]; omega))).src (by first | rfl | simp) (by omega) (by omega) fun b27 H6 hp27 st => ?_
  refine aMovA rfl ?_
  refine sE ?_
  show AWl _ _ _ _ _
  refine aMovV y rfl ?_
  refine aN rfl rfl (by constructor) ?_
  refine aCutL (st.slc hy) rfl rfl (by omega) fun v30 s30 => ?_
  replace s30 := s30 _ hy
  refine aMovV v30 rfl ?_
  refine sE ?_
  have st := st.recell 3 rfl (cs' := (zs ++ [(decP ys hd dt, ob16)]).flatMap pdE) (flat_snoc rfl rfl)
  have st := st.allStep
  refine ⟨_, ?_, zs ++ [(decP ys hd dt, ob16)], ys.drop (decN ys hd dt), v30, b27, rfl, ?_, hyb.drop _, ?_, ?_, rfl, ?_, ?_⟩
  ·rw [List.length_drop]; omega
  ·rw [List.length_drop]; exact s30
  ·rw [List.length_append, List.length_singleton, List.length_drop]; omega
  ·intro ps e h; rw [List.map_append, List.append_assoc]; exact hya _ _ (.step h0 h)
  ·exact congrArg (fun n => accV _ n 14) (by rw [List.length_append]; rfl)
  ·rw [List.map_append]; exact st
end Go.Proofs.Ytfjlniemgmimnaa.Abs
