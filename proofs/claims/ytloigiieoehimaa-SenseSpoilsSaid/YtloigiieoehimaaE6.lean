/- Sense: the formats. -/
import Derived.Test.YtloigiieoehimaaE5
set_option linter.unusedVariables false
set_option linter.unusedSimpArgs false
set_option maxRecDepth 100000
namespace Go.Proofs.Ytloigiieoehimaa.Abs
open Go Go.RowKit
theorem rdesc_call {H : Hp} {s : Sn} (hs : s.wf) :
    ACalls Try.prog 12 [.agg #[.int .u8 s.key, .int .u16 s.code, .int .u64 s.info, .bool s.hi, .int .i64 s.fld, .int .i64 s.bit, .bool s.hf, .bool s.ic]] H (fun v H' => ∃ ob, v = .tuple #[accV ob (descR s).length 1, .int .i64 (descE s)] ∧ Stt [] H H' [⟨ob, true, ⟨true, 5, (descR s).map (Value.int .u8)⟩⟩]) := by
  refine acallsW Try.func12 f12_ok (Nat.le_of_ble_eq_true rfl) fun hw => ?_
  have st : Stt [] H H [] := Stt.start hw
  unfold f12c
  show AWl _ _ _ _ _
  refine aBoxN st rfl rfl (by repeat constructor) rfl fun b1 H1 st => ?_
  refine aN rfl rfl (by constructor) ?_
  refine aN rfl rfl (by constructor) ?_
  refine sE ?_
  show AWl _ _ _ _ _
  refine aLdA st 0 rfl rfl (by first | decide | simp [*]) (by repeat constructor) ?_
  refine aC (rform_call hs) fun v7 H2 ⟨hv, st1⟩ => ?_
  subst hv
  replace st := st.call st1 rfl
  clear st1
  refine aN rfl rfl (by constructor) ?_
  refine sE ?_
  show AW _ (.cond _ _ _) _ _ _
  refine cC' rfl (fun h3 => ?_) (fun h3 => ?_)
  · have h3n : formS s = false := by simpa using h3
    show AWl _ _ _ _ _
    refine aN rfl rfl (by constructor) ?_
    refine aN rfl rfl (by constructor) ?_
    refine sE ?_
    refine ⟨_, out2 (r_tmp rfl (by constructor)) (r_tmp rfl (by constructor)) ⟨rfl, rfl⟩, ?_⟩
    have hE : descE s = 3 := by unfold descE; rw [if_pos h3n]
    have hR : descR s = [] := by unfold descR; rw [hE]; rfl
    exact ⟨none, by rw [hR, hE]; rfl, by rw [hR]; exact (st.nil 5).pick 0 rfl⟩
  · have h3n : formS s = true := by simpa using h3
    show AWl _ _ _ _ _
    refine aN rfl rfl (by constructor) ?_
    refine sE ?_
    show AWl _ _ _ _ _
    refine aN rfl rfl (by constructor) ?_
    refine aLd st 0 rfl rfl rfl (by constructor) ?_
    refine sE ?_
    show AW _ (.cond _ _ _) _ _ _
    refine cC' rfl (fun h4 => ?_) (fun h4 => ?_)
    · show AWl _ _ _ _ _
      refine aN rfl rfl (by constructor) ?_
      refine aLit st rfl (by repeat constructor) fun b12 H5 st => ?_
      have st := st.nil 5
      have hnil : (Value.slice none 0 0) = accV none 0 1 := rfl
      refine aAppP st 0 (ob := none) (n := 0) rfl rfl rfl (by decide) (rfl) (st.rowAll 1 rfl (by first | rfl | (simp [beB_len, *]; done) | (simp [beB_len, *]; omega))).src (by first | rfl | (simp [beB_len, *]; done) | (simp [beB_len, *]; omega)) (by first | decide | omega | (simp; omega)) (by first | decide | omega | (simp; omega)) (by first | decide | omega | (simp; omega)) (by repeat constructor) fun b13 H6 st => ?_
      refine aN rfl rfl (by constructor) ?_
      refine sE ?_
      show AWl _ _ _ _ _
      refine aN rfl rfl (by constructor) ?_
      refine aN rfl rfl (by constructor) ?_
      refine aLd st 2 rfl rfl rfl (by constructor) ?_
      refine aC (big_call (n := 8) (by decide)) fun v17 H7 ⟨b17, hv, st1⟩ => ?_
      subst hv
      replace st := st.call st1 rfl
      clear st1
      refine aAppP st 1 (ob := some b13) rfl rfl rfl (by decide) (by first | rfl | (simp [beB_len, *]; done) | (simp [beB_len, *]; omega)) (st.rowAll 0 rfl (by simp [beB_len])).src (by first | rfl | (simp [beB_len, *]; done) | (simp [beB_len, *]; omega)) (by first | decide | omega | (simp; omega)) (by first | decide | omega | (simp; omega)) (by first | decide | omega | (simp; omega)) (by repeat constructor) fun b18 H8 st => ?_
      refine aN rfl rfl (by constructor) ?_
      refine sE ?_
      show AWl _ _ _ _ _
      refine aN rfl rfl (by constructor) ?_
      refine aLd st 3 rfl rfl rfl (by constructor) ?_
      refine sE ?_
      show AW _ (.cond _ _ _) _ _ _
      refine cC' rfl (fun h9 => ?_) (fun h9 => ?_)
      · show AWl _ _ _ _ _
        refine aN rfl rfl (by constructor) ?_
        refine aLit st rfl (by repeat constructor) fun b22 H10 st => ?_
        refine aAppP st 2 (ob := some b18) rfl rfl rfl (by decide) (by first | rfl | (simp [beB_len, *]; done) | (simp [beB_len, *]; omega)) (st.rowAll 0 rfl (by first | rfl | (simp [beB_len, *]; done) | (simp [beB_len, *]; omega))).src (by first | rfl | (simp [beB_len, *]; done) | (simp [beB_len, *]; omega)) (by first | decide | omega | (simp; omega)) (by first | decide | omega | (simp; omega)) (by first | decide | omega | (simp; omega)) (by repeat constructor) fun b23 H11 st => ?_
        refine aN rfl rfl (by constructor) ?_
        refine sE ?_
        show AWl _ _ _ _ _
        refine aN rfl rfl (by constructor) ?_
        refine aLdA st 4 rfl rfl (by first | decide | simp [*]) (by repeat constructor) ?_
        refine aC (rkey_call (form_key h3n h9)) fun v26 H12 ⟨b26, hv, st1⟩ => ?_
        subst hv
        replace st := st.call st1 rfl
        clear st1
        refine aAppP st 3 (ob := some b23) rfl rfl rfl (by decide) (by first | rfl | (simp [beB_len, *]; done) | (simp [beB_len, *]; omega)) (st.rowAll 0 rfl (rfl)).src (by first | rfl | (simp [beB_len, *]; done) | (simp [beB_len, *]; omega)) (by first | decide | omega | (simp; omega)) (by first | decide | omega | (simp; omega)) (by first | decide | omega | (simp; omega)) (by repeat constructor) fun b27 H13 st => ?_
        refine aN rfl rfl (by constructor) ?_
        refine sE ?_
        show AWl _ _ _ _ _
        refine aN rfl rfl (by constructor) ?_
        refine aLit st rfl (by repeat constructor) fun b29 H14 st => ?_
        refine aAppP st 4 (ob := some b27) rfl rfl rfl (by decide) (by first | rfl | (simp [beB_len, *]; done) | (simp [beB_len, *]; omega)) (st.rowAll 0 rfl (by first | rfl | (simp [beB_len, *]; done) | (simp [beB_len, *]; omega))).src (by first | rfl | (simp [beB_len, *]; done) | (simp [beB_len, *]; omega)) (by first | decide | omega | (simp; omega)) (by first | decide | omega | (simp; omega)) (by first | decide | omega | (simp; omega)) (by repeat constructor) fun b30 H15 st => ?_
        refine aN rfl rfl (by constructor) ?_
        refine sE ?_
        show AWl _ _ _ _ _
        refine aN rfl rfl (by constructor) ?_
        refine aLd st 6 rfl rfl rfl (by constructor) ?_
        refine aLit st rfl (by repeat constructor) fun b33 H16 st => ?_
        refine aN rfl rfl (by constructor) ?_
        refine sE ?_
        show AWl _ _ _ _ _
        refine aN rfl rfl (by constructor) ?_
        refine aN rfl rfl (by constructor) ?_
        refine aLd st 7 rfl rfl rfl (by constructor) ?_
        refine aN rfl rfl (by constructor) ?_
        refine aC (big_call (n := 2) (by decide)) fun v38 H17 ⟨b38, hv, st1⟩ => ?_
        subst hv
        replace st := st.call st1 rfl
        clear st1
        refine aAppP st 1 (ob := some b33) rfl rfl rfl (by decide) (by first | rfl | (simp [beB_len, *]; done) | (simp [beB_len, *]; omega)) (st.rowAll 0 rfl (by simp [beB_len])).src (by first | rfl | (simp [beB_len, *]; done) | (simp [beB_len, *]; omega)) (by first | decide | omega | (simp; omega)) (by first | decide | omega | (simp; omega)) (by first | decide | omega | (simp; omega)) (by repeat constructor) fun b39 H18 st => ?_
        refine aN rfl rfl (by constructor) ?_
        refine sE ?_
        show AWl _ _ _ _ _
        refine aN rfl rfl (by constructor) ?_
        refine aN rfl rfl (by constructor) ?_
        refine aN rfl rfl (by constructor) ?_
        refine aN rfl rfl (by constructor) ?_
        refine aLit st rfl (by repeat constructor) fun b44 H19 st => ?_
        refine aAppP st 2 (ob := some b39) rfl rfl rfl (by decide) (by first | rfl | (simp [beB_len, *]; done) | (simp [beB_len, *]; omega)) (st.rowAll 0 rfl (by first | rfl | (simp [beB_len, *]; done) | (simp [beB_len, *]; omega))).src (by first | rfl | (simp [beB_len, *]; done) | (simp [beB_len, *]; omega)) (by first | decide | omega | (simp; omega)) (by first | decide | omega | (simp; omega)) (by first | decide | omega | (simp; omega)) (by repeat constructor) fun b45 H20 st => ?_
        refine aN rfl rfl (by constructor) ?_
        refine sE ?_
        show AWl _ _ _ _ _
        refine aN rfl rfl (by constructor) ?_
        refine aN rfl rfl (by constructor) ?_
        refine aAppP st 2 (ob := some b45) rfl rfl rfl (by decide) (by first | rfl | (simp [beB_len, *]; done) | (simp [beB_len, *]; omega)) (st.rowAll 7 rfl (by first | rfl | (simp [beB_len, *]; done) | (simp [beB_len, *]; omega))).src (by first | rfl | (simp [beB_len, *]; done) | (simp [beB_len, *]; omega)) (by first | decide | omega | (simp; omega)) (by first | decide | omega | (simp; omega)) (by first | decide | omega | (simp; omega)) (by repeat constructor) fun b48 H21 st => ?_
        refine aN rfl rfl (by constructor) ?_
        refine aN rfl rfl (by constructor) ?_
        refine sE ?_
        refine ⟨_, out2 (r_tmp rfl (by constructor)) (r_tmp rfl (by constructor)) ⟨rfl, rfl⟩, ?_⟩
        have hE : descE s = 0 := by unfold descE; rw [if_neg (by simp [h3n])]
        have hR : descR s = descB s := if_pos hE
        have st2 := st.pick 2 rfl
        have e : descR s = _ := hR
        refine ⟨some b48, ?_, ?_⟩
        · rw [hR, hE]; have hlen : (descB s).length = 28 := by simp [descB, beB_len, keyB, h4, h9]
          rw [hlen]; rfl
        · rw [hR]; simpa [descB, beB, keyB, sen16, sen16b, or240, wi20, sen8 hs.2.1, w8, w64, u64id (show 0 ≤ s.code ∧ s.code < 18446744073709551616 by have := hs.2.1; omega), h4, h9] using st2
      · show AWl _ _ _ _ _
        refine aN rfl rfl (by constructor) ?_
        refine aLd st 3 rfl rfl rfl (by constructor) ?_
        refine aLit st rfl (by repeat constructor) fun b33 H22 st => ?_
        refine aN rfl rfl (by constructor) ?_
        refine sE ?_
        show AWl _ _ _ _ _
        refine aN rfl rfl (by constructor) ?_
        refine aN rfl rfl (by constructor) ?_
        refine aLd st 4 rfl rfl rfl (by constructor) ?_
        refine aN rfl rfl (by constructor) ?_
        refine aC (big_call (n := 2) (by decide)) fun v38 H23 ⟨b38, hv, st1⟩ => ?_
        subst hv
        replace st := st.call st1 rfl
        clear st1
        refine aAppP st 1 (ob := some b33) rfl rfl rfl (by decide) (by first | rfl | (simp [beB_len, *]; done) | (simp [beB_len, *]; omega)) (st.rowAll 0 rfl (by simp [beB_len])).src (by first | rfl | (simp [beB_len, *]; done) | (simp [beB_len, *]; omega)) (by first | decide | omega | (simp; omega)) (by first | decide | omega | (simp; omega)) (by first | decide | omega | (simp; omega)) (by repeat constructor) fun b39 H24 st => ?_
        refine aN rfl rfl (by constructor) ?_
        refine sE ?_
        show AWl _ _ _ _ _
        refine aN rfl rfl (by constructor) ?_
        refine aN rfl rfl (by constructor) ?_
        refine aN rfl rfl (by constructor) ?_
        refine aN rfl rfl (by constructor) ?_
        refine aLit st rfl (by repeat constructor) fun b44 H25 st => ?_
        refine aAppP st 2 (ob := some b39) rfl rfl rfl (by decide) (by first | rfl | (simp [beB_len, *]; done) | (simp [beB_len, *]; omega)) (st.rowAll 0 rfl (by first | rfl | (simp [beB_len, *]; done) | (simp [beB_len, *]; omega))).src (by first | rfl | (simp [beB_len, *]; done) | (simp [beB_len, *]; omega)) (by first | decide | omega | (simp; omega)) (by first | decide | omega | (simp; omega)) (by first | decide | omega | (simp; omega)) (by repeat constructor) fun b45 H26 st => ?_
        refine aN rfl rfl (by constructor) ?_
        refine sE ?_
        show AWl _ _ _ _ _
        refine aN rfl rfl (by constructor) ?_
        refine aN rfl rfl (by constructor) ?_
        refine aAppP st 2 (ob := some b45) rfl rfl rfl (by decide) (by first | rfl | (simp [beB_len, *]; done) | (simp [beB_len, *]; omega)) (st.rowAll 4 rfl (by first | rfl | (simp [beB_len, *]; done) | (simp [beB_len, *]; omega))).src (by first | rfl | (simp [beB_len, *]; done) | (simp [beB_len, *]; omega)) (by first | decide | omega | (simp; omega)) (by first | decide | omega | (simp; omega)) (by first | decide | omega | (simp; omega)) (by repeat constructor) fun b48 H27 st => ?_
        refine aN rfl rfl (by constructor) ?_
        refine aN rfl rfl (by constructor) ?_
        refine sE ?_
        refine ⟨_, out2 (r_tmp rfl (by constructor)) (r_tmp rfl (by constructor)) ⟨rfl, rfl⟩, ?_⟩
        have hE : descE s = 0 := by unfold descE; rw [if_neg (by simp [h3n])]
        have hR : descR s = descB s := if_pos hE
        have st2 := st.pick 2 rfl
        have e : descR s = _ := hR
        refine ⟨some b48, ?_, ?_⟩
        · rw [hR, hE]; have hlen : (descB s).length = 20 := by simp [descB, beB_len, keyB, h4, h9]
          rw [hlen]; rfl
        · rw [hR]; simpa [descB, beB, keyB, sen16, sen16b, or240, wi20, sen8 hs.2.1, w8, w64, u64id (show 0 ≤ s.code ∧ s.code < 18446744073709551616 by have := hs.2.1; omega), h4, h9] using st2
    · show AWl _ _ _ _ _
      refine aN rfl rfl (by constructor) ?_
      refine aLd st 0 rfl rfl rfl (by constructor) ?_
      refine sE ?_
      show AW _ (.cond _ _ _) _ _ _
      refine cC' rfl (fun h28 => ?_) (fun h28 => ?_)
      · show AWl _ _ _ _ _
        refine aN rfl rfl (by constructor) ?_
        refine aLit st rfl (by repeat constructor) fun b22 H29 st => ?_
        have st := st.nil 5
        have hnil : (Value.slice none 0 0) = accV none 0 1 := rfl
        refine aAppP st 0 (ob := none) (n := 0) rfl rfl rfl (by decide) (rfl) (st.rowAll 1 rfl (by first | rfl | (simp [beB_len, *]; done) | (simp [beB_len, *]; omega))).src (by first | rfl | (simp [beB_len, *]; done) | (simp [beB_len, *]; omega)) (by first | decide | omega | (simp; omega)) (by first | decide | omega | (simp; omega)) (by first | decide | omega | (simp; omega)) (by repeat constructor) fun b23 H30 st => ?_
        refine aN rfl rfl (by constructor) ?_
        refine sE ?_
        show AWl _ _ _ _ _
        refine aN rfl rfl (by constructor) ?_
        refine aLdA st 2 rfl rfl (by first | decide | simp [*]) (by repeat constructor) ?_
        refine aC (rkey_call (form_key h3n h28)) fun v26 H31 ⟨b26, hv, st1⟩ => ?_
        subst hv
        replace st := st.call st1 rfl
        clear st1
        refine aAppP st 1 (ob := some b23) rfl rfl rfl (by decide) (by first | rfl | (simp [beB_len, *]; done) | (simp [beB_len, *]; omega)) (st.rowAll 0 rfl (rfl)).src (by first | rfl | (simp [beB_len, *]; done) | (simp [beB_len, *]; omega)) (by first | decide | omega | (simp; omega)) (by first | decide | omega | (simp; omega)) (by first | decide | omega | (simp; omega)) (by repeat constructor) fun b27 H32 st => ?_
        refine aN rfl rfl (by constructor) ?_
        refine sE ?_
        show AWl _ _ _ _ _
        refine aN rfl rfl (by constructor) ?_
        refine aLit st rfl (by repeat constructor) fun b29 H33 st => ?_
        refine aAppP st 2 (ob := some b27) rfl rfl rfl (by decide) (by first | rfl | (simp [beB_len, *]; done) | (simp [beB_len, *]; omega)) (st.rowAll 0 rfl (by first | rfl | (simp [beB_len, *]; done) | (simp [beB_len, *]; omega))).src (by first | rfl | (simp [beB_len, *]; done) | (simp [beB_len, *]; omega)) (by first | decide | omega | (simp; omega)) (by first | decide | omega | (simp; omega)) (by first | decide | omega | (simp; omega)) (by repeat constructor) fun b30 H34 st => ?_
        refine aN rfl rfl (by constructor) ?_
        refine sE ?_
        show AWl _ _ _ _ _
        refine aN rfl rfl (by constructor) ?_
        refine aLd st 4 rfl rfl rfl (by constructor) ?_
        refine aLit st rfl (by repeat constructor) fun b33 H35 st => ?_
        refine aN rfl rfl (by constructor) ?_
        refine sE ?_
        show AWl _ _ _ _ _
        refine aN rfl rfl (by constructor) ?_
        refine aN rfl rfl (by constructor) ?_
        refine aLd st 5 rfl rfl rfl (by constructor) ?_
        refine aN rfl rfl (by constructor) ?_
        refine aC (big_call (n := 2) (by decide)) fun v38 H36 ⟨b38, hv, st1⟩ => ?_
        subst hv
        replace st := st.call st1 rfl
        clear st1
        refine aAppP st 1 (ob := some b33) rfl rfl rfl (by decide) (by first | rfl | (simp [beB_len, *]; done) | (simp [beB_len, *]; omega)) (st.rowAll 0 rfl (by simp [beB_len])).src (by first | rfl | (simp [beB_len, *]; done) | (simp [beB_len, *]; omega)) (by first | decide | omega | (simp; omega)) (by first | decide | omega | (simp; omega)) (by first | decide | omega | (simp; omega)) (by repeat constructor) fun b39 H37 st => ?_
        refine aN rfl rfl (by constructor) ?_
        refine sE ?_
        show AWl _ _ _ _ _
        refine aN rfl rfl (by constructor) ?_
        refine aN rfl rfl (by constructor) ?_
        refine aN rfl rfl (by constructor) ?_
        refine aN rfl rfl (by constructor) ?_
        refine aLit st rfl (by repeat constructor) fun b44 H38 st => ?_
        refine aAppP st 2 (ob := some b39) rfl rfl rfl (by decide) (by first | rfl | (simp [beB_len, *]; done) | (simp [beB_len, *]; omega)) (st.rowAll 0 rfl (by first | rfl | (simp [beB_len, *]; done) | (simp [beB_len, *]; omega))).src (by first | rfl | (simp [beB_len, *]; done) | (simp [beB_len, *]; omega)) (by first | decide | omega | (simp; omega)) (by first | decide | omega | (simp; omega)) (by first | decide | omega | (simp; omega)) (by repeat constructor) fun b45 H39 st => ?_
        refine aN rfl rfl (by constructor) ?_
        refine sE ?_
        show AWl _ _ _ _ _
        refine aN rfl rfl (by constructor) ?_
        refine aN rfl rfl (by constructor) ?_
        refine aAppP st 2 (ob := some b45) rfl rfl rfl (by decide) (by first | rfl | (simp [beB_len, *]; done) | (simp [beB_len, *]; omega)) (st.rowAll 5 rfl (by first | rfl | (simp [beB_len, *]; done) | (simp [beB_len, *]; omega))).src (by first | rfl | (simp [beB_len, *]; done) | (simp [beB_len, *]; omega)) (by first | decide | omega | (simp; omega)) (by first | decide | omega | (simp; omega)) (by first | decide | omega | (simp; omega)) (by repeat constructor) fun b48 H40 st => ?_
        refine aN rfl rfl (by constructor) ?_
        refine aN rfl rfl (by constructor) ?_
        refine sE ?_
        refine ⟨_, out2 (r_tmp rfl (by constructor)) (r_tmp rfl (by constructor)) ⟨rfl, rfl⟩, ?_⟩
        have hi0 := form_noinfo h3n h4
        have hE : descE s = 0 := by unfold descE; rw [if_neg (by simp [h3n])]
        have hR : descR s = descB s := if_pos hE
        have st2 := st.pick 2 rfl
        have e : descR s = _ := hR
        refine ⟨some b48, ?_, ?_⟩
        · rw [hR, hE]; have hlen : (descB s).length = 16 := by simp [descB, beB_len, keyB, h4, h28]
          rw [hlen]; rfl
        · rw [hR]; simpa [descB, beB, keyB, sen16, sen16b, or240, wi20, sen8 hs.2.1, w8, w64, u64id (show 0 ≤ s.code ∧ s.code < 18446744073709551616 by have := hs.2.1; omega), h4, h28, hi0] using st2
      · show AWl _ _ _ _ _
        refine aN rfl rfl (by constructor) ?_
        refine aLd st 0 rfl rfl rfl (by constructor) ?_
        refine aLit st rfl (by repeat constructor) fun b33 H41 st => ?_
        refine aN rfl rfl (by constructor) ?_
        refine sE ?_
        show AWl _ _ _ _ _
        refine aN rfl rfl (by constructor) ?_
        refine aN rfl rfl (by constructor) ?_
        refine aLd st 1 rfl rfl rfl (by constructor) ?_
        refine aN rfl rfl (by constructor) ?_
        refine aC (big_call (n := 2) (by decide)) fun v38 H42 ⟨b38, hv, st1⟩ => ?_
        subst hv
        replace st := st.call st1 rfl
        clear st1
        refine aAppP st 1 (ob := some b33) rfl rfl rfl (by decide) (by first | rfl | (simp [beB_len, *]; done) | (simp [beB_len, *]; omega)) (st.rowAll 0 rfl (by simp [beB_len])).src (by first | rfl | (simp [beB_len, *]; done) | (simp [beB_len, *]; omega)) (by first | decide | omega | (simp; omega)) (by first | decide | omega | (simp; omega)) (by first | decide | omega | (simp; omega)) (by repeat constructor) fun b39 H43 st => ?_
        refine aN rfl rfl (by constructor) ?_
        refine sE ?_
        show AWl _ _ _ _ _
        refine aN rfl rfl (by constructor) ?_
        refine aN rfl rfl (by constructor) ?_
        refine aN rfl rfl (by constructor) ?_
        refine aN rfl rfl (by constructor) ?_
        refine aLit st rfl (by repeat constructor) fun b44 H44 st => ?_
        refine aAppP st 2 (ob := some b39) rfl rfl rfl (by decide) (by first | rfl | (simp [beB_len, *]; done) | (simp [beB_len, *]; omega)) (st.rowAll 0 rfl (by first | rfl | (simp [beB_len, *]; done) | (simp [beB_len, *]; omega))).src (by first | rfl | (simp [beB_len, *]; done) | (simp [beB_len, *]; omega)) (by first | decide | omega | (simp; omega)) (by first | decide | omega | (simp; omega)) (by first | decide | omega | (simp; omega)) (by repeat constructor) fun b45 H45 st => ?_
        refine aN rfl rfl (by constructor) ?_
        refine sE ?_
        show AWl _ _ _ _ _
        refine aN rfl rfl (by constructor) ?_
        refine aN rfl rfl (by constructor) ?_
        refine aAppP st 2 (ob := some b45) rfl rfl rfl (by decide) (by first | rfl | (simp [beB_len, *]; done) | (simp [beB_len, *]; omega)) rfl (by first | rfl | (simp [beB_len, *]; done) | (simp [beB_len, *]; omega)) (by first | decide | omega | (simp; omega)) (by first | decide | omega | (simp; omega)) (by first | decide | omega | (simp; omega)) (by repeat constructor) fun b48 H46 st => ?_
        refine aN rfl rfl (by constructor) ?_
        refine aN rfl rfl (by constructor) ?_
        refine sE ?_
        refine ⟨_, out2 (r_tmp rfl (by constructor)) (r_tmp rfl (by constructor)) ⟨rfl, rfl⟩, ?_⟩
        have hi0 := form_noinfo h3n h4
        have hE : descE s = 0 := by unfold descE; rw [if_neg (by simp [h3n])]
        have hR : descR s = descB s := if_pos hE
        have st2 := st.pick 2 rfl
        have e : descR s = _ := hR
        refine ⟨some b48, ?_, ?_⟩
        · rw [hR, hE]; have hlen : (descB s).length = 8 := by simp [descB, beB_len, keyB, h4, h28]
          rw [hlen]; rfl
        · rw [hR]; simpa [descB, beB, keyB, sen16, sen16b, or240, wi20, sen8 hs.2.1, w8, w64, u64id (show 0 ≤ s.code ∧ s.code < 18446744073709551616 by have := hs.2.1; omega), h4, h28, hi0] using st2
end Go.Proofs.Ytloigiieoehimaa.Abs
