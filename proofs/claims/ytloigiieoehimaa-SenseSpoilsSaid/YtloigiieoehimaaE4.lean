/- Sense: the formats. -/
import Derived.Test.YtloigiieoehimaaE3
set_option linter.unusedVariables false
set_option linter.unusedSimpArgs false
set_option maxRecDepth 100000
namespace Go.Proofs.Ytloigiieoehimaa.Abs
open Go Go.RowKit
theorem rfixed_call {H : Hp} {s : Sn} (hs : s.wf) :
    ACalls Try.prog 11 [.agg #[.int .u8 s.key, .int .u16 s.code, .int .u64 s.info, .bool s.hi, .int .i64 s.fld, .int .i64 s.bit, .bool s.hf, .bool s.ic]] H (fun v H' => ∃ ob, v = .tuple #[accV ob (fixR s).length 1, .int .i64 (fixE s)] ∧ Stt [] H H' [⟨ob, true, ⟨true, 5, (fixR s).map (Value.int .u8)⟩⟩]) := by
  refine acallsW Try.func11 f11_ok (Nat.le_of_ble_eq_true rfl) fun hw => ?_
  have st : Stt [] H H [] := Stt.start hw
  unfold f11c
  show AWl _ _ _ _ _
  refine aBoxN st rfl rfl (by repeat constructor) rfl fun b1 H1 st => ?_
  refine aN rfl rfl (by constructor) ?_
  refine aN rfl rfl (by constructor) ?_
  refine sE ?_
  show AWl _ _ _ _ _
  refine aLdA st 0 rfl rfl (by first | decide | simp [*]) (by repeat constructor) ?_
  refine aC (rform_call hs) fun v7 H2 ⟨hv, st1⟩ => ?_
  subst hv
  replace st := st.call st1 rfl
  clear st1
  refine aN rfl rfl (by constructor) ?_
  refine sE ?_
  show AW _ (.cond _ _ _) _ _ _
  refine cC' rfl (fun h3 => ?_) (fun h3 => ?_)
  · have h3n : formS s = false := by simpa using h3
    show AWl _ _ _ _ _
    refine aN rfl rfl (by constructor) ?_
    refine aN rfl rfl (by constructor) ?_
    refine sE ?_
    refine ⟨_, out2 (r_tmp rfl (by constructor)) (r_tmp rfl (by constructor)) ⟨rfl, rfl⟩, ?_⟩
    have hE : fixE s = 3 := by unfold fixE; rw [if_pos h3n]
    have hR : fixR s = [] := by unfold fixR; rw [hE]; rfl
    exact ⟨none, by rw [hR, hE]; rfl, by rw [hR]; exact (st.nil 5).pick 0 rfl⟩
  · have h3n : formS s = true := by simpa using h3
    show AWl _ _ _ _ _
    refine aN rfl rfl (by constructor) ?_
    refine aLd st 0 rfl rfl rfl (by constructor) ?_
    refine aN rfl rfl (by constructor) ?_
    refine sE ?_
    show AW _ (.cond _ _ _) _ _ _
    refine cC' rfl (fun h4 => ?_) (fun h4 => ?_)
    · show AWl _ _ _ _ _
      refine aN rfl rfl (by constructor) ?_
      refine aN rfl rfl (by constructor) ?_
      refine sE ?_
      refine ⟨_, out2 (r_tmp rfl (by constructor)) (r_tmp rfl (by constructor)) ⟨rfl, rfl⟩, ?_⟩
      have hE : fixE s = 4 := by unfold fixE; rw [if_neg (by simp [h3n]), if_pos]; have h1 := h4; simp at h1; omega
      have hR : fixR s = [] := by unfold fixR; rw [hE]; rfl
      exact ⟨none, by rw [hR, hE]; rfl, by rw [hR]; exact (st.nil 5).pick 0 rfl⟩
    · have hinf : s.info < 4294967296 := by have h1 := h4; simp at h1; omega
      show AWl _ _ _ _ _
      refine aN rfl rfl (by constructor) ?_
      refine sE ?_
      show AWl _ _ _ _ _
      refine aN rfl rfl (by constructor) ?_
      refine aLd st 0 rfl rfl rfl (by constructor) ?_
      refine sE ?_
      show AW _ (.cond _ _ _) _ _ _
      refine cC' rfl (fun h5 => ?_) (fun h5 => ?_)
      · show AWl _ _ _ _ _
        refine aN rfl rfl (by constructor) ?_
        refine sE ?_
        show AWl _ _ _ _ _
        refine aN rfl rfl (by constructor) ?_
        refine aN rfl rfl (by constructor) ?_
        refine aLd st 0 rfl rfl rfl (by constructor) ?_
        refine aLit st rfl (by repeat constructor) fun b17 H6 st => ?_
        refine aN rfl rfl (by constructor) ?_
        refine sE ?_
        show AWl _ _ _ _ _
        refine aN rfl rfl (by constructor) ?_
        refine aN rfl rfl (by constructor) ?_
        refine aLd st 1 rfl rfl rfl (by constructor) ?_
        refine aC (big_call (n := 4) (by decide)) fun v21 H7 ⟨b21, hv, st1⟩ => ?_
        subst hv
        replace st := st.call st1 rfl
        clear st1
        refine aAppP st 1 (ob := some b17) rfl rfl rfl (by decide) (by first | rfl | (simp [beB_len, *]; done) | (simp [beB_len, *]; omega)) (st.rowAll 0 rfl (by simp [beB_len])).src (by first | rfl | (simp [beB_len, *]; done) | (simp [beB_len, *]; omega)) (by first | decide | omega | (simp; omega)) (by first | decide | omega | (simp; omega)) (by first | decide | omega | (simp; omega)) (by repeat constructor) fun b22 H8 st => ?_
        refine aN rfl rfl (by constructor) ?_
        refine sE ?_
        show AWl _ _ _ _ _
        refine aN rfl rfl (by constructor) ?_
        refine aLit st rfl (by repeat constructor) fun b24 H9 st => ?_
        refine aAppP st 2 (ob := some b22) rfl rfl rfl (by decide) (by first | rfl | (simp [beB_len, *]; done) | (simp [beB_len, *]; omega)) (st.rowAll 0 rfl (by first | rfl | (simp [beB_len, *]; done) | (simp [beB_len, *]; omega))).src (by first | rfl | (simp [beB_len, *]; done) | (simp [beB_len, *]; omega)) (by first | decide | omega | (simp; omega)) (by first | decide | omega | (simp; omega)) (by first | decide | omega | (simp; omega)) (by repeat constructor) fun b25 H10 st => ?_
        refine aN rfl rfl (by constructor) ?_
        refine sE ?_
        show AWl _ _ _ _ _
        refine aN rfl rfl (by constructor) ?_
        refine aN rfl rfl (by constructor) ?_
        refine aLd st 3 rfl rfl rfl (by constructor) ?_
        refine aN rfl rfl (by constructor) ?_
        refine aC (big_call (n := 2) (by decide)) fun v30 H11 ⟨b30, hv, st1⟩ => ?_
        subst hv
        replace st := st.call st1 rfl
        clear st1
        refine aAppP st 3 (ob := some b25) rfl rfl rfl (by decide) (by first | rfl | (simp [beB_len, *]; done) | (simp [beB_len, *]; omega)) (st.rowAll 0 rfl (by simp [beB_len])).src (by first | rfl | (simp [beB_len, *]; done) | (simp [beB_len, *]; omega)) (by first | decide | omega | (simp; omega)) (by first | decide | omega | (simp; omega)) (by first | decide | omega | (simp; omega)) (by repeat constructor) fun b31 H12 st => ?_
        refine aN rfl rfl (by constructor) ?_
        refine sE ?_
        show AWl _ _ _ _ _
        refine aN rfl rfl (by constructor) ?_
        refine aLit st rfl (by repeat constructor) fun b33 H13 st => ?_
        refine aAppP st 4 (ob := some b31) rfl rfl rfl (by decide) (by first | rfl | (simp [beB_len, *]; done) | (simp [beB_len, *]; omega)) (st.rowAll 0 rfl (by first | rfl | (simp [beB_len, *]; done) | (simp [beB_len, *]; omega))).src (by first | rfl | (simp [beB_len, *]; done) | (simp [beB_len, *]; omega)) (by first | decide | omega | (simp; omega)) (by first | decide | omega | (simp; omega)) (by first | decide | omega | (simp; omega)) (by repeat constructor) fun b34 H14 st => ?_
        refine aN rfl rfl (by constructor) ?_
        refine sE ?_
        show AWl _ _ _ _ _
        refine aN rfl rfl (by constructor) ?_
        refine aLd st 5 rfl rfl rfl (by constructor) ?_
        refine sE ?_
        show AW _ (.cond _ _ _) _ _ _
        refine cC' rfl (fun h15 => ?_) (fun h15 => ?_)
        · show AWl _ _ _ _ _
          refine aN rfl rfl (by constructor) ?_
          refine aLdA st 5 rfl rfl (by first | decide | simp [*]) (by repeat constructor) ?_
          refine aC (rkey_call (form_key h3n h15)) fun v39 H16 ⟨b39, hv, st1⟩ => ?_
          subst hv
          replace st := st.call st1 rfl
          clear st1
          refine aAppP st 5 (ob := some b34) rfl rfl rfl (by decide) (by first | rfl | (simp [beB_len, *]; done) | (simp [beB_len, *]; omega)) (st.rowAll 0 rfl (rfl)).src (by first | rfl | (simp [beB_len, *]; done) | (simp [beB_len, *]; omega)) (by first | decide | omega | (simp; omega)) (by first | decide | omega | (simp; omega)) (by first | decide | omega | (simp; omega)) (by repeat constructor) fun b40 H17 st => ?_
          refine aN rfl rfl (by constructor) ?_
          refine aN rfl rfl (by constructor) ?_
          refine sE ?_
          refine ⟨_, out2 (r_tmp rfl (by constructor)) (r_tmp rfl (by constructor)) ⟨rfl, rfl⟩, ?_⟩
          have hE : fixE s = 0 := by unfold fixE; rw [if_neg (by simp [h3n]), if_neg (by omega)]
          have hR : fixR s = fixedB s := if_pos hE
          have st2 := st.pick 5 rfl
          have e : fixR s = _ := hR
          refine ⟨some b40, ?_, ?_⟩
          · rw [hR, hE]; have hlen : (fixedB s).length = 18 := by simp [fixedB, beB_len, keyB, h5, h15]
            rw [hlen]; rfl
          · rw [hR]; simpa [fixedB, beB, keyB, sen16, sen16b, or240, wi20, sen8 hs.2.1, w8, w64, u64id (show 0 ≤ s.code ∧ s.code < 18446744073709551616 by have := hs.2.1; omega), h5, h15] using st2
        · show AWl _ _ _ _ _
          refine aN rfl rfl (by constructor) ?_
          refine aLit st rfl (by repeat constructor) fun b42 H18 st => ?_
          refine aAppP st 5 (ob := some b34) rfl rfl rfl (by decide) (by first | rfl | (simp [beB_len, *]; done) | (simp [beB_len, *]; omega)) (st.rowAll 0 rfl (by first | rfl | (simp [beB_len, *]; done) | (simp [beB_len, *]; omega))).src (by first | rfl | (simp [beB_len, *]; done) | (simp [beB_len, *]; omega)) (by first | decide | omega | (simp; omega)) (by first | decide | omega | (simp; omega)) (by first | decide | omega | (simp; omega)) (by repeat constructor) fun b43 H19 st => ?_
          refine aN rfl rfl (by constructor) ?_
          refine aN rfl rfl (by constructor) ?_
          refine sE ?_
          refine ⟨_, out2 (r_tmp rfl (by constructor)) (r_tmp rfl (by constructor)) ⟨rfl, rfl⟩, ?_⟩
          have hE : fixE s = 0 := by unfold fixE; rw [if_neg (by simp [h3n]), if_neg (by omega)]
          have hR : fixR s = fixedB s := if_pos hE
          have st2 := st.pick 5 rfl
          have e : fixR s = _ := hR
          refine ⟨some b43, ?_, ?_⟩
          · rw [hR, hE]; have hlen : (fixedB s).length = 18 := by simp [fixedB, beB_len, keyB, h5, h15]
            rw [hlen]; rfl
          · rw [hR]; simpa [fixedB, beB, keyB, sen16, sen16b, or240, wi20, sen8 hs.2.1, w8, w64, u64id (show 0 ≤ s.code ∧ s.code < 18446744073709551616 by have := hs.2.1; omega), h5, h15] using st2
      · show AWl _ _ _ _ _
        refine aN rfl rfl (by constructor) ?_
        refine aN rfl rfl (by constructor) ?_
        refine aLd st 0 rfl rfl rfl (by constructor) ?_
        refine aLit st rfl (by repeat constructor) fun b17 H20 st => ?_
        refine aN rfl rfl (by constructor) ?_
        refine sE ?_
        show AWl _ _ _ _ _
        refine aN rfl rfl (by constructor) ?_
        refine aN rfl rfl (by constructor) ?_
        refine aLd st 1 rfl rfl rfl (by constructor) ?_
        refine aC (big_call (n := 4) (by decide)) fun v21 H21 ⟨b21, hv, st1⟩ => ?_
        subst hv
        replace st := st.call st1 rfl
        clear st1
        refine aAppP st 1 (ob := some b17) rfl rfl rfl (by decide) (by first | rfl | (simp [beB_len, *]; done) | (simp [beB_len, *]; omega)) (st.rowAll 0 rfl (by simp [beB_len])).src (by first | rfl | (simp [beB_len, *]; done) | (simp [beB_len, *]; omega)) (by first | decide | omega | (simp; omega)) (by first | decide | omega | (simp; omega)) (by first | decide | omega | (simp; omega)) (by repeat constructor) fun b22 H22 st => ?_
        refine aN rfl rfl (by constructor) ?_
        refine sE ?_
        show AWl _ _ _ _ _
        refine aN rfl rfl (by constructor) ?_
        refine aLit st rfl (by repeat constructor) fun b24 H23 st => ?_
        refine aAppP st 2 (ob := some b22) rfl rfl rfl (by decide) (by first | rfl | (simp [beB_len, *]; done) | (simp [beB_len, *]; omega)) (st.rowAll 0 rfl (by first | rfl | (simp [beB_len, *]; done) | (simp [beB_len, *]; omega))).src (by first | rfl | (simp [beB_len, *]; done) | (simp [beB_len, *]; omega)) (by first | decide | omega | (simp; omega)) (by first | decide | omega | (simp; omega)) (by first | decide | omega | (simp; omega)) (by repeat constructor) fun b25 H24 st => ?_
        refine aN rfl rfl (by constructor) ?_
        refine sE ?_
        show AWl _ _ _ _ _
        refine aN rfl rfl (by constructor) ?_
        refine aN rfl rfl (by constructor) ?_
        refine aLd st 3 rfl rfl rfl (by constructor) ?_
        refine aN rfl rfl (by constructor) ?_
        refine aC (big_call (n := 2) (by decide)) fun v30 H25 ⟨b30, hv, st1⟩ => ?_
        subst hv
        replace st := st.call st1 rfl
        clear st1
        refine aAppP st 3 (ob := some b25) rfl rfl rfl (by decide) (by first | rfl | (simp [beB_len, *]; done) | (simp [beB_len, *]; omega)) (st.rowAll 0 rfl (by simp [beB_len])).src (by first | rfl | (simp [beB_len, *]; done) | (simp [beB_len, *]; omega)) (by first | decide | omega | (simp; omega)) (by first | decide | omega | (simp; omega)) (by first | decide | omega | (simp; omega)) (by repeat constructor) fun b31 H26 st => ?_
        refine aN rfl rfl (by constructor) ?_
        refine sE ?_
        show AWl _ _ _ _ _
        refine aN rfl rfl (by constructor) ?_
        refine aLit st rfl (by repeat constructor) fun b33 H27 st => ?_
        refine aAppP st 4 (ob := some b31) rfl rfl rfl (by decide) (by first | rfl | (simp [beB_len, *]; done) | (simp [beB_len, *]; omega)) (st.rowAll 0 rfl (by first | rfl | (simp [beB_len, *]; done) | (simp [beB_len, *]; omega))).src (by first | rfl | (simp [beB_len, *]; done) | (simp [beB_len, *]; omega)) (by first | decide | omega | (simp; omega)) (by first | decide | omega | (simp; omega)) (by first | decide | omega | (simp; omega)) (by repeat constructor) fun b34 H28 st => ?_
        refine aN rfl rfl (by constructor) ?_
        refine sE ?_
        show AWl _ _ _ _ _
        refine aN rfl rfl (by constructor) ?_
        refine aLd st 5 rfl rfl rfl (by constructor) ?_
        refine sE ?_
        show AW _ (.cond _ _ _) _ _ _
        refine cC' rfl (fun h29 => ?_) (fun h29 => ?_)
        · show AWl _ _ _ _ _
          refine aN rfl rfl (by constructor) ?_
          refine aLdA st 5 rfl rfl (by first | decide | simp [*]) (by repeat constructor) ?_
          refine aC (rkey_call (form_key h3n h29)) fun v39 H30 ⟨b39, hv, st1⟩ => ?_
          subst hv
          replace st := st.call st1 rfl
          clear st1
          refine aAppP st 5 (ob := some b34) rfl rfl rfl (by decide) (by first | rfl | (simp [beB_len, *]; done) | (simp [beB_len, *]; omega)) (st.rowAll 0 rfl (rfl)).src (by first | rfl | (simp [beB_len, *]; done) | (simp [beB_len, *]; omega)) (by first | decide | omega | (simp; omega)) (by first | decide | omega | (simp; omega)) (by first | decide | omega | (simp; omega)) (by repeat constructor) fun b40 H31 st => ?_
          refine aN rfl rfl (by constructor) ?_
          refine aN rfl rfl (by constructor) ?_
          refine sE ?_
          refine ⟨_, out2 (r_tmp rfl (by constructor)) (r_tmp rfl (by constructor)) ⟨rfl, rfl⟩, ?_⟩
          have hi0 := form_noinfo h3n h5
          have hE : fixE s = 0 := by unfold fixE; rw [if_neg (by simp [h3n]), if_neg (by omega)]
          have hR : fixR s = fixedB s := if_pos hE
          have st2 := st.pick 5 rfl
          have e : fixR s = _ := hR
          refine ⟨some b40, ?_, ?_⟩
          · rw [hR, hE]; have hlen : (fixedB s).length = 18 := by simp [fixedB, beB_len, keyB, h5, h29]
            rw [hlen]; rfl
          · rw [hR]; simpa [fixedB, beB, keyB, sen16, sen16b, or240, wi20, sen8 hs.2.1, w8, w64, u64id (show 0 ≤ s.code ∧ s.code < 18446744073709551616 by have := hs.2.1; omega), h5, h29, hi0] using st2
        · show AWl _ _ _ _ _
          refine aN rfl rfl (by constructor) ?_
          refine aLit st rfl (by repeat constructor) fun b42 H32 st => ?_
          refine aAppP st 5 (ob := some b34) rfl rfl rfl (by decide) (by first | rfl | (simp [beB_len, *]; done) | (simp [beB_len, *]; omega)) (st.rowAll 0 rfl (by first | rfl | (simp [beB_len, *]; done) | (simp [beB_len, *]; omega))).src (by first | rfl | (simp [beB_len, *]; done) | (simp [beB_len, *]; omega)) (by first | decide | omega | (simp; omega)) (by first | decide | omega | (simp; omega)) (by first | decide | omega | (simp; omega)) (by repeat constructor) fun b43 H33 st => ?_
          refine aN rfl rfl (by constructor) ?_
          refine aN rfl rfl (by constructor) ?_
          refine sE ?_
          refine ⟨_, out2 (r_tmp rfl (by constructor)) (r_tmp rfl (by constructor)) ⟨rfl, rfl⟩, ?_⟩
          have hi0 := form_noinfo h3n h5
          have hE : fixE s = 0 := by unfold fixE; rw [if_neg (by simp [h3n]), if_neg (by omega)]
          have hR : fixR s = fixedB s := if_pos hE
          have st2 := st.pick 5 rfl
          have e : fixR s = _ := hR
          refine ⟨some b43, ?_, ?_⟩
          · rw [hR, hE]; have hlen : (fixedB s).length = 18 := by simp [fixedB, beB_len, keyB, h5, h29]
            rw [hlen]; rfl
          · rw [hR]; simpa [fixedB, beB, keyB, sen16, sen16b, or240, wi20, sen8 hs.2.1, w8, w64, u64id (show 0 ≤ s.code ∧ s.code < 18446744073709551616 by have := hs.2.1; omega), h5, h29, hi0] using st2
end Go.Proofs.Ytloigiieoehimaa.Abs
