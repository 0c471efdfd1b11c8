/- Sense: the formats. -/
import Derived.Test.YtloigiieoehimaaE4
set_option linter.unusedVariables false
set_option linter.unusedSimpArgs false
set_option maxRecDepth 100000
namespace Go.Proofs.Ytloigiieoehimaa.Abs
open Go Go.RowKit
theorem desc_call {H : Hp} {s : Sn} (hs : s.wf) :
    ACalls Try.prog 10 [.agg #[.int .u8 s.key, .int .u16 s.code, .int .u64 s.info, .bool s.hi, .int .i64 s.fld, .int .i64 s.bit, .bool s.hf, .bool s.ic]] H (fun v H' => ∃ ob, v = .tuple #[accV ob (descR s).length 1, .int .i64 (descE s)] ∧ Stt [] H H' [⟨ob, true, ⟨true, 5, (descR s).map (Value.int .u8)⟩⟩]) := by
  refine acallsW Try.func10 f10_ok (Nat.le_of_ble_eq_true rfl) fun hw => ?_
  have st : Stt [] H H [] := Stt.start hw
  unfold f10c
  show AWl _ _ _ _ _
  refine aBoxN st rfl rfl (by repeat constructor) rfl fun b1 H1 st => ?_
  refine aN rfl rfl (by constructor) ?_
  refine aN rfl rfl (by constructor) ?_
  refine sE ?_
  show AWl _ _ _ _ _
  refine aLdA st 0 rfl rfl (by first | decide | simp [*]) (by repeat constructor) ?_
  refine aC (form_call hs) fun v7 H2 ⟨hv, st1⟩ => ?_
  subst hv
  replace st := st.call st1 rfl
  clear st1
  refine aN rfl rfl (by constructor) ?_
  refine sE ?_
  show AW _ (.cond _ _ _) _ _ _
  refine cC' rfl (fun h3 => ?_) (fun h3 => ?_)
  · have h3n : formS s = false := by simpa using h3
    show AWl _ _ _ _ _
    refine aN rfl rfl (by constructor) ?_
    refine aN rfl rfl (by constructor) ?_
    refine sE ?_
    refine ⟨_, out2 (r_tmp rfl (by constructor)) (r_tmp rfl (by constructor)) ⟨rfl, rfl⟩, ?_⟩
    have hE : descE s = 3 := by unfold descE; rw [if_pos h3n]
    have hR : descR s = [] := by unfold descR; rw [hE]; rfl
    exact ⟨none, by rw [hR, hE]; rfl, by rw [hR]; exact (st.nil 5).pick 0 rfl⟩
  · have h3n : formS s = true := by simpa using h3
    show AWl _ _ _ _ _
    refine aN rfl rfl (by constructor) ?_
    refine aLd st 0 rfl rfl rfl (by constructor) ?_
    refine aN rfl rfl (by constructor) ?_
    refine aLd st 0 rfl rfl rfl (by constructor) ?_
    refine aN rfl rfl (by constructor) ?_
    refine aN rfl rfl (by constructor) ?_
    refine aN rfl rfl (by constructor) ?_
    refine aLd st 0 rfl rfl rfl (by constructor) ?_
    refine aN rfl rfl (by constructor) ?_
    refine aLit st rfl (by repeat constructor) fun b18 H4 st => ?_
    refine aN rfl rfl (by constructor) ?_
    refine sE ?_
    show AWl _ _ _ _ _
    refine aN rfl rfl (by constructor) ?_
    refine aLd st 1 rfl rfl rfl (by constructor) ?_
    refine sE ?_
    show AW _ (.cond _ _ _) _ _ _
    refine cC' rfl (fun h5 => ?_) (fun h5 => ?_)
    · show AWl _ _ _ _ _
      refine aLit st rfl (by repeat constructor) fun b21 H6 st => ?_
      refine aN rfl rfl (by constructor) ?_
      refine sE ?_
      show AWl _ _ _ _ _
      refine aN rfl rfl (by constructor) ?_
      refine aN rfl rfl (by constructor) ?_
      refine aLd st 2 rfl rfl rfl (by constructor) ?_
      have st := st.toI 0 rfl rfl (by repeat constructor)
      refine aC (put_call (st.rowAll 0 rfl rfl) (by have := hs.1; simp only [byteL_cons, byteL_nil, w8, and_true]; (repeat' apply And.intro); all_goals first | decide | omega) (by simp) (by simp) ⟨hs.2.2.1.1, hs.2.2.1.2⟩) fun v26 H7 ⟨b26, hv, st1⟩ => ?_
      subst hv
      replace st := st.call st1 rfl
      clear st1
      refine aN rfl rfl (by constructor) ?_
      refine aN rfl rfl (by constructor) ?_
      refine aN rfl rfl (by constructor) ?_
      refine aN rfl rfl (by constructor) ?_
      refine sE ?_
      show AWl _ _ _ _ _
      refine aN rfl rfl (by constructor) ?_
      refine aN rfl rfl (by constructor) ?_
      refine aAppP st 2 (ob := some b18) rfl rfl rfl (by decide) (by first | rfl | (simp [beB_len, *]; done) | (simp [beB_len, *]; omega)) (st.rowAll 0 rfl (rfl)).src (by first | rfl | (simp [beB_len, *]; done) | (simp [beB_len, *]; omega)) (by first | decide | omega | (simp; omega)) (by first | decide | omega | (simp; omega)) (by first | decide | omega | (simp; omega)) (by repeat constructor) fun b31 H8 st => ?_
      refine aN rfl rfl (by constructor) ?_
      refine sE ?_
      show AWl _ _ _ _ _
      refine aN rfl rfl (by constructor) ?_
      refine aLd st 3 rfl rfl rfl (by constructor) ?_
      refine sE ?_
      show AW _ (.cond _ _ _) _ _ _
      refine cC' rfl (fun h9 => ?_) (fun h9 => ?_)
      · show AWp _ _ _ _ _
        refine aN rfl rfl (by constructor) ?_
        refine aLdA st 3 rfl rfl (by first | decide | simp [*]) (by repeat constructor) ?_
        refine ⟨?_, ?_⟩
        · refine aLit st rfl (by repeat constructor) fun b35 H10 st => ?_
          refine ⟨⟨(h_LdA st 4 rfl rfl (by first | decide | simp [*]) (by repeat constructor)), trivial⟩, ?_⟩
          refine ⟨?_, ?_⟩
          · refine aAppP st 3 (ob := some b31) rfl rfl rfl (by decide) (by first | rfl | (simp [beB_len, *]; done) | (simp [beB_len, *]; omega)) (st.rowAll 0 rfl (by first | rfl | (simp [beB_len, *]; done) | (simp [beB_len, *]; omega))).src (by first | rfl | (simp [beB_len, *]; done) | (simp [beB_len, *]; omega)) (by first | decide | omega | (simp; omega)) (by first | decide | omega | (simp; omega)) (by first | decide | omega | (simp; omega)) (by repeat constructor) fun b36 H11 st => ?_
            refine ⟨⟨(h_LdA st 4 rfl rfl (by first | decide | simp [*]) (by repeat constructor)), trivial⟩, ?_⟩
            refine ⟨?_, ?_⟩
            · refine aC (key_call (form_key h3n h9)) fun v38 H12 ⟨b38, hv, st1⟩ => ?_
              subst hv
              replace st := st.call st1 rfl
              clear st1
              refine ⟨trivial, ?_⟩
              refine ⟨?_, ?_⟩
              · refine aAppP st 4 (ob := some b36) rfl rfl rfl (by decide) (by first | rfl | (simp [beB_len, *]; done) | (simp [beB_len, *]; omega)) (st.rowAll 0 rfl (rfl)).src (by first | rfl | (simp [beB_len, *]; done) | (simp [beB_len, *]; omega)) (by first | decide | omega | (simp; omega)) (by first | decide | omega | (simp; omega)) (by first | decide | omega | (simp; omega)) (by repeat constructor) fun b39 H13 st => ?_
                refine ⟨⟨(h_LdA st 5 rfl rfl (by first | decide | simp [*]) (by repeat constructor)), trivial⟩, ?_⟩
                refine ⟨?_, trivial⟩
                refine aLit st rfl (by repeat constructor) fun b40 H14 st => ?_
                refine ⟨⟨(h_LdA st 6 rfl rfl (by first | decide | simp [*]) (by repeat constructor)), trivial⟩, ?_⟩
                refine ⟨?_, trivial⟩
                refine aAppP st 5 (ob := some b39) rfl rfl rfl (by decide) (by first | rfl | (simp [beB_len, *]; done) | (simp [beB_len, *]; omega)) (st.rowAll 0 rfl (by first | rfl | (simp [beB_len, *]; done) | (simp [beB_len, *]; omega))).src (by first | rfl | (simp [beB_len, *]; done) | (simp [beB_len, *]; omega)) (by first | decide | omega | (simp; omega)) (by first | decide | omega | (simp; omega)) (by first | decide | omega | (simp; omega)) (by repeat constructor) fun b41 H15 st => ?_
                refine ⟨⟨(h_LdA st 6 rfl rfl (by first | decide | simp [*]) (by repeat constructor)), trivial⟩, ?_⟩
                refine ⟨?_, trivial⟩
                refine aN rfl rfl (by constructor) ?_
                refine ⟨trivial, ?_⟩
                refine pE ?_
                show AWl _ _ _ _ _
                refine aN rfl rfl (by constructor) ?_
                refine aN rfl rfl (by constructor) ?_
                refine aN rfl rfl (by constructor) ?_
                refine aN rfl rfl (by constructor) ?_
                refine aN rfl rfl (by constructor) ?_
                refine aN rfl rfl (by constructor) ?_
                refine aSt st 5 rfl rfl rfl rfl (by first | rfl | simp [cellsOf, *]) (by first | decide | simp [*]) (by repeat constructor) fun H16 st => ?_
                refine sE ?_
                show AWl _ _ _ _ _
                refine aN rfl rfl (by constructor) ?_
                refine aN rfl rfl (by constructor) ?_
                refine aN rfl rfl (by constructor) ?_
                refine sE ?_
                refine ⟨_, out2 (r_tmp rfl (by constructor)) (r_tmp rfl (by constructor)) ⟨rfl, rfl⟩, ?_⟩
                have hE : descE s = 0 := by unfold descE; rw [if_neg (by simp [h3n])]
                have hR : descR s = descB s := if_pos hE
                have st2 := st.pick 5 rfl
                have e : descR s = _ := hR
                refine ⟨some b41, ?_, ?_⟩
                · rw [hR, hE]; have hlen : (descB s).length = 28 := by simp [descB, beB_len, keyB, h5, h9]
                  rw [hlen]; rfl
                · rw [hR]; simpa [descB, beB, keyB, sen16, sen16b, or240, wi20, sen8 hs.2.1, w8, w64, u64id (show 0 ≤ s.code ∧ s.code < 18446744073709551616 by have := hs.2.1; omega), h5, h9] using st2
              · refine ⟨?_, trivial⟩
                refine aLit st rfl (by repeat constructor) fun b40 H17 st => ?_
                refine ⟨⟨(h_LdA st 6 rfl rfl (by first | decide | simp [*]) (by repeat constructor)), trivial⟩, ?_⟩
                refine ⟨?_, trivial⟩
                refine aAppP st 5 (ob := some b36) rfl rfl rfl (by decide) (by first | rfl | (simp [beB_len, *]; done) | (simp [beB_len, *]; omega)) (st.rowAll 1 rfl (rfl)).src (by first | rfl | (simp [beB_len, *]; done) | (simp [beB_len, *]; omega)) (by first | decide | omega | (simp; omega)) (by first | decide | omega | (simp; omega)) (by first | decide | omega | (simp; omega)) (by repeat constructor) fun b39 H18 st => ?_
                refine ⟨⟨(h_LdA st 6 rfl rfl (by first | decide | simp [*]) (by repeat constructor)), trivial⟩, ?_⟩
                refine ⟨?_, trivial⟩
                refine aAppP st 5 (ob := some b39) rfl rfl rfl (by decide) (by first | rfl | (simp [beB_len, *]; done) | (simp [beB_len, *]; omega)) (st.rowAll 0 rfl (by first | rfl | (simp [beB_len, *]; done) | (simp [beB_len, *]; omega))).src (by first | rfl | (simp [beB_len, *]; done) | (simp [beB_len, *]; omega)) (by first | decide | omega | (simp; omega)) (by first | decide | omega | (simp; omega)) (by first | decide | omega | (simp; omega)) (by repeat constructor) fun b41 H19 st => ?_
                refine ⟨⟨(h_LdA st 6 rfl rfl (by first | decide | simp [*]) (by repeat constructor)), trivial⟩, ?_⟩
                refine ⟨?_, trivial⟩
                refine aN rfl rfl (by constructor) ?_
                refine ⟨trivial, ?_⟩
                refine pE ?_
                show AWl _ _ _ _ _
                refine aN rfl rfl (by constructor) ?_
                refine aN rfl rfl (by constructor) ?_
                refine aN rfl rfl (by constructor) ?_
                refine aN rfl rfl (by constructor) ?_
                refine aN rfl rfl (by constructor) ?_
                refine aN rfl rfl (by constructor) ?_
                refine aSt st 5 rfl rfl rfl rfl (by first | rfl | simp [cellsOf, *]) (by first | decide | simp [*]) (by repeat constructor) fun H20 st => ?_
                refine sE ?_
                show AWl _ _ _ _ _
                refine aN rfl rfl (by constructor) ?_
                refine aN rfl rfl (by constructor) ?_
                refine aN rfl rfl (by constructor) ?_
                refine sE ?_
                refine ⟨_, out2 (r_tmp rfl (by constructor)) (r_tmp rfl (by constructor)) ⟨rfl, rfl⟩, ?_⟩
                have hE : descE s = 0 := by unfold descE; rw [if_neg (by simp [h3n])]
                have hR : descR s = descB s := if_pos hE
                have st2 := st.pick 5 rfl
                have e : descR s = _ := hR
                refine ⟨some b41, ?_, ?_⟩
                · rw [hR, hE]; have hlen : (descB s).length = 28 := by simp [descB, beB_len, keyB, h5, h9]
                  rw [hlen]; rfl
                · rw [hR]; simpa [descB, beB, keyB, sen16, sen16b, or240, wi20, sen8 hs.2.1, w8, w64, u64id (show 0 ≤ s.code ∧ s.code < 18446744073709551616 by have := hs.2.1; omega), h5, h9] using st2
            · refine ⟨?_, trivial⟩
              refine aLit st rfl (by repeat constructor) fun b40 H21 st => ?_
              refine ⟨⟨(h_LdA st 5 rfl rfl (by first | decide | simp [*]) (by repeat constructor)), trivial⟩, ?_⟩
              refine ⟨?_, trivial⟩
              refine aC (key_call (form_key h3n h9)) fun v38 H22 ⟨b38, hv, st1⟩ => ?_
              subst hv
              replace st := st.call st1 rfl
              clear st1
              refine ⟨trivial, ?_⟩
              refine ⟨?_, trivial⟩
              refine aAppP st 5 (ob := some b36) rfl rfl rfl (by decide) (by first | rfl | (simp [beB_len, *]; done) | (simp [beB_len, *]; omega)) (st.rowAll 0 rfl (rfl)).src (by first | rfl | (simp [beB_len, *]; done) | (simp [beB_len, *]; omega)) (by first | decide | omega | (simp; omega)) (by first | decide | omega | (simp; omega)) (by first | decide | omega | (simp; omega)) (by repeat constructor) fun b39 H23 st => ?_
              refine ⟨⟨(h_LdA st 6 rfl rfl (by first | decide | simp [*]) (by repeat constructor)), trivial⟩, ?_⟩
              refine ⟨?_, trivial⟩
              refine aAppP st 5 (ob := some b39) rfl rfl rfl (by decide) (by first | rfl | (simp [beB_len, *]; done) | (simp [beB_len, *]; omega)) (st.rowAll 1 rfl (by first | rfl | (simp [beB_len, *]; done) | (simp [beB_len, *]; omega))).src (by first | rfl | (simp [beB_len, *]; done) | (simp [beB_len, *]; omega)) (by first | decide | omega | (simp; omega)) (by first | decide | omega | (simp; omega)) (by first | decide | omega | (simp; omega)) (by repeat constructor) fun b41 H24 st => ?_
              refine ⟨⟨(h_LdA st 6 rfl rfl (by first | decide | simp [*]) (by repeat constructor)), trivial⟩, ?_⟩
              refine ⟨?_, trivial⟩
              refine aN rfl rfl (by constructor) ?_
              refine ⟨trivial, ?_⟩
              refine pE ?_
              show AWl _ _ _ _ _
              refine aN rfl rfl (by constructor) ?_
              refine aN rfl rfl (by constructor) ?_
              refine aN rfl rfl (by constructor) ?_
              refine aN rfl rfl (by constructor) ?_
              refine aN rfl rfl (by constructor) ?_
              refine aN rfl rfl (by constructor) ?_
              refine aSt st 5 rfl rfl rfl rfl (by first | rfl | simp [cellsOf, *]) (by first | decide | simp [*]) (by repeat constructor) fun H25 st => ?_
              refine sE ?_
              show AWl _ _ _ _ _
              refine aN rfl rfl (by constructor) ?_
              refine aN rfl rfl (by constructor) ?_
              refine aN rfl rfl (by constructor) ?_
              refine sE ?_
              refine ⟨_, out2 (r_tmp rfl (by constructor)) (r_tmp rfl (by constructor)) ⟨rfl, rfl⟩, ?_⟩
              have hE : descE s = 0 := by unfold descE; rw [if_neg (by simp [h3n])]
              have hR : descR s = descB s := if_pos hE
              have st2 := st.pick 5 rfl
              have e : descR s = _ := hR
              refine ⟨some b41, ?_, ?_⟩
              · rw [hR, hE]; have hlen : (descB s).length = 28 := by simp [descB, beB_len, keyB, h5, h9]
                rw [hlen]; rfl
              · rw [hR]; simpa [descB, beB, keyB, sen16, sen16b, or240, wi20, sen8 hs.2.1, w8, w64, u64id (show 0 ≤ s.code ∧ s.code < 18446744073709551616 by have := hs.2.1; omega), h5, h9] using st2
          · refine ⟨?_, trivial⟩
            refine aLit st rfl (by repeat constructor) fun b40 H26 st => ?_
            refine ⟨⟨(h_LdA st 5 rfl rfl (by first | decide | simp [*]) (by repeat constructor)), trivial⟩, ?_⟩
            refine ⟨?_, trivial⟩
            refine aAppP st 4 (ob := some b31) rfl rfl rfl (by decide) (by first | rfl | (simp [beB_len, *]; done) | (simp [beB_len, *]; omega)) (st.rowAll 1 rfl (by first | rfl | (simp [beB_len, *]; done) | (simp [beB_len, *]; omega))).src (by first | rfl | (simp [beB_len, *]; done) | (simp [beB_len, *]; omega)) (by first | decide | omega | (simp; omega)) (by first | decide | omega | (simp; omega)) (by first | decide | omega | (simp; omega)) (by repeat constructor) fun b36 H27 st => ?_
            refine ⟨⟨(h_LdA st 5 rfl rfl (by first | decide | simp [*]) (by repeat constructor)), trivial⟩, ?_⟩
            refine ⟨?_, trivial⟩
            refine aC (key_call (form_key h3n h9)) fun v38 H28 ⟨b38, hv, st1⟩ => ?_
            subst hv
            replace st := st.call st1 rfl
            clear st1
            refine ⟨trivial, ?_⟩
            refine ⟨?_, trivial⟩
            refine aAppP st 5 (ob := some b36) rfl rfl rfl (by decide) (by first | rfl | (simp [beB_len, *]; done) | (simp [beB_len, *]; omega)) (st.rowAll 0 rfl (rfl)).src (by first | rfl | (simp [beB_len, *]; done) | (simp [beB_len, *]; omega)) (by first | decide | omega | (simp; omega)) (by first | decide | omega | (simp; omega)) (by first | decide | omega | (simp; omega)) (by repeat constructor) fun b39 H29 st => ?_
            refine ⟨⟨(h_LdA st 6 rfl rfl (by first | decide | simp [*]) (by repeat constructor)), trivial⟩, ?_⟩
            refine ⟨?_, trivial⟩
            refine aAppP st 5 (ob := some b39) rfl rfl rfl (by decide) (by first | rfl | (simp [beB_len, *]; done) | (simp [beB_len, *]; omega)) (st.rowAll 1 rfl (by first | rfl | (simp [beB_len, *]; done) | (simp [beB_len, *]; omega))).src (by first | rfl | (simp [beB_len, *]; done) | (simp [beB_len, *]; omega)) (by first | decide | omega | (simp; omega)) (by first | decide | omega | (simp; omega)) (by first | decide | omega | (simp; omega)) (by repeat constructor) fun b41 H30 st => ?_
            refine ⟨⟨(h_LdA st 6 rfl rfl (by first | decide | simp [*]) (by repeat constructor)), trivial⟩, ?_⟩
            refine ⟨?_, trivial⟩
            refine aN rfl rfl (by constructor) ?_
            refine ⟨trivial, ?_⟩
            refine pE ?_
            show AWl _ _ _ _ _
            refine aN rfl rfl (by constructor) ?_
            refine aN rfl rfl (by constructor) ?_
            refine aN rfl rfl (by constructor) ?_
            refine aN rfl rfl (by constructor) ?_
            refine aN rfl rfl (by constructor) ?_
            refine aN rfl rfl (by constructor) ?_
            refine aSt st 5 rfl rfl rfl rfl (by first | rfl | simp [cellsOf, *]) (by first | decide | simp [*]) (by repeat constructor) fun H31 st => ?_
            refine sE ?_
            show AWl _ _ _ _ _
            refine aN rfl rfl (by constructor) ?_
            refine aN rfl rfl (by constructor) ?_
            refine aN rfl rfl (by constructor) ?_
            refine sE ?_
            refine ⟨_, out2 (r_tmp rfl (by constructor)) (r_tmp rfl (by constructor)) ⟨rfl, rfl⟩, ?_⟩
            have hE : descE s = 0 := by unfold descE; rw [if_neg (by simp [h3n])]
            have hR : descR s = descB s := if_pos hE
            have st2 := st.pick 5 rfl
            have e : descR s = _ := hR
            refine ⟨some b41, ?_, ?_⟩
            · rw [hR, hE]; have hlen : (descB s).length = 28 := by simp [descB, beB_len, keyB, h5, h9]
              rw [hlen]; rfl
            · rw [hR]; simpa [descB, beB, keyB, sen16, sen16b, or240, wi20, sen8 hs.2.1, w8, w64, u64id (show 0 ≤ s.code ∧ s.code < 18446744073709551616 by have := hs.2.1; omega), h5, h9] using st2
        · refine ⟨?_, trivial⟩
          refine aLit st rfl (by repeat constructor) fun b40 H32 st => ?_
          refine ⟨⟨(h_LdA st 4 rfl rfl (by first | decide | simp [*]) (by repeat constructor)), trivial⟩, ?_⟩
          refine ⟨?_, trivial⟩
          refine aLit st rfl (by repeat constructor) fun b35 H33 st => ?_
          refine ⟨⟨(h_LdA st 5 rfl rfl (by first | decide | simp [*]) (by repeat constructor)), trivial⟩, ?_⟩
          refine ⟨?_, trivial⟩
          refine aAppP st 4 (ob := some b31) rfl rfl rfl (by decide) (by first | rfl | (simp [beB_len, *]; done) | (simp [beB_len, *]; omega)) (st.rowAll 0 rfl (by first | rfl | (simp [beB_len, *]; done) | (simp [beB_len, *]; omega))).src (by first | rfl | (simp [beB_len, *]; done) | (simp [beB_len, *]; omega)) (by first | decide | omega | (simp; omega)) (by first | decide | omega | (simp; omega)) (by first | decide | omega | (simp; omega)) (by repeat constructor) fun b36 H34 st => ?_
          refine ⟨⟨(h_LdA st 5 rfl rfl (by first | decide | simp [*]) (by repeat constructor)), trivial⟩, ?_⟩
          refine ⟨?_, trivial⟩
          refine aC (key_call (form_key h3n h9)) fun v38 H35 ⟨b38, hv, st1⟩ => ?_
          subst hv
          replace st := st.call st1 rfl
          clear st1
          refine ⟨trivial, ?_⟩
          refine ⟨?_, trivial⟩
          refine aAppP st 5 (ob := some b36) rfl rfl rfl (by decide) (by first | rfl | (simp [beB_len, *]; done) | (simp [beB_len, *]; omega)) (st.rowAll 0 rfl (rfl)).src (by first | rfl | (simp [beB_len, *]; done) | (simp [beB_len, *]; omega)) (by first | decide | omega | (simp; omega)) (by first | decide | omega | (simp; omega)) (by first | decide | omega | (simp; omega)) (by repeat constructor) fun b39 H36 st => ?_
          refine ⟨⟨(h_LdA st 6 rfl rfl (by first | decide | simp [*]) (by repeat constructor)), trivial⟩, ?_⟩
          refine ⟨?_, trivial⟩
          refine aAppP st 5 (ob := some b39) rfl rfl rfl (by decide) (by first | rfl | (simp [beB_len, *]; done) | (simp [beB_len, *]; omega)) (st.rowAll 2 rfl (by first | rfl | (simp [beB_len, *]; done) | (simp [beB_len, *]; omega))).src (by first | rfl | (simp [beB_len, *]; done) | (simp [beB_len, *]; omega)) (by first | decide | omega | (simp; omega)) (by first | decide | omega | (simp; omega)) (by first | decide | omega | (simp; omega)) (by repeat constructor) fun b41 H37 st => ?_
          refine ⟨⟨(h_LdA st 6 rfl rfl (by first | decide | simp [*]) (by repeat constructor)), trivial⟩, ?_⟩
          refine ⟨?_, trivial⟩
          refine aN rfl rfl (by constructor) ?_
          refine ⟨trivial, ?_⟩
          refine pE ?_
          show AWl _ _ _ _ _
          refine aN rfl rfl (by constructor) ?_
          refine aN rfl rfl (by constructor) ?_
          refine aN rfl rfl (by constructor) ?_
          refine aN rfl rfl (by constructor) ?_
          refine aN rfl rfl (by constructor) ?_
          refine aN rfl rfl (by constructor) ?_
          refine aSt st 5 rfl rfl rfl rfl (by first | rfl | simp [cellsOf, *]) (by first | decide | simp [*]) (by repeat constructor) fun H38 st => ?_
          refine sE ?_
          show AWl _ _ _ _ _
          refine aN rfl rfl (by constructor) ?_
          refine aN rfl rfl (by constructor) ?_
          refine aN rfl rfl (by constructor) ?_
          refine sE ?_
          refine ⟨_, out2 (r_tmp rfl (by constructor)) (r_tmp rfl (by constructor)) ⟨rfl, rfl⟩, ?_⟩
          have hE : descE s = 0 := by unfold descE; rw [if_neg (by simp [h3n])]
          have hR : descR s = descB s := if_pos hE
          have st2 := st.pick 5 rfl
          have e : descR s = _ := hR
          refine ⟨some b41, ?_, ?_⟩
          · rw [hR, hE]; have hlen : (descB s).length = 28 := by simp [descB, beB_len, keyB, h5, h9]
            rw [hlen]; rfl
          · rw [hR]; simpa [descB, beB, keyB, sen16, sen16b, or240, wi20, sen8 hs.2.1, w8, w64, u64id (show 0 ≤ s.code ∧ s.code < 18446744073709551616 by have := hs.2.1; omega), h5, h9] using st2
      · show AWl _ _ _ _ _
        refine aN rfl rfl (by constructor) ?_
        refine aN rfl rfl (by constructor) ?_
        refine aN rfl rfl (by constructor) ?_
        refine aN rfl rfl (by constructor) ?_
        refine aN rfl rfl (by constructor) ?_
        refine aN rfl rfl (by constructor) ?_
        refine aSt st 2 rfl rfl rfl rfl (by first | rfl | simp [cellsOf, *]) (by first | decide | simp [*]) (by repeat constructor) fun H39 st => ?_
        refine sE ?_
        show AWl _ _ _ _ _
        refine aN rfl rfl (by constructor) ?_
        refine aN rfl rfl (by constructor) ?_
        refine aN rfl rfl (by constructor) ?_
        refine sE ?_
        refine ⟨_, out2 (r_tmp rfl (by constructor)) (r_tmp rfl (by constructor)) ⟨rfl, rfl⟩, ?_⟩
        have hE : descE s = 0 := by unfold descE; rw [if_neg (by simp [h3n])]
        have hR : descR s = descB s := if_pos hE
        have st2 := st.pick 2 rfl
        have e : descR s = _ := hR
        refine ⟨some b31, ?_, ?_⟩
        · rw [hR, hE]; have hlen : (descB s).length = 20 := by simp [descB, beB_len, keyB, h5, h9]
          rw [hlen]; rfl
        · rw [hR]; simpa [descB, beB, keyB, sen16, sen16b, or240, wi20, sen8 hs.2.1, w8, w64, u64id (show 0 ≤ s.code ∧ s.code < 18446744073709551616 by have := hs.2.1; omega), h5, h9] using st2
    · show AWl _ _ _ _ _
      refine aN rfl rfl (by constructor) ?_
      refine aLd st 1 rfl rfl rfl (by constructor) ?_
      refine sE ?_
      show AW _ (.cond _ _ _) _ _ _
      refine cC' rfl (fun h40 => ?_) (fun h40 => ?_)
      · show AWp _ _ _ _ _
        refine aN rfl rfl (by constructor) ?_
        refine aLdA st 1 rfl rfl (by first | decide | simp [*]) (by repeat constructor) ?_
        refine ⟨?_, ?_⟩
        · refine aLit st rfl (by repeat constructor) fun b35 H41 st => ?_
          refine ⟨⟨(h_LdA st 2 rfl rfl (by first | decide | simp [*]) (by repeat constructor)), trivial⟩, ?_⟩
          refine ⟨?_, ?_⟩
          · refine aAppP st 1 (ob := some b18) rfl rfl rfl (by decide) (by first | rfl | (simp [beB_len, *]; done) | (simp [beB_len, *]; omega)) (st.rowAll 0 rfl (by first | rfl | (simp [beB_len, *]; done) | (simp [beB_len, *]; omega))).src (by first | rfl | (simp [beB_len, *]; done) | (simp [beB_len, *]; omega)) (by first | decide | omega | (simp; omega)) (by first | decide | omega | (simp; omega)) (by first | decide | omega | (simp; omega)) (by repeat constructor) fun b36 H42 st => ?_
            refine ⟨⟨(h_LdA st 2 rfl rfl (by first | decide | simp [*]) (by repeat constructor)), trivial⟩, ?_⟩
            refine ⟨?_, ?_⟩
            · refine aC (key_call (form_key h3n h40)) fun v38 H43 ⟨b38, hv, st1⟩ => ?_
              subst hv
              replace st := st.call st1 rfl
              clear st1
              refine ⟨trivial, ?_⟩
              refine ⟨?_, ?_⟩
              · refine aAppP st 2 (ob := some b36) rfl rfl rfl (by decide) (by first | rfl | (simp [beB_len, *]; done) | (simp [beB_len, *]; omega)) (st.rowAll 0 rfl (rfl)).src (by first | rfl | (simp [beB_len, *]; done) | (simp [beB_len, *]; omega)) (by first | decide | omega | (simp; omega)) (by first | decide | omega | (simp; omega)) (by first | decide | omega | (simp; omega)) (by repeat constructor) fun b39 H44 st => ?_
                refine ⟨⟨(h_LdA st 3 rfl rfl (by first | decide | simp [*]) (by repeat constructor)), trivial⟩, ?_⟩
                refine ⟨?_, trivial⟩
                refine aLit st rfl (by repeat constructor) fun b40 H45 st => ?_
                refine ⟨⟨(h_LdA st 4 rfl rfl (by first | decide | simp [*]) (by repeat constructor)), trivial⟩, ?_⟩
                refine ⟨?_, trivial⟩
                refine aAppP st 3 (ob := some b39) rfl rfl rfl (by decide) (by first | rfl | (simp [beB_len, *]; done) | (simp [beB_len, *]; omega)) (st.rowAll 0 rfl (by first | rfl | (simp [beB_len, *]; done) | (simp [beB_len, *]; omega))).src (by first | rfl | (simp [beB_len, *]; done) | (simp [beB_len, *]; omega)) (by first | decide | omega | (simp; omega)) (by first | decide | omega | (simp; omega)) (by first | decide | omega | (simp; omega)) (by repeat constructor) fun b41 H46 st => ?_
                refine ⟨⟨(h_LdA st 4 rfl rfl (by first | decide | simp [*]) (by repeat constructor)), trivial⟩, ?_⟩
                refine ⟨?_, trivial⟩
                refine aN rfl rfl (by constructor) ?_
                refine ⟨trivial, ?_⟩
                refine pE ?_
                show AWl _ _ _ _ _
                refine aN rfl rfl (by constructor) ?_
                refine aN rfl rfl (by constructor) ?_
                refine aN rfl rfl (by constructor) ?_
                refine aN rfl rfl (by constructor) ?_
                refine aN rfl rfl (by constructor) ?_
                refine aN rfl rfl (by constructor) ?_
                refine aSt st 3 rfl rfl rfl rfl (by first | rfl | simp [cellsOf, *]) (by first | decide | simp [*]) (by repeat constructor) fun H47 st => ?_
                refine sE ?_
                show AWl _ _ _ _ _
                refine aN rfl rfl (by constructor) ?_
                refine aN rfl rfl (by constructor) ?_
                refine aN rfl rfl (by constructor) ?_
                refine sE ?_
                refine ⟨_, out2 (r_tmp rfl (by constructor)) (r_tmp rfl (by constructor)) ⟨rfl, rfl⟩, ?_⟩
                have hi0 := form_noinfo h3n h5
                have hE : descE s = 0 := by unfold descE; rw [if_neg (by simp [h3n])]
                have hR : descR s = descB s := if_pos hE
                have st2 := st.pick 3 rfl
                have e : descR s = _ := hR
                refine ⟨some b41, ?_, ?_⟩
                · rw [hR, hE]; have hlen : (descB s).length = 16 := by simp [descB, beB_len, keyB, h5, h40]
                  rw [hlen]; rfl
                · rw [hR]; simpa [descB, beB, keyB, sen16, sen16b, or240, wi20, sen8 hs.2.1, w8, w64, u64id (show 0 ≤ s.code ∧ s.code < 18446744073709551616 by have := hs.2.1; omega), h5, h40, hi0] using st2
              · refine ⟨?_, trivial⟩
                refine aLit st rfl (by repeat constructor) fun b40 H48 st => ?_
                refine ⟨⟨(h_LdA st 4 rfl rfl (by first | decide | simp [*]) (by repeat constructor)), trivial⟩, ?_⟩
                refine ⟨?_, trivial⟩
                refine aAppP st 3 (ob := some b36) rfl rfl rfl (by decide) (by first | rfl | (simp [beB_len, *]; done) | (simp [beB_len, *]; omega)) (st.rowAll 1 rfl (rfl)).src (by first | rfl | (simp [beB_len, *]; done) | (simp [beB_len, *]; omega)) (by first | decide | omega | (simp; omega)) (by first | decide | omega | (simp; omega)) (by first | decide | omega | (simp; omega)) (by repeat constructor) fun b39 H49 st => ?_
                refine ⟨⟨(h_LdA st 4 rfl rfl (by first | decide | simp [*]) (by repeat constructor)), trivial⟩, ?_⟩
                refine ⟨?_, trivial⟩
                refine aAppP st 3 (ob := some b39) rfl rfl rfl (by decide) (by first | rfl | (simp [beB_len, *]; done) | (simp [beB_len, *]; omega)) (st.rowAll 0 rfl (by first | rfl | (simp [beB_len, *]; done) | (simp [beB_len, *]; omega))).src (by first | rfl | (simp [beB_len, *]; done) | (simp [beB_len, *]; omega)) (by first | decide | omega | (simp; omega)) (by first | decide | omega | (simp; omega)) (by first | decide | omega | (simp; omega)) (by repeat constructor) fun b41 H50 st => ?_
                refine ⟨⟨(h_LdA st 4 rfl rfl (by first | decide | simp [*]) (by repeat constructor)), trivial⟩, ?_⟩
                refine ⟨?_, trivial⟩
                refine aN rfl rfl (by constructor) ?_
                refine ⟨trivial, ?_⟩
                refine pE ?_
                show AWl _ _ _ _ _
                refine aN rfl rfl (by constructor) ?_
                refine aN rfl rfl (by constructor) ?_
                refine aN rfl rfl (by constructor) ?_
                refine aN rfl rfl (by constructor) ?_
                refine aN rfl rfl (by constructor) ?_
                refine aN rfl rfl (by constructor) ?_
                refine aSt st 3 rfl rfl rfl rfl (by first | rfl | simp [cellsOf, *]) (by first | decide | simp [*]) (by repeat constructor) fun H51 st => ?_
                refine sE ?_
                show AWl _ _ _ _ _
                refine aN rfl rfl (by constructor) ?_
                refine aN rfl rfl (by constructor) ?_
                refine aN rfl rfl (by constructor) ?_
                refine sE ?_
                refine ⟨_, out2 (r_tmp rfl (by constructor)) (r_tmp rfl (by constructor)) ⟨rfl, rfl⟩, ?_⟩
                have hi0 := form_noinfo h3n h5
                have hE : descE s = 0 := by unfold descE; rw [if_neg (by simp [h3n])]
                have hR : descR s = descB s := if_pos hE
                have st2 := st.pick 3 rfl
                have e : descR s = _ := hR
                refine ⟨some b41, ?_, ?_⟩
                · rw [hR, hE]; have hlen : (descB s).length = 16 := by simp [descB, beB_len, keyB, h5, h40]
                  rw [hlen]; rfl
                · rw [hR]; simpa [descB, beB, keyB, sen16, sen16b, or240, wi20, sen8 hs.2.1, w8, w64, u64id (show 0 ≤ s.code ∧ s.code < 18446744073709551616 by have := hs.2.1; omega), h5, h40, hi0] using st2
            · refine ⟨?_, trivial⟩
              refine aLit st rfl (by repeat constructor) fun b40 H52 st => ?_
              refine ⟨⟨(h_LdA st 3 rfl rfl (by first | decide | simp [*]) (by repeat constructor)), trivial⟩, ?_⟩
              refine ⟨?_, trivial⟩
              refine aC (key_call (form_key h3n h40)) fun v38 H53 ⟨b38, hv, st1⟩ => ?_
              subst hv
              replace st := st.call st1 rfl
              clear st1
              refine ⟨trivial, ?_⟩
              refine ⟨?_, trivial⟩
              refine aAppP st 3 (ob := some b36) rfl rfl rfl (by decide) (by first | rfl | (simp [beB_len, *]; done) | (simp [beB_len, *]; omega)) (st.rowAll 0 rfl (rfl)).src (by first | rfl | (simp [beB_len, *]; done) | (simp [beB_len, *]; omega)) (by first | decide | omega | (simp; omega)) (by first | decide | omega | (simp; omega)) (by first | decide | omega | (simp; omega)) (by repeat constructor) fun b39 H54 st => ?_
              refine ⟨⟨(h_LdA st 4 rfl rfl (by first | decide | simp [*]) (by repeat constructor)), trivial⟩, ?_⟩
              refine ⟨?_, trivial⟩
              refine aAppP st 3 (ob := some b39) rfl rfl rfl (by decide) (by first | rfl | (simp [beB_len, *]; done) | (simp [beB_len, *]; omega)) (st.rowAll 1 rfl (by first | rfl | (simp [beB_len, *]; done) | (simp [beB_len, *]; omega))).src (by first | rfl | (simp [beB_len, *]; done) | (simp [beB_len, *]; omega)) (by first | decide | omega | (simp; omega)) (by first | decide | omega | (simp; omega)) (by first | decide | omega | (simp; omega)) (by repeat constructor) fun b41 H55 st => ?_
              refine ⟨⟨(h_LdA st 4 rfl rfl (by first | decide | simp [*]) (by repeat constructor)), trivial⟩, ?_⟩
              refine ⟨?_, trivial⟩
              refine aN rfl rfl (by constructor) ?_
              refine ⟨trivial, ?_⟩
              refine pE ?_
              show AWl _ _ _ _ _
              refine aN rfl rfl (by constructor) ?_
              refine aN rfl rfl (by constructor) ?_
              refine aN rfl rfl (by constructor) ?_
              refine aN rfl rfl (by constructor) ?_
              refine aN rfl rfl (by constructor) ?_
              refine aN rfl rfl (by constructor) ?_
              refine aSt st 3 rfl rfl rfl rfl (by first | rfl | simp [cellsOf, *]) (by first | decide | simp [*]) (by repeat constructor) fun H56 st => ?_
              refine sE ?_
              show AWl _ _ _ _ _
              refine aN rfl rfl (by constructor) ?_
              refine aN rfl rfl (by constructor) ?_
              refine aN rfl rfl (by constructor) ?_
              refine sE ?_
              refine ⟨_, out2 (r_tmp rfl (by constructor)) (r_tmp rfl (by constructor)) ⟨rfl, rfl⟩, ?_⟩
              have hi0 := form_noinfo h3n h5
              have hE : descE s = 0 := by unfold descE; rw [if_neg (by simp [h3n])]
              have hR : descR s = descB s := if_pos hE
              have st2 := st.pick 3 rfl
              have e : descR s = _ := hR
              refine ⟨some b41, ?_, ?_⟩
              · rw [hR, hE]; have hlen : (descB s).length = 16 := by simp [descB, beB_len, keyB, h5, h40]
                rw [hlen]; rfl
              · rw [hR]; simpa [descB, beB, keyB, sen16, sen16b, or240, wi20, sen8 hs.2.1, w8, w64, u64id (show 0 ≤ s.code ∧ s.code < 18446744073709551616 by have := hs.2.1; omega), h5, h40, hi0] using st2
          · refine ⟨?_, trivial⟩
            refine aLit st rfl (by repeat constructor) fun b40 H57 st => ?_
            refine ⟨⟨(h_LdA st 3 rfl rfl (by first | decide | simp [*]) (by repeat constructor)), trivial⟩, ?_⟩
            refine ⟨?_, trivial⟩
            refine aAppP st 2 (ob := some b18) rfl rfl rfl (by decide) (by first | rfl | (simp [beB_len, *]; done) | (simp [beB_len, *]; omega)) (st.rowAll 1 rfl (by first | rfl | (simp [beB_len, *]; done) | (simp [beB_len, *]; omega))).src (by first | rfl | (simp [beB_len, *]; done) | (simp [beB_len, *]; omega)) (by first | decide | omega | (simp; omega)) (by first | decide | omega | (simp; omega)) (by first | decide | omega | (simp; omega)) (by repeat constructor) fun b36 H58 st => ?_
            refine ⟨⟨(h_LdA st 3 rfl rfl (by first | decide | simp [*]) (by repeat constructor)), trivial⟩, ?_⟩
            refine ⟨?_, trivial⟩
            refine aC (key_call (form_key h3n h40)) fun v38 H59 ⟨b38, hv, st1⟩ => ?_
            subst hv
            replace st := st.call st1 rfl
            clear st1
            refine ⟨trivial, ?_⟩
            refine ⟨?_, trivial⟩
            refine aAppP st 3 (ob := some b36) rfl rfl rfl (by decide) (by first | rfl | (simp [beB_len, *]; done) | (simp [beB_len, *]; omega)) (st.rowAll 0 rfl (rfl)).src (by first | rfl | (simp [beB_len, *]; done) | (simp [beB_len, *]; omega)) (by first | decide | omega | (simp; omega)) (by first | decide | omega | (simp; omega)) (by first | decide | omega | (simp; omega)) (by repeat constructor) fun b39 H60 st => ?_
            refine ⟨⟨(h_LdA st 4 rfl rfl (by first | decide | simp [*]) (by repeat constructor)), trivial⟩, ?_⟩
            refine ⟨?_, trivial⟩
            refine aAppP st 3 (ob := some b39) rfl rfl rfl (by decide) (by first | rfl | (simp [beB_len, *]; done) | (simp [beB_len, *]; omega)) (st.rowAll 1 rfl (by first | rfl | (simp [beB_len, *]; done) | (simp [beB_len, *]; omega))).src (by first | rfl | (simp [beB_len, *]; done) | (simp [beB_len, *]; omega)) (by first | decide | omega | (simp; omega)) (by first | decide | omega | (simp; omega)) (by first | decide | omega | (simp; omega)) (by repeat constructor) fun b41 H61 st => ?_
            refine ⟨⟨(h_LdA st 4 rfl rfl (by first | decide | simp [*]) (by repeat constructor)), trivial⟩, ?_⟩
            refine ⟨?_, trivial⟩
            refine aN rfl rfl (by constructor) ?_
            refine ⟨trivial, ?_⟩
            refine pE ?_
            show AWl _ _ _ _ _
            refine aN rfl rfl (by constructor) ?_
            refine aN rfl rfl (by constructor) ?_
            refine aN rfl rfl (by constructor) ?_
            refine aN rfl rfl (by constructor) ?_
            refine aN rfl rfl (by constructor) ?_
            refine aN rfl rfl (by constructor) ?_
            refine aSt st 3 rfl rfl rfl rfl (by first | rfl | simp [cellsOf, *]) (by first | decide | simp [*]) (by repeat constructor) fun H62 st => ?_
            refine sE ?_
            show AWl _ _ _ _ _
            refine aN rfl rfl (by constructor) ?_
            refine aN rfl rfl (by constructor) ?_
            refine aN rfl rfl (by constructor) ?_
            refine sE ?_
            refine ⟨_, out2 (r_tmp rfl (by constructor)) (r_tmp rfl (by constructor)) ⟨rfl, rfl⟩, ?_⟩
            have hi0 := form_noinfo h3n h5
            have hE : descE s = 0 := by unfold descE; rw [if_neg (by simp [h3n])]
            have hR : descR s = descB s := if_pos hE
            have st2 := st.pick 3 rfl
            have e : descR s = _ := hR
            refine ⟨some b41, ?_, ?_⟩
            · rw [hR, hE]; have hlen : (descB s).length = 16 := by simp [descB, beB_len, keyB, h5, h40]
              rw [hlen]; rfl
            · rw [hR]; simpa [descB, beB, keyB, sen16, sen16b, or240, wi20, sen8 hs.2.1, w8, w64, u64id (show 0 ≤ s.code ∧ s.code < 18446744073709551616 by have := hs.2.1; omega), h5, h40, hi0] using st2
        · refine ⟨?_, trivial⟩
          refine aLit st rfl (by repeat constructor) fun b40 H63 st => ?_
          refine ⟨⟨(h_LdA st 2 rfl rfl (by first | decide | simp [*]) (by repeat constructor)), trivial⟩, ?_⟩
          refine ⟨?_, trivial⟩
          refine aLit st rfl (by repeat constructor) fun b35 H64 st => ?_
          refine ⟨⟨(h_LdA st 3 rfl rfl (by first | decide | simp [*]) (by repeat constructor)), trivial⟩, ?_⟩
          refine ⟨?_, trivial⟩
          refine aAppP st 2 (ob := some b18) rfl rfl rfl (by decide) (by first | rfl | (simp [beB_len, *]; done) | (simp [beB_len, *]; omega)) (st.rowAll 0 rfl (by first | rfl | (simp [beB_len, *]; done) | (simp [beB_len, *]; omega))).src (by first | rfl | (simp [beB_len, *]; done) | (simp [beB_len, *]; omega)) (by first | decide | omega | (simp; omega)) (by first | decide | omega | (simp; omega)) (by first | decide | omega | (simp; omega)) (by repeat constructor) fun b36 H65 st => ?_
          refine ⟨⟨(h_LdA st 3 rfl rfl (by first | decide | simp [*]) (by repeat constructor)), trivial⟩, ?_⟩
          refine ⟨?_, trivial⟩
          refine aC (key_call (form_key h3n h40)) fun v38 H66 ⟨b38, hv, st1⟩ => ?_
          subst hv
          replace st := st.call st1 rfl
          clear st1
          refine ⟨trivial, ?_⟩
          refine ⟨?_, trivial⟩
          refine aAppP st 3 (ob := some b36) rfl rfl rfl (by decide) (by first | rfl | (simp [beB_len, *]; done) | (simp [beB_len, *]; omega)) (st.rowAll 0 rfl (rfl)).src (by first | rfl | (simp [beB_len, *]; done) | (simp [beB_len, *]; omega)) (by first | decide | omega | (simp; omega)) (by first | decide | omega | (simp; omega)) (by first | decide | omega | (simp; omega)) (by repeat constructor) fun b39 H67 st => ?_
          refine ⟨⟨(h_LdA st 4 rfl rfl (by first | decide | simp [*]) (by repeat constructor)), trivial⟩, ?_⟩
          refine ⟨?_, trivial⟩
          refine aAppP st 3 (ob := some b39) rfl rfl rfl (by decide) (by first | rfl | (simp [beB_len, *]; done) | (simp [beB_len, *]; omega)) (st.rowAll 2 rfl (by first | rfl | (simp [beB_len, *]; done) | (simp [beB_len, *]; omega))).src (by first | rfl | (simp [beB_len, *]; done) | (simp [beB_len, *]; omega)) (by first | decide | omega | (simp; omega)) (by first | decide | omega | (simp; omega)) (by first | decide | omega | (simp; omega)) (by repeat constructor) fun b41 H68 st => ?_
          refine ⟨⟨(h_LdA st 4 rfl rfl (by first | decide | simp [*]) (by repeat constructor)), trivial⟩, ?_⟩
          refine ⟨?_, trivial⟩
          refine aN rfl rfl (by constructor) ?_
          refine ⟨trivial, ?_⟩
          refine pE ?_
          show AWl _ _ _ _ _
          refine aN rfl rfl (by constructor) ?_
          refine aN rfl rfl (by constructor) ?_
          refine aN rfl rfl (by constructor) ?_
          refine aN rfl rfl (by constructor) ?_
          refine aN rfl rfl (by constructor) ?_
          refine aN rfl rfl (by constructor) ?_
          refine aSt st 3 rfl rfl rfl rfl (by first | rfl | simp [cellsOf, *]) (by first | decide | simp [*]) (by repeat constructor) fun H69 st => ?_
          refine sE ?_
          show AWl _ _ _ _ _
          refine aN rfl rfl (by constructor) ?_
          refine aN rfl rfl (by constructor) ?_
          refine aN rfl rfl (by constructor) ?_
          refine sE ?_
          refine ⟨_, out2 (r_tmp rfl (by constructor)) (r_tmp rfl (by constructor)) ⟨rfl, rfl⟩, ?_⟩
          have hi0 := form_noinfo h3n h5
          have hE : descE s = 0 := by unfold descE; rw [if_neg (by simp [h3n])]
          have hR : descR s = descB s := if_pos hE
          have st2 := st.pick 3 rfl
          have e : descR s = _ := hR
          refine ⟨some b41, ?_, ?_⟩
          · rw [hR, hE]; have hlen : (descB s).length = 16 := by simp [descB, beB_len, keyB, h5, h40]
            rw [hlen]; rfl
          · rw [hR]; simpa [descB, beB, keyB, sen16, sen16b, or240, wi20, sen8 hs.2.1, w8, w64, u64id (show 0 ≤ s.code ∧ s.code < 18446744073709551616 by have := hs.2.1; omega), h5, h40, hi0] using st2
      · show AWl _ _ _ _ _
        refine aN rfl rfl (by constructor) ?_
        refine aN rfl rfl (by constructor) ?_
        refine aN rfl rfl (by constructor) ?_
        refine aN rfl rfl (by constructor) ?_
        refine aN rfl rfl (by constructor) ?_
        refine aN rfl rfl (by constructor) ?_
        refine aSt st 0 rfl rfl rfl rfl (by first | rfl | simp [cellsOf, *]) (by first | decide | simp [*]) (by repeat constructor) fun H70 st => ?_
        refine sE ?_
        show AWl _ _ _ _ _
        refine aN rfl rfl (by constructor) ?_
        refine aN rfl rfl (by constructor) ?_
        refine aN rfl rfl (by constructor) ?_
        refine sE ?_
        refine ⟨_, out2 (r_tmp rfl (by constructor)) (r_tmp rfl (by constructor)) ⟨rfl, rfl⟩, ?_⟩
        have hi0 := form_noinfo h3n h5
        have hE : descE s = 0 := by unfold descE; rw [if_neg (by simp [h3n])]
        have hR : descR s = descB s := if_pos hE
        have st2 := st.pick 0 rfl
        have e : descR s = _ := hR
        refine ⟨some b18, ?_, ?_⟩
        · rw [hR, hE]; have hlen : (descB s).length = 8 := by simp [descB, beB_len, keyB, h5, h40]
          rw [hlen]; rfl
        · rw [hR]; simpa [descB, beB, keyB, sen16, sen16b, or240, wi20, sen8 hs.2.1, w8, w64, u64id (show 0 ≤ s.code ∧ s.code < 18446744073709551616 by have := hs.2.1; omega), h5, h40, hi0] using st2
end Go.Proofs.Ytloigiieoehimaa.Abs
