/- Sense: the formats. -/
import Derived.Test.YtloigiieoehimaaE2
set_option linter.unusedVariables false
set_option linter.unusedSimpArgs false
set_option maxRecDepth 100000
namespace Go.Proofs.Ytloigiieoehimaa.Abs
open Go Go.RowKit
theorem fixed_call {H : Hp} {s : Sn} (hs : s.wf) :
    ACalls Try.prog 9 [.agg #[.int .u8 s.key, .int .u16 s.code, .int .u64 s.info, .bool s.hi, .int .i64 s.fld, .int .i64 s.bit, .bool s.hf, .bool s.ic]] H (fun v H' => ∃ ob, v = .tuple #[accV ob (fixR s).length 1, .int .i64 (fixE s)] ∧ Stt [] H H' [⟨ob, true, ⟨true, 5, (fixR s).map (Value.int .u8)⟩⟩]) := by
  refine acallsW Try.func9 f9_ok (Nat.le_of_ble_eq_true rfl) fun hw => ?_
  have st : Stt [] H H [] := Stt.start hw
  unfold f9c
  show AWl _ _ _ _ _
  refine aBoxN st rfl rfl (by repeat constructor) rfl fun b1 H1 st => ?_
  refine aN rfl rfl (by constructor) ?_
  refine aN rfl rfl (by constructor) ?_
  refine sE ?_
  show AWl _ _ _ _ _
  refine aLdA st 0 rfl rfl (by first | decide | simp [*]) (by repeat constructor) ?_
  refine aC (form_call hs) fun v6 H2 ⟨hv, st1⟩ => ?_
  subst hv
  replace st := st.call st1 rfl
  clear st1
  refine aN rfl rfl (by constructor) ?_
  refine sE ?_
  show AW _ (.cond _ _ _) _ _ _
  refine cC' rfl (fun h3 => ?_) (fun h3 => ?_)
  · have h3n : formS s = false := by simpa using h3
    show AWl _ _ _ _ _
    refine aN rfl rfl (by constructor) ?_
    refine aN rfl rfl (by constructor) ?_
    refine sE ?_
    refine ⟨_, out2 (r_tmp rfl (by constructor)) (r_tmp rfl (by constructor)) ⟨rfl, rfl⟩, ?_⟩
    have hE : fixE s = 3 := by unfold fixE; rw [if_pos h3n]
    have hR : fixR s = [] := by unfold fixR; rw [hE]; rfl
    exact ⟨none, by rw [hR, hE]; rfl, by rw [hR]; exact (st.nil 5).pick 0 rfl⟩
  · have h3n : formS s = true := by simpa using h3
    show AWl _ _ _ _ _
    refine aN rfl rfl (by constructor) ?_
    refine aLd st 0 rfl rfl rfl (by constructor) ?_
    refine aN rfl rfl (by constructor) ?_
    refine gCase 10 rfl (fun h4 => ?_) (fun h4 => ?_)
    · refine gT rfl ?_
      refine aN rfl rfl (by constructor) ?_
      refine gT rfl ?_
      refine aLd st 0 rfl rfl rfl (by constructor) ?_
      refine gT rfl ?_
      refine aN rfl rfl (by constructor) ?_
      refine aN rfl rfl (by constructor) ?_
      refine sE ?_
      show AW _ (.cond _ _ _) _ _ _
      refine cC' rfl (fun h5 => ?_) (fun h5 => ?_)
      · show AWl _ _ _ _ _
        refine aN rfl rfl (by constructor) ?_
        refine aN rfl rfl (by constructor) ?_
        refine sE ?_
        refine ⟨_, out2 (r_tmp rfl (by constructor)) (r_tmp rfl (by constructor)) ⟨rfl, rfl⟩, ?_⟩
        have hE : fixE s = 4 := by unfold fixE; rw [if_neg (by simp [h3n]), if_pos]; have h1 := h5; simp at h1; omega
        have hR : fixR s = [] := by unfold fixR; rw [hE]; rfl
        exact ⟨none, by rw [hR, hE]; rfl, by rw [hR]; exact (st.nil 5).pick 0 rfl⟩
      · have hinf : s.info < 4294967296 := by have h1 := h5; simp at h1; omega
        show AWl _ _ _ _ _
        refine aNewS st rfl rfl (by repeat constructor) fun b15 H6 st => ?_
        refine aN rfl rfl (by constructor) ?_
        refine sE ?_
        show AWp _ _ _ _ _
        refine aN rfl rfl (by constructor) ?_
        refine aN rfl rfl (by constructor) ?_
        refine aN rfl rfl (by constructor) ?_
        refine aN rfl rfl (by constructor) ?_
        refine aN rfl rfl (by constructor) ?_
        refine aN rfl rfl (by constructor) ?_
        refine aLd st 1 rfl rfl rfl (by constructor) ?_
        refine aN rfl rfl (by constructor) ?_
        refine aLd st 1 rfl rfl rfl (by constructor) ?_
        refine aN rfl rfl (by constructor) ?_
        refine aN rfl rfl (by constructor) ?_
        refine aN rfl rfl (by constructor) ?_
        refine aLd st 1 rfl rfl rfl (by constructor) ?_
        refine aN rfl rfl (by constructor) ?_
        refine aN rfl rfl (by constructor) ?_
        refine ⟨?_, trivial⟩
        refine aSt st 0 rfl rfl rfl rfl (by first | rfl | simp [cellsOf, *]) (by first | decide | simp [*]) (by repeat constructor) fun H7 st => ?_
        refine ⟨⟨(h_Ld st 1 rfl rfl rfl (by constructor)), (h_Ld st 1 rfl rfl rfl (by constructor)), (h_Ld st 1 rfl rfl rfl (by constructor)), trivial⟩, ?_⟩
        refine aN rfl rfl (by constructor) ?_
        refine ⟨?_, trivial⟩
        refine aSt st 0 rfl rfl rfl rfl (by first | rfl | simp [cellsOf, *]) (by first | decide | simp [*]) (by repeat constructor) fun H8 st => ?_
        refine ⟨⟨(h_Ld st 1 rfl rfl rfl (by constructor)), (h_Ld st 1 rfl rfl rfl (by constructor)), trivial⟩, ?_⟩
        refine aN rfl rfl (by constructor) ?_
        refine ⟨?_, trivial⟩
        refine aSt st 0 rfl rfl rfl rfl (by first | rfl | simp [cellsOf, *]) (by first | decide | simp [*]) (by repeat constructor) fun H9 st => ?_
        refine ⟨⟨(h_Ld st 1 rfl rfl rfl (by constructor)), (h_Ld st 1 rfl rfl rfl (by constructor)), trivial⟩, ?_⟩
        refine aN rfl rfl (by constructor) ?_
        refine ⟨?_, trivial⟩
        refine aSt st 0 rfl rfl rfl rfl (by first | rfl | simp [cellsOf, *]) (by first | decide | simp [*]) (by repeat constructor) fun H10 st => ?_
        refine ⟨⟨(h_Ld st 1 rfl rfl rfl (by constructor)), trivial⟩, ?_⟩
        refine aN rfl rfl (by constructor) ?_
        refine ⟨?_, trivial⟩
        refine aSt st 0 rfl rfl rfl rfl (by first | rfl | simp [cellsOf, *]) (by first | decide | simp [*]) (by repeat constructor) fun H11 st => ?_
        refine ⟨trivial, ?_⟩
        refine pE ?_
        show AWl _ _ _ _ _
        refine aN rfl rfl (by constructor) ?_
        refine aLdQ st 1 rfl rfl rfl (congrArg Value.bool h4) ?_
        refine sE ?_
        show AW _ (.cond _ _ _) _ _ _
        refine cT rfl ?_
        show AWl _ _ _ _ _
        refine aN rfl rfl (by constructor) ?_
        refine aN rfl rfl (by constructor) ?_
        refine aLd st 0 rfl rfl rfl (by constructor) ?_
        refine aN rfl rfl (by constructor) ?_
        refine aN rfl rfl (by constructor) ?_
        refine aSt st 0 rfl rfl rfl rfl (by first | rfl | simp [cellsOf, *]) (by first | decide | simp [*]) (by repeat constructor) fun H12 st => ?_
        refine sE ?_
        show AWl _ _ _ _ _
        refine aN rfl rfl (by constructor) ?_
        refine aN rfl rfl (by constructor) ?_
        refine aLd st 1 rfl rfl rfl (by constructor) ?_
        have st := st.toI 0 rfl rfl (by repeat constructor)
        refine aC (put_call (st.rowAll 0 rfl rfl) (by have := hs.1; simp only [byteL_cons, byteL_nil, w8, and_true]; (repeat' apply And.intro); all_goals first | decide | omega) (by simp) (by simp) ⟨hs.2.2.1.1, hinf⟩) fun v46 H13 ⟨b46, hv, st1⟩ => ?_
        subst hv
        replace st := st.call st1 rfl
        clear st1
        refine aN rfl rfl (by constructor) ?_
        refine aN rfl rfl (by constructor) ?_
        refine aN rfl rfl (by constructor) ?_
        refine aN rfl rfl (by constructor) ?_
        refine sE ?_
        show AWl _ _ _ _ _
        refine aN rfl rfl (by constructor) ?_
        refine aLd st 2 rfl rfl rfl (by constructor) ?_
        refine sE ?_
        show AW _ (.cond _ _ _) _ _ _
        refine cC' rfl (fun h14 => ?_) (fun h14 => ?_)
        · show AWp _ _ _ _ _
          refine aN rfl rfl (by constructor) ?_
          refine aN rfl rfl (by constructor) ?_
          refine aLdA st 2 rfl rfl (by first | decide | simp [*]) (by repeat constructor) ?_
          refine ⟨?_, trivial⟩
          refine aC (key_call (form_key h3n h14)) fun v54 H15 ⟨b54, hv, st1⟩ => ?_
          subst hv
          replace st := st.call st1 rfl
          clear st1
          refine ⟨trivial, ?_⟩
          refine ⟨?_, trivial⟩
          refine aCopy st 1 rfl rfl (st.rowAll 0 rfl (rfl)).src (rfl) (by first | decide | simp) (by first | decide | simp) (by first | decide | (simp [beB_len]; done) | (simp [beB_len]; omega)) (by repeat constructor) fun H16 st => ?_
          refine ⟨⟨(h_LdA st 3 rfl rfl (by first | decide | simp [*]) (by repeat constructor)), trivial⟩, ?_⟩
          refine pE ?_
          show AWl _ _ _ _ _
          refine aN rfl rfl (by constructor) ?_
          refine aN rfl rfl (by constructor) ?_
          refine aN rfl rfl (by constructor) ?_
          refine sE ?_
          refine ⟨_, out2 (r_tmp rfl (by constructor)) (r_tmp rfl (by constructor)) ⟨rfl, rfl⟩, ?_⟩
          have hE : fixE s = 0 := by unfold fixE; rw [if_neg (by simp [h3n]), if_neg (by omega)]
          have hR : fixR s = fixedB s := if_pos hE
          have st2 := st.pick 1 rfl
          have e : fixR s = _ := hR
          refine ⟨some b46, ?_, ?_⟩
          · rw [hR, hE]; have hlen : (fixedB s).length = 18 := by simp [fixedB, beB_len, keyB, h4, h14]
            rw [hlen]; rfl
          · rw [hR]; simpa [fixedB, beB, keyB, sen16, sen16b, or240, wi20, sen8 hs.2.1, w8, w64, u64id (show 0 ≤ s.code ∧ s.code < 18446744073709551616 by have := hs.2.1; omega), h4, h14] using st2
        · show AWl _ _ _ _ _
          refine aN rfl rfl (by constructor) ?_
          refine aN rfl rfl (by constructor) ?_
          refine aN rfl rfl (by constructor) ?_
          refine sE ?_
          refine ⟨_, out2 (r_tmp rfl (by constructor)) (r_tmp rfl (by constructor)) ⟨rfl, rfl⟩, ?_⟩
          have hE : fixE s = 0 := by unfold fixE; rw [if_neg (by simp [h3n]), if_neg (by omega)]
          have hR : fixR s = fixedB s := if_pos hE
          have st2 := st.pick 0 rfl
          have e : fixR s = _ := hR
          refine ⟨some b46, ?_, ?_⟩
          · rw [hR, hE]; have hlen : (fixedB s).length = 18 := by simp [fixedB, beB_len, keyB, h4, h14]
            rw [hlen]; rfl
          · rw [hR]; simpa [fixedB, beB, keyB, sen16, sen16b, or240, wi20, sen8 hs.2.1, w8, w64, u64id (show 0 ≤ s.code ∧ s.code < 18446744073709551616 by have := hs.2.1; omega), h4, h14] using st2
    · refine gF rfl (by decide) ?_
      refine gF rfl (by decide) ?_
      refine gF rfl (by decide) ?_
      refine aN rfl rfl (by constructor) ?_
      refine sE ?_
      show AW _ (.cond _ _ _) _ _ _
      refine cF' rfl ?_
      show AWl _ _ _ _ _
      refine aNewS st rfl rfl (by repeat constructor) fun b15 H17 st => ?_
      refine aN rfl rfl (by constructor) ?_
      refine sE ?_
      show AWp _ _ _ _ _
      refine aN rfl rfl (by constructor) ?_
      refine aN rfl rfl (by constructor) ?_
      refine aN rfl rfl (by constructor) ?_
      refine aN rfl rfl (by constructor) ?_
      refine aN rfl rfl (by constructor) ?_
      refine aN rfl rfl (by constructor) ?_
      refine aLd st 1 rfl rfl rfl (by constructor) ?_
      refine aN rfl rfl (by constructor) ?_
      refine aLd st 1 rfl rfl rfl (by constructor) ?_
      refine aN rfl rfl (by constructor) ?_
      refine aN rfl rfl (by constructor) ?_
      refine aN rfl rfl (by constructor) ?_
      refine aLd st 1 rfl rfl rfl (by constructor) ?_
      refine aN rfl rfl (by constructor) ?_
      refine aN rfl rfl (by constructor) ?_
      refine ⟨?_, trivial⟩
      refine aSt st 0 rfl rfl rfl rfl (by first | rfl | simp [cellsOf, *]) (by first | decide | simp [*]) (by repeat constructor) fun H18 st => ?_
      refine ⟨⟨(h_Ld st 1 rfl rfl rfl (by constructor)), (h_Ld st 1 rfl rfl rfl (by constructor)), (h_Ld st 1 rfl rfl rfl (by constructor)), trivial⟩, ?_⟩
      refine aN rfl rfl (by constructor) ?_
      refine ⟨?_, trivial⟩
      refine aSt st 0 rfl rfl rfl rfl (by first | rfl | simp [cellsOf, *]) (by first | decide | simp [*]) (by repeat constructor) fun H19 st => ?_
      refine ⟨⟨(h_Ld st 1 rfl rfl rfl (by constructor)), (h_Ld st 1 rfl rfl rfl (by constructor)), trivial⟩, ?_⟩
      refine aN rfl rfl (by constructor) ?_
      refine ⟨?_, trivial⟩
      refine aSt st 0 rfl rfl rfl rfl (by first | rfl | simp [cellsOf, *]) (by first | decide | simp [*]) (by repeat constructor) fun H20 st => ?_
      refine ⟨⟨(h_Ld st 1 rfl rfl rfl (by constructor)), (h_Ld st 1 rfl rfl rfl (by constructor)), trivial⟩, ?_⟩
      refine aN rfl rfl (by constructor) ?_
      refine ⟨?_, trivial⟩
      refine aSt st 0 rfl rfl rfl rfl (by first | rfl | simp [cellsOf, *]) (by first | decide | simp [*]) (by repeat constructor) fun H21 st => ?_
      refine ⟨⟨(h_Ld st 1 rfl rfl rfl (by constructor)), trivial⟩, ?_⟩
      refine aN rfl rfl (by constructor) ?_
      refine ⟨?_, trivial⟩
      refine aSt st 0 rfl rfl rfl rfl (by first | rfl | simp [cellsOf, *]) (by first | decide | simp [*]) (by repeat constructor) fun H22 st => ?_
      refine ⟨trivial, ?_⟩
      refine pE ?_
      show AWl _ _ _ _ _
      refine aN rfl rfl (by constructor) ?_
      refine aLdQ st 1 rfl rfl rfl (congrArg Value.bool h4) ?_
      refine sE ?_
      show AW _ (.cond _ _ _) _ _ _
      refine cF' rfl ?_
      show AWl _ _ _ _ _
      refine aN rfl rfl (by constructor) ?_
      refine aLd st 1 rfl rfl rfl (by constructor) ?_
      refine sE ?_
      show AW _ (.cond _ _ _) _ _ _
      refine cC' rfl (fun h23 => ?_) (fun h23 => ?_)
      · show AWp _ _ _ _ _
        refine aN rfl rfl (by constructor) ?_
        refine aN rfl rfl (by constructor) ?_
        refine aLdA st 1 rfl rfl (by first | decide | simp [*]) (by repeat constructor) ?_
        refine ⟨?_, trivial⟩
        refine aC (key_call (form_key h3n h23)) fun v54 H24 ⟨b54, hv, st1⟩ => ?_
        subst hv
        replace st := st.call st1 rfl
        clear st1
        refine ⟨trivial, ?_⟩
        refine ⟨?_, trivial⟩
        refine aCopy st 1 rfl rfl (st.rowAll 0 rfl (rfl)).src (rfl) (by first | decide | simp) (by first | decide | simp) (by first | decide | (simp [beB_len]; done) | (simp [beB_len]; omega)) (by repeat constructor) fun H25 st => ?_
        refine ⟨⟨(h_LdA st 2 rfl rfl (by first | decide | simp [*]) (by repeat constructor)), trivial⟩, ?_⟩
        refine pE ?_
        show AWl _ _ _ _ _
        refine aN rfl rfl (by constructor) ?_
        refine aN rfl rfl (by constructor) ?_
        refine aN rfl rfl (by constructor) ?_
        refine sE ?_
        refine ⟨_, out2 (r_tmp rfl (by constructor)) (r_tmp rfl (by constructor)) ⟨rfl, rfl⟩, ?_⟩
        have hi0 := form_noinfo h3n h4
        have hE : fixE s = 0 := by unfold fixE; rw [if_neg (by simp [h3n]), if_neg (by omega)]
        have hR : fixR s = fixedB s := if_pos hE
        have st2 := st.pick 1 rfl
        have e : fixR s = _ := hR
        refine ⟨some b15, ?_, ?_⟩
        · rw [hR, hE]; have hlen : (fixedB s).length = 18 := by simp [fixedB, beB_len, keyB, h4, h23]
          rw [hlen]; rfl
        · rw [hR]; simpa [fixedB, beB, keyB, sen16, sen16b, or240, wi20, sen8 hs.2.1, w8, w64, u64id (show 0 ≤ s.code ∧ s.code < 18446744073709551616 by have := hs.2.1; omega), h4, h23, hi0] using st2
      · show AWl _ _ _ _ _
        refine aN rfl rfl (by constructor) ?_
        refine aN rfl rfl (by constructor) ?_
        refine aN rfl rfl (by constructor) ?_
        refine sE ?_
        refine ⟨_, out2 (r_tmp rfl (by constructor)) (r_tmp rfl (by constructor)) ⟨rfl, rfl⟩, ?_⟩
        have hi0 := form_noinfo h3n h4
        have hE : fixE s = 0 := by unfold fixE; rw [if_neg (by simp [h3n]), if_neg (by omega)]
        have hR : fixR s = fixedB s := if_pos hE
        have st2 := st.pick 0 rfl
        have e : fixR s = _ := hR
        refine ⟨some b15, ?_, ?_⟩
        · rw [hR, hE]; have hlen : (fixedB s).length = 18 := by simp [fixedB, beB_len, keyB, h4, h23]
          rw [hlen]; rfl
        · rw [hR]; simpa [fixedB, beB, keyB, sen16, sen16b, or240, wi20, sen8 hs.2.1, w8, w64, u64id (show 0 ≤ s.code ∧ s.code < 18446744073709551616 by have := hs.2.1; omega), h4, h23, hi0] using st2
end Go.Proofs.Ytloigiieoehimaa.Abs
